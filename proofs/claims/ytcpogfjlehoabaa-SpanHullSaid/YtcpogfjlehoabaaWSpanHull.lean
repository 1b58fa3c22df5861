/- THE WALKS, lifted by program: on. -/
import Derived.Test.YtcpogfjlehoabaaWSpanHulla
namespace Go.Proofs.Ytcpogfjlehoabaa
open Go Go.Am Go.Sh
theorem span_Has_1_ok (p0 : api_Span) (p1 : Int) (r : Bool) (h0 : span_Has_1 p0 p1 = some r) : Pure Try.prog tab 45 [.agg [.int .i64 p0.Lo, .int .i64 p0.Hi], .box [.int .i64 p1]] (.bool r) := by
  unfold span_Has_1 at h0
  refine pure_of_run Try.func45 rfl (by kernel_rfl) (by kernel_rfl) rfl ?_
  refine rk_seq ?_
  refine rk_region ?_
  refine ok_new (.ref 0 2 0 0) (.dat 2 [[.int .i64 p0.Lo, .int .i64 p0.Hi]]) rfl rfl ?_
  refine ok_as rfl rfl ?_
  refine ok_nil ?_
  refine rk_seq ?_
  refine rk_region ?_
  refine ok_v (.ref 0 2 0 0) rfl rfl ?_
  refine ok_v (.d (.int .i64 p0.Lo)) rfl rfl ?_
  refine ok_v (.d (.int .i64 p1)) rfl rfl ?_
  refine ok_v (.d (.bool (decide (p0.Lo ≤ p1)))) rfl rfl ?_
  obtain ⟨c1, h2, h0⟩ := bindE h0
  refine ok_cutQ 6 (fun A st => ∃ (j3 j4 j5 j6 j7 : V), st = A [(13, .d (.bool c1)), (12, j7), (11, j6), (10, j5), (9, j4), (8, j3)]) ?_ ?_
  · refine ok_mvB rfl rfl h2 (fun h2 => ?_) (fun h2 => ?_)
    · refine ok_v (.d (.int .i64 p1)) rfl rfl ?_
      refine ok_v (.ref 0 2 0 1) rfl rfl ?_
      refine ok_v (.d (.int .i64 p0.Hi)) rfl rfl ?_
      refine ok_v (.d (.bool (decide (p1 < p0.Hi)))) rfl rfl ?_
      refine ok_v (.d (.bool (decide (p1 < p0.Hi)))) rfl rfl ?_
      refine ok_nil ?_
      obtain rfl := someE h2
      exact ⟨_, _, _, _, _, rfl⟩
    · refine ok_sg rfl ?_
      refine ok_sg rfl ?_
      refine ok_sg rfl ?_
      refine ok_sg rfl ?_
      refine ok_v (.d (.bool false)) rfl rfl ?_
      refine ok_nil ?_
      obtain rfl := someE h2
      exact ⟨_, _, _, _, _, rfl⟩
  · rintro _ ⟨j3, j4, j5, j6, j7, rfl⟩
    refine ok_as rfl rfl ?_
    refine ok_nil ?_
    refine rk_ret ?_
    obtain rfl := someE h0
    exact finD (.inr rfl) (v := .d (.bool c1)) rfl rfl (.refl _)

theorem span_Has_ok (p0 : List api_Span) (p1 : Int) (r : Bool) (h0 : span_Has p0 p1 = some r) : Pure Try.prog tab 29 [.sl 2 (p0.map enc_api_Span), .int .i64 p1] (.bool r) := by
  unfold span_Has at h0
  refine pure_of_run Try.func29 rfl (by kernel_rfl) (by kernel_rfl) rfl ?_
  refine rk_seq ?_
  refine rk_region ?_
  refine ok_new (.ref 0 1 0 0) (.dat 1 [[.int .i64 p1]]) rfl rfl ?_
  refine ok_as rfl rfl ?_
  refine ok_nil ?_
  refine rk_seq ?_
  refine rk_region ?_
  refine ok_mv rfl rfl ?_
  refine ok_v (.fn 45 [.ref 0 1 0 0]) rfl rfl ?_
  obtain ⟨r1, h2, h0⟩ := bindE h0
  refine ok_pc [.d (.sl 2 (p0.map enc_api_Span)), .fn 45 [.ref 0 1 0 0]] (slices_ContainsFunc_api_Span_api_Span_ok p0 (fun x0 => span_Has_1 x0 p1) 45 [.box [.int .i64 p1]] (fun x0 r hr => span_Has_1_ok x0 p1 r hr) r1 h2) rfl rfl (af_cons rfl (af_cons (td_fn (mm_cons rfl rfl)) rfl)) (.inr rfl) ?_
  refine ok_as rfl rfl ?_
  refine ok_nil ?_
  refine rk_ret ?_
  obtain rfl := someE h0
  exact finD (.inr rfl) (v := .d (.bool r1)) rfl rfl (.refl _)

theorem r11_Same_ok (p0 : List api_Span) (p1 : List api_Span) (r : Bool) (h0 : r11_Same p0 p1 = some r) : Pure Try.prog tab 17 [.sl 2 (p0.map enc_api_Span), .sl 2 (p1.map enc_api_Span)] (.bool r) := by
  unfold r11_Same at h0
  refine pure_of_run Try.func17 rfl (by kernel_rfl) (by kernel_rfl) rfl ?_
  refine rk_seq ?_
  refine rk_region ?_
  refine ok_as rfl rfl ?_
  refine ok_nil ?_
  refine rk_seq ?_
  refine rk_seq ?_
  refine rk_region ?_
  refine ok_mv rfl rfl ?_
  refine ok_ln rfl rfl rfl rfl ?_
  refine ok_mv rfl rfl ?_
  refine ok_ln rfl rfl rfl rfl ?_
  refine ok_v (.d (.bool ((p0.length : Int) != (p1.length : Int)))) rfl rfl ?_
  refine ok_nil ?_
  refine rk_condH rfl h0 (fun _ h0 => ?_) (fun _ h0 => ?_)
  · refine rk_seq ?_
    refine rk_region ?_
    refine ok_as rfl rfl ?_
    refine ok_nil ?_
    refine rk_ret ?_
    obtain rfl := someE h0
    exact finD (.inr rfl) (v := .d (.bool false)) rfl rfl (.refl _)
  · refine rk_skip ?_
    refine rk_seq ?_
    refine rk_seq ?_
    refine rk_region ?_
    refine ok_as rfl rfl ?_
    refine ok_nil ?_
    obtain ⟨m20, h21, h0⟩ := bindE h0
    refine rk_blockcut (fun b22 => .inl b22 = m20) (fun (b22 : Unit) => ⟨[], [], 0⟩) (by simp) ?_ ?_
    · refine rk_loopF (r11_Same_L1 p0 p1) (fun (a19 : Int) => ⟨[(0, .d (.sl 2 (p0.map enc_api_Span))), (1, .d (.sl 2 (p1.map enc_api_Span))), (5, .d (.int .i64 a19))], [], 0⟩) 0 m20 h21 (wkE [] [] [] rfl ⟨⟨_, rfl, .d (.refl _)⟩, ⟨_, rfl, .d (.refl _)⟩, ⟨_, rfl, .d (.refl _)⟩, trivial⟩ trivial) ?_
      intro a19 y17 h18
      unfold r11_Same_L1 at h18
      refine rk_seq ?_
      refine rk_seq ?_
      refine rk_region ?_
      refine ok_mv rfl rfl ?_
      refine ok_mv rfl rfl ?_
      refine ok_ln rfl rfl rfl rfl ?_
      refine ok_v (.d (.bool (decide (a19 < (p0.length : Int))))) rfl rfl ?_
      refine ok_nil ?_
      refine rk_condH rfl h18 (fun _ h18 => ?_) (fun _ h18 => ?_)
      · refine rk_skip ?_
        refine rk_seq ?_
        refine rk_block ?_
        refine rk_seq ?_
        refine rk_regionD (by kernel_rfl) ?_
        refine ok_mv rfl rfl ?_
        refine ok_mv rfl rfl ?_
        obtain ⟨v27, h28, h18⟩ := bindE h18
        refine ok_ix (enc := enc_api_Span) h28 rfl rfl rfl rfl rfl rfl ?_
        refine ok_v (.d (.agg [.int .i64 v27.Lo, .int .i64 v27.Hi])) rfl rfl ?_
        refine ok_mv rfl rfl ?_
        refine ok_mv rfl rfl ?_
        obtain ⟨v29, h30, h18⟩ := bindE h18
        refine ok_ix (enc := enc_api_Span) h30 rfl rfl rfl rfl rfl rfl ?_
        refine ok_v (.d (.agg [.int .i64 v29.Lo, .int .i64 v29.Hi])) rfl rfl ?_
        refine ok_v (.d (.bool (!((v27.Lo == v29.Lo) && ((v27.Hi == v29.Hi) && true))))) rfl rfl ?_
        refine ok_nil ?_
        refine rk_condH rfl h18 (fun _ h18 => ?_) (fun _ h18 => ?_)
        · refine rk_seq ?_
          refine rk_region ?_
          refine ok_as rfl rfl ?_
          refine ok_nil ?_
          refine rk_ret ?_
          refine ⟨_, (Option.some.inj h18).symm, fun hm => ?_⟩
          subst hm
          obtain rfl := someE h0
          exact finD (.inr rfl) (v := .d (.bool false)) rfl rfl (.refl _)
        · refine rk_skip ?_
          refine rk_nil ?_
          refine blk_nor ?_
          refine rk_region ?_
          refine ok_mv rfl rfl ?_
          refine ok_v (.d (.int .i64 (w64 (a19 + 1)))) rfl rfl ?_
          refine ok_as rfl rfl ?_
          refine ok_nil ?_
          refine rk_nil ?_
          exact ⟨_, (Option.some.inj h18).symm, wkE [] [] [] rfl ⟨⟨_, rfl, .d (.refl _)⟩, ⟨_, rfl, .d (.refl _)⟩, ⟨_, rfl, .d (.refl _)⟩, trivial⟩ trivial⟩
      · refine rk_exit ?_
        refine ⟨_, (Option.some.inj h18).symm, fun hm => ?_⟩
        subst hm
        exact ⟨_, rfl, wkE [] [] [] rfl trivial trivial⟩
    · intro b22 hb
      subst hb
      refine rk_seq ?_
      refine rk_region ?_
      refine ok_as rfl rfl ?_
      refine ok_nil ?_
      refine rk_ret ?_
      obtain rfl := someE h0
      exact finD (.inr rfl) (v := .d (.bool true)) rfl rfl (.refl _)

theorem l11_alive_ok (r : Bool) (h0 : l11_alive = some r) : Pure Try.prog tab 31 [] (.bool r) := by
  unfold l11_alive at h0
  refine pure_of_run Try.func31 rfl (by kernel_rfl) (by kernel_rfl) rfl ?_
  refine rk_seq ?_
  refine rk_region ?_
  refine ok_as rfl rfl ?_
  refine ok_nil ?_
  refine rk_seq ?_
  refine rk_region ?_
  refine ok_v (.d (.agg [.int .i64 0, .int .i64 3])) rfl rfl ?_
  refine ok_v (.d (.agg [.int .i64 5, .int .i64 6])) rfl rfl ?_
  refine ok_v (.d (.agg [.int .i64 2, .int .i64 5])) rfl rfl ?_
  refine ok_fzn (es := 2) ([({ Lo := 0, Hi := 3 } : api_Span), ({ Lo := 5, Hi := 6 } : api_Span), ({ Lo := 2, Hi := 5 } : api_Span)].map enc_api_Span) rfl rfl rfl rfl rfl ?_
  obtain ⟨r1, h2, h0⟩ := bindE h0
  refine ok_pc [.d (.sl 2 ([({ Lo := 0, Hi := 3 } : api_Span), ({ Lo := 5, Hi := 6 } : api_Span), ({ Lo := 2, Hi := 5 } : api_Span)].map enc_api_Span))] (span_Make_ok [({ Lo := 0, Hi := 3 } : api_Span), ({ Lo := 5, Hi := 6 } : api_Span), ({ Lo := 2, Hi := 5 } : api_Span)] r1 h2) rfl rfl rfl (.inl rfl) ?_
  refine ok_mv rfl rfl ?_
  refine ok_v (.d (.sl 2 (r1.1.map enc_api_Span))) rfl rfl ?_
  refine ok_v (.d (.int .i64 r1.2)) rfl rfl ?_
  refine ok_as rfl rfl ?_
  refine ok_as rfl rfl ?_
  refine ok_nil ?_
  refine rk_seq ?_
  refine rk_region ?_
  obtain ⟨r3, h4, h0⟩ := bindE h0
  refine ok_pc [] (l11_pair_ok r3 h4) rfl rfl rfl (.inl rfl) ?_
  obtain ⟨r5, h6, h0⟩ := bindE h0
  refine ok_pc [.d (.sl 2 (r3.map enc_api_Span))] (span_Length_ok r3 r5 h6) rfl rfl rfl (.inl rfl) ?_
  refine ok_mv rfl rfl ?_
  refine ok_v (.d (.int .i64 r5.1)) rfl rfl ?_
  refine ok_v (.d (.int .i64 r5.2)) rfl rfl ?_
  refine ok_as rfl rfl ?_
  refine ok_as rfl rfl ?_
  refine ok_nil ?_
  refine rk_seq ?_
  refine rk_region ?_
  obtain ⟨r7, h8, h0⟩ := bindE h0
  refine ok_pc [] (l11_pair_ok r7 h8) rfl rfl rfl (.inl rfl) ?_
  obtain ⟨r9, h10, h0⟩ := bindE h0
  refine ok_pc [.d (.sl 2 (r7.map enc_api_Span))] (span_Gaps_ok r7 r9 h10) rfl rfl rfl (.inl rfl) ?_
  refine ok_mv rfl rfl ?_
  refine ok_v (.d (.sl 2 (r9.1.map enc_api_Span))) rfl rfl ?_
  refine ok_v (.d (.int .i64 r9.2)) rfl rfl ?_
  refine ok_as rfl rfl ?_
  refine ok_as rfl rfl ?_
  refine ok_nil ?_
  refine rk_seq ?_
  refine rk_region ?_
  obtain ⟨r11, h12, h0⟩ := bindE h0
  refine ok_pc [] (l11_pair_ok r11 h12) rfl rfl rfl (.inl rfl) ?_
  refine ok_v (.d (.agg [.int .i64 1, .int .i64 5])) rfl rfl ?_
  refine ok_fzn (es := 2) ([({ Lo := 1, Hi := 5 } : api_Span)].map enc_api_Span) rfl rfl rfl rfl rfl ?_
  obtain ⟨r13, h14, h0⟩ := bindE h0
  refine ok_pc [.d (.sl 2 (r11.map enc_api_Span)), .d (.sl 2 ([({ Lo := 1, Hi := 5 } : api_Span)].map enc_api_Span))] (span_Minus_ok r11 [({ Lo := 1, Hi := 5 } : api_Span)] r13 h14) rfl rfl rfl (.inl rfl) ?_
  refine ok_mv rfl rfl ?_
  refine ok_v (.d (.sl 2 (r13.1.map enc_api_Span))) rfl rfl ?_
  refine ok_v (.d (.int .i64 r13.2)) rfl rfl ?_
  refine ok_as rfl rfl ?_
  refine ok_as rfl rfl ?_
  refine ok_nil ?_
  refine rk_seq ?_
  refine rk_region ?_
  obtain ⟨r15, h16, h0⟩ := bindE h0
  refine ok_pc [] (l11_pair_ok r15 h16) rfl rfl rfl (.inl rfl) ?_
  obtain ⟨r17, h18, h0⟩ := bindE h0
  refine ok_pc [.d (.sl 2 (r15.map enc_api_Span)), .d (.int .i64 3)] (span_Near_ok r15 3 r17 h18) rfl rfl rfl (.inl rfl) ?_
  refine ok_mv rfl rfl ?_
  refine ok_v (.d (.int .i64 r17.1)) rfl rfl ?_
  refine ok_v (.d (.int .i64 r17.2)) rfl rfl ?_
  refine ok_as rfl rfl ?_
  refine ok_as rfl rfl ?_
  refine ok_nil ?_
  refine rk_seq ?_
  refine rk_region ?_
  refine ok_mv rfl rfl ?_
  refine ok_v (.d (.bool (r1.2 == 0))) rfl rfl ?_
  obtain ⟨c19, h20, h0⟩ := bindE h0
  refine ok_cutQ 4 (fun A st => ∃ (j21 j22 j23 : V), st = A [(47, .d (.bool c19)), (46, j23), (45, j22), (44, j21)]) ?_ ?_
  · refine ok_mvB rfl rfl h20 (fun h20 => ?_) (fun h20 => ?_)
    · refine ok_mv rfl rfl ?_
      refine ok_v (.d (.bool (r5.2 == 0))) rfl rfl ?_
      refine ok_v (.d (.bool (r5.2 == 0))) rfl rfl ?_
      refine ok_nil ?_
      obtain rfl := someE h20
      exact ⟨_, _, _, rfl⟩
    · refine ok_sg rfl ?_
      refine ok_sg rfl ?_
      refine ok_v (.d (.bool false)) rfl rfl ?_
      refine ok_nil ?_
      obtain rfl := someE h20
      exact ⟨_, _, _, rfl⟩
  · rintro _ ⟨j21, j22, j23, rfl⟩
    obtain ⟨c24, h25, h0⟩ := bindE h0
    refine ok_cutQ 4 (fun A st => ∃ (j26 j27 j28 : V), st = A [(51, .d (.bool c24)), (50, j28), (49, j27), (48, j26)]) ?_ ?_
    · refine ok_mvB rfl rfl h25 (fun h25 => ?_) (fun h25 => ?_)
      · refine ok_mv rfl rfl ?_
        refine ok_v (.d (.bool (r9.2 == 0))) rfl rfl ?_
        refine ok_v (.d (.bool (r9.2 == 0))) rfl rfl ?_
        refine ok_nil ?_
        obtain rfl := someE h25
        exact ⟨_, _, _, rfl⟩
      · refine ok_sg rfl ?_
        refine ok_sg rfl ?_
        refine ok_v (.d (.bool false)) rfl rfl ?_
        refine ok_nil ?_
        obtain rfl := someE h25
        exact ⟨_, _, _, rfl⟩
    · rintro _ ⟨j26, j27, j28, rfl⟩
      obtain ⟨c29, h30, h0⟩ := bindE h0
      refine ok_cutQ 4 (fun A st => ∃ (j31 j32 j33 : V), st = A [(55, .d (.bool c29)), (54, j33), (53, j32), (52, j31)]) ?_ ?_
      · refine ok_mvB rfl rfl h30 (fun h30 => ?_) (fun h30 => ?_)
        · refine ok_mv rfl rfl ?_
          refine ok_v (.d (.bool (r13.2 == 0))) rfl rfl ?_
          refine ok_v (.d (.bool (r13.2 == 0))) rfl rfl ?_
          refine ok_nil ?_
          obtain rfl := someE h30
          exact ⟨_, _, _, rfl⟩
        · refine ok_sg rfl ?_
          refine ok_sg rfl ?_
          refine ok_v (.d (.bool false)) rfl rfl ?_
          refine ok_nil ?_
          obtain rfl := someE h30
          exact ⟨_, _, _, rfl⟩
      · rintro _ ⟨j31, j32, j33, rfl⟩
        obtain ⟨c34, h35, h0⟩ := bindE h0
        refine ok_cutQ 4 (fun A st => ∃ (j36 j37 j38 : V), st = A [(59, .d (.bool c34)), (58, j38), (57, j37), (56, j36)]) ?_ ?_
        · refine ok_mvB rfl rfl h35 (fun h35 => ?_) (fun h35 => ?_)
          · refine ok_mv rfl rfl ?_
            refine ok_v (.d (.bool (r17.2 == 0))) rfl rfl ?_
            refine ok_v (.d (.bool (r17.2 == 0))) rfl rfl ?_
            refine ok_nil ?_
            obtain rfl := someE h35
            exact ⟨_, _, _, rfl⟩
          · refine ok_sg rfl ?_
            refine ok_sg rfl ?_
            refine ok_v (.d (.bool false)) rfl rfl ?_
            refine ok_nil ?_
            obtain rfl := someE h35
            exact ⟨_, _, _, rfl⟩
        · rintro _ ⟨j36, j37, j38, rfl⟩
          obtain ⟨c39, h40, h0⟩ := bindE h0
          refine ok_cutQ 4 (fun A st => ∃ (j41 j42 j43 : V), st = A [(63, .d (.bool c39)), (62, j43), (61, j42), (60, j41)]) ?_ ?_
          · refine ok_mvB rfl rfl h40 (fun h40 => ?_) (fun h40 => ?_)
            · refine ok_mv rfl rfl ?_
              refine ok_v (.d (.bool (r5.1 == 5))) rfl rfl ?_
              refine ok_v (.d (.bool (r5.1 == 5))) rfl rfl ?_
              refine ok_nil ?_
              obtain rfl := someE h40
              exact ⟨_, _, _, rfl⟩
            · refine ok_sg rfl ?_
              refine ok_sg rfl ?_
              refine ok_v (.d (.bool false)) rfl rfl ?_
              refine ok_nil ?_
              obtain rfl := someE h40
              exact ⟨_, _, _, rfl⟩
          · rintro _ ⟨j41, j42, j43, rfl⟩
            obtain ⟨c44, h45, h0⟩ := bindE h0
            refine ok_cutQ 4 (fun A st => ∃ (j46 j47 j48 : V), st = A [(67, .d (.bool c44)), (66, j48), (65, j47), (64, j46)]) ?_ ?_
            · refine ok_mvB rfl rfl h45 (fun h45 => ?_) (fun h45 => ?_)
              · refine ok_mv rfl rfl ?_
                refine ok_v (.d (.bool (r17.1 == 1))) rfl rfl ?_
                refine ok_v (.d (.bool (r17.1 == 1))) rfl rfl ?_
                refine ok_nil ?_
                obtain rfl := someE h45
                exact ⟨_, _, _, rfl⟩
              · refine ok_sg rfl ?_
                refine ok_sg rfl ?_
                refine ok_v (.d (.bool false)) rfl rfl ?_
                refine ok_nil ?_
                obtain rfl := someE h45
                exact ⟨_, _, _, rfl⟩
            · rintro _ ⟨j46, j47, j48, rfl⟩
              obtain ⟨c53, h54, h0⟩ := bindE h0
              refine ok_cutQ 4 (fun A st => ∃ (j55 j56 j57 : V), st = A [(71, .d (.bool c53)), (70, j57), (69, j56), (68, j55)]) ?_ ?_
              · refine ok_mvB rfl rfl h54 (fun h54 => ?_) (fun h54 => ?_)
                · obtain ⟨r58, h59, h54⟩ := bindE h54
                  refine ok_pc [] (l11_pair_ok r58 h59) rfl rfl rfl (.inl rfl) ?_
                  obtain ⟨r60, h61, h54⟩ := bindE h54
                  refine ok_pc [.d (.sl 2 (r58.map enc_api_Span)), .d (.int .i64 6)] (span_Has_ok r58 6 r60 h61) rfl rfl rfl (.inl rfl) ?_
                  refine ok_v (.d (.bool r60)) rfl rfl ?_
                  refine ok_nil ?_
                  obtain rfl := someE h54
                  exact ⟨_, _, _, rfl⟩
                · refine ok_sg rfl ?_
                  refine ok_sg rfl ?_
                  refine ok_v (.d (.bool false)) rfl rfl ?_
                  refine ok_nil ?_
                  obtain rfl := someE h54
                  exact ⟨_, _, _, rfl⟩
              · rintro _ ⟨j55, j56, j57, rfl⟩
                obtain ⟨c66, h67, h0⟩ := bindE h0
                refine ok_cutQ 5 (fun A st => ∃ (j68 j69 j70 j71 : V), st = A [(76, .d (.bool c66)), (75, j71), (74, j70), (73, j69), (72, j68)]) ?_ ?_
                · refine ok_mvB rfl rfl h67 (fun h67 => ?_) (fun h67 => ?_)
                  · obtain ⟨r72, h73, h67⟩ := bindE h67
                    refine ok_pc [] (l11_pair_ok r72 h73) rfl rfl rfl (.inl rfl) ?_
                    obtain ⟨r74, h75, h67⟩ := bindE h67
                    refine ok_pc [.d (.sl 2 (r72.map enc_api_Span)), .d (.int .i64 7)] (span_Has_ok r72 7 r74 h75) rfl rfl rfl (.inl rfl) ?_
                    refine ok_v (.d (.bool (!r74))) rfl rfl ?_
                    refine ok_v (.d (.bool (!r74))) rfl rfl ?_
                    refine ok_nil ?_
                    obtain rfl := someE h67
                    exact ⟨_, _, _, _, rfl⟩
                  · refine ok_sg rfl ?_
                    refine ok_sg rfl ?_
                    refine ok_sg rfl ?_
                    refine ok_v (.d (.bool false)) rfl rfl ?_
                    refine ok_nil ?_
                    obtain rfl := someE h67
                    exact ⟨_, _, _, _, rfl⟩
                · rintro _ ⟨j68, j69, j70, j71, rfl⟩
                  refine ok_as rfl rfl ?_
                  refine ok_nil ?_
                  refine rk_seq ?_
                  refine rk_region ?_
                  refine ok_mv rfl rfl ?_
                  refine ok_mvB rfl rfl h0 (fun h0 => ?_) (fun h0 => ?_)
                  · refine ok_mv rfl rfl ?_
                    refine ok_v (.d (.agg [.int .i64 0, .int .i64 6])) rfl rfl ?_
                    refine ok_new (.hs 2 2 0 [({ Lo := 0, Hi := 6 } : api_Span)].length) (.dat 2 ([({ Lo := 0, Hi := 6 } : api_Span)].map enc_api_Span)) rfl rfl ?_
                    obtain ⟨r78, h79, h0⟩ := bindE h0
                    refine ok_pc [.d (.sl 2 (r1.1.map enc_api_Span)), .hs 2 2 0 [({ Lo := 0, Hi := 6 } : api_Span)].length] (r11_Same_ok r1.1 [({ Lo := 0, Hi := 6 } : api_Span)] r78 h79) rfl rfl (af_cons rfl (af_cons (td_hs rfl rfl) rfl)) (.inr rfl) ?_
                    refine ok_v (.d (.bool r78)) rfl rfl ?_
                    refine ok_mvB rfl rfl h0 (fun h0 => ?_) (fun h0 => ?_)
                    · refine ok_mv rfl rfl ?_
                      refine ok_v (.d (.agg [.int .i64 2, .int .i64 4])) rfl rfl ?_
                      refine ok_new (.hs 3 2 0 [({ Lo := 2, Hi := 4 } : api_Span)].length) (.dat 2 ([({ Lo := 2, Hi := 4 } : api_Span)].map enc_api_Span)) rfl rfl ?_
                      obtain ⟨r82, h83, h0⟩ := bindE h0
                      refine ok_pc [.d (.sl 2 (r9.1.map enc_api_Span)), .hs 3 2 0 [({ Lo := 2, Hi := 4 } : api_Span)].length] (r11_Same_ok r9.1 [({ Lo := 2, Hi := 4 } : api_Span)] r82 h83) rfl rfl (af_cons rfl (af_cons (td_hs rfl rfl) rfl)) (.inr rfl) ?_
                      refine ok_v (.d (.bool r82)) rfl rfl ?_
                      refine ok_mvB rfl rfl h0 (fun h0 => ?_) (fun h0 => ?_)
                      · refine ok_mv rfl rfl ?_
                        refine ok_v (.d (.agg [.int .i64 0, .int .i64 1])) rfl rfl ?_
                        refine ok_v (.d (.agg [.int .i64 5, .int .i64 7])) rfl rfl ?_
                        refine ok_new (.hs 4 2 0 [({ Lo := 0, Hi := 1 } : api_Span), ({ Lo := 5, Hi := 7 } : api_Span)].length) (.dat 2 ([({ Lo := 0, Hi := 1 } : api_Span), ({ Lo := 5, Hi := 7 } : api_Span)].map enc_api_Span)) rfl rfl ?_
                        obtain ⟨r86, h87, h0⟩ := bindE h0
                        refine ok_pc [.d (.sl 2 (r13.1.map enc_api_Span)), .hs 4 2 0 [({ Lo := 0, Hi := 1 } : api_Span), ({ Lo := 5, Hi := 7 } : api_Span)].length] (r11_Same_ok r13.1 [({ Lo := 0, Hi := 1 } : api_Span), ({ Lo := 5, Hi := 7 } : api_Span)] r86 h87) rfl rfl (af_cons rfl (af_cons (td_hs rfl rfl) rfl)) (.inr rfl) ?_
                        refine ok_v (.d (.bool r86)) rfl rfl ?_
                        refine ok_as rfl rfl ?_
                        refine ok_nil ?_
                        refine rk_ret ?_
                        obtain rfl := someE h0
                        exact finD (.inr rfl) (v := .d (.bool r86)) rfl rfl (.refl _)
                      · refine ok_sg rfl ?_
                        refine ok_sg rfl ?_
                        refine ok_sg rfl ?_
                        refine ok_sg rfl ?_
                        refine ok_sg rfl ?_
                        refine ok_v (.d (.bool false)) rfl rfl ?_
                        refine ok_as rfl rfl ?_
                        refine ok_nil ?_
                        refine rk_ret ?_
                        obtain rfl := someE h0
                        exact finD (.inr rfl) (v := .d (.bool false)) rfl rfl (.refl _)
                    · refine ok_sg rfl ?_
                      refine ok_sg rfl ?_
                      refine ok_sg rfl ?_
                      refine ok_sg rfl ?_
                      refine ok_v (.d (.bool false)) rfl rfl ?_
                      refine ok_mv rfl rfl ?_
                      refine ok_sg rfl ?_
                      refine ok_sg rfl ?_
                      refine ok_sg rfl ?_
                      refine ok_sg rfl ?_
                      refine ok_sg rfl ?_
                      refine ok_v (.d (.bool false)) rfl rfl ?_
                      refine ok_as rfl rfl ?_
                      refine ok_nil ?_
                      refine rk_ret ?_
                      obtain rfl := someE h0
                      exact finD (.inr rfl) (v := .d (.bool false)) rfl rfl (.refl _)
                  · refine ok_sg rfl ?_
                    refine ok_sg rfl ?_
                    refine ok_sg rfl ?_
                    refine ok_sg rfl ?_
                    refine ok_v (.d (.bool false)) rfl rfl ?_
                    refine ok_mv rfl rfl ?_
                    refine ok_sg rfl ?_
                    refine ok_sg rfl ?_
                    refine ok_sg rfl ?_
                    refine ok_sg rfl ?_
                    refine ok_v (.d (.bool false)) rfl rfl ?_
                    refine ok_mv rfl rfl ?_
                    refine ok_sg rfl ?_
                    refine ok_sg rfl ?_
                    refine ok_sg rfl ?_
                    refine ok_sg rfl ?_
                    refine ok_sg rfl ?_
                    refine ok_v (.d (.bool false)) rfl rfl ?_
                    refine ok_as rfl rfl ?_
                    refine ok_nil ?_
                    refine rk_ret ?_
                    obtain rfl := someE h0
                    exact finD (.inr rfl) (v := .d (.bool false)) rfl rfl (.refl _)

theorem r11_Valid_ok (p0 : api_Span) (r : Bool) (h0 : r11_Valid p0 = some r) : Pure Try.prog tab 36 [.agg [.int .i64 p0.Lo, .int .i64 p0.Hi]] (.bool r) := by
  unfold r11_Valid at h0
  refine pure_of_run Try.func36 rfl (by kernel_rfl) (by kernel_rfl) rfl ?_
  refine rk_seq ?_
  refine rk_region ?_
  refine ok_new (.ref 0 2 0 0) (.dat 2 [[.int .i64 p0.Lo, .int .i64 p0.Hi]]) rfl rfl ?_
  refine ok_as rfl rfl ?_
  refine ok_nil ?_
  refine rk_seq ?_
  refine rk_region ?_
  refine ok_v (.ref 0 2 0 0) rfl rfl ?_
  refine ok_v (.d (.int .i64 p0.Lo)) rfl rfl ?_
  refine ok_v (.ref 0 2 0 1) rfl rfl ?_
  refine ok_v (.d (.int .i64 p0.Hi)) rfl rfl ?_
  refine ok_v (.d (.bool (decide (p0.Lo < p0.Hi)))) rfl rfl ?_
  obtain ⟨c1, h2, h0⟩ := bindE h0
  refine ok_cutQ 5 (fun A st => ∃ (j3 j4 j5 j6 : V), st = A [(12, .d (.bool c1)), (11, j6), (10, j5), (9, j4), (8, j3)]) ?_ ?_
  · refine ok_mvB rfl rfl h2 (fun h2 => ?_) (fun h2 => ?_)
    · refine ok_v (.ref 0 2 0 0) rfl rfl ?_
      refine ok_v (.d (.int .i64 p0.Lo)) rfl rfl ?_
      refine ok_v (.d (.bool (decide (p0.Lo ≥ (-1000000))))) rfl rfl ?_
      refine ok_v (.d (.bool (decide (p0.Lo ≥ (-1000000))))) rfl rfl ?_
      refine ok_nil ?_
      obtain rfl := someE h2
      exact ⟨_, _, _, _, rfl⟩
    · refine ok_sg rfl ?_
      refine ok_sg rfl ?_
      refine ok_sg rfl ?_
      refine ok_v (.d (.bool false)) rfl rfl ?_
      refine ok_nil ?_
      obtain rfl := someE h2
      exact ⟨_, _, _, _, rfl⟩
  · rintro _ ⟨j3, j4, j5, j6, rfl⟩
    obtain ⟨c7, h8, h0⟩ := bindE h0
    refine ok_cutQ 5 (fun A st => ∃ (j9 j10 j11 j12 : V), st = A [(17, .d (.bool c7)), (16, j12), (15, j11), (14, j10), (13, j9)]) ?_ ?_
    · refine ok_mvB rfl rfl h8 (fun h8 => ?_) (fun h8 => ?_)
      · refine ok_v (.ref 0 2 0 1) rfl rfl ?_
        refine ok_v (.d (.int .i64 p0.Hi)) rfl rfl ?_
        refine ok_v (.d (.bool (decide (p0.Hi ≤ 1000000)))) rfl rfl ?_
        refine ok_v (.d (.bool (decide (p0.Hi ≤ 1000000)))) rfl rfl ?_
        refine ok_nil ?_
        obtain rfl := someE h8
        exact ⟨_, _, _, _, rfl⟩
      · refine ok_sg rfl ?_
        refine ok_sg rfl ?_
        refine ok_sg rfl ?_
        refine ok_v (.d (.bool false)) rfl rfl ?_
        refine ok_nil ?_
        obtain rfl := someE h8
        exact ⟨_, _, _, _, rfl⟩
    · rintro _ ⟨j9, j10, j11, j12, rfl⟩
      refine ok_as rfl rfl ?_
      refine ok_nil ?_
      refine rk_ret ?_
      obtain rfl := someE h0
      exact finD (.inr rfl) (v := .d (.bool c7)) rfl rfl (.refl _)

theorem r11_Check_ok (p0 : List api_Span) (r : Int) (h0 : r11_Check p0 = some r) : Pure Try.prog tab 28 [.sl 2 (p0.map enc_api_Span)] (.int .i64 r) := by
  unfold r11_Check at h0
  refine pure_of_run Try.func28 rfl (by kernel_rfl) (by kernel_rfl) rfl ?_
  refine rk_seq ?_
  refine rk_region ?_
  refine ok_as rfl rfl ?_
  refine ok_nil ?_
  refine rk_seq ?_
  refine rk_seq ?_
  refine rk_region ?_
  refine ok_mv rfl rfl ?_
  refine ok_ln rfl rfl rfl rfl ?_
  refine ok_v (.d (.bool (decide ((p0.length : Int) > 400)))) rfl rfl ?_
  refine ok_nil ?_
  refine rk_condH rfl h0 (fun _ h0 => ?_) (fun _ h0 => ?_)
  · refine rk_seq ?_
    refine rk_region ?_
    refine ok_as rfl rfl ?_
    refine ok_nil ?_
    refine rk_ret ?_
    obtain rfl := someE h0
    exact finD (.inr rfl) (v := .d (.int .i64 4)) rfl rfl (.refl _)
  · refine rk_skip ?_
    refine rk_seq ?_
    refine rk_seq ?_
    refine rk_region ?_
    refine ok_as rfl rfl ?_
    refine ok_nil ?_
    obtain ⟨m280, h281, h0⟩ := bindE h0
    refine rk_blockcut (fun b282 => .inl b282 = m280) (fun (b282 : Unit) => ⟨[], [], 0⟩) (by simp) ?_ ?_
    · refine rk_loopF (r11_Check_L1 p0) (fun (a279 : Int) => ⟨[(0, .d (.sl 2 (p0.map enc_api_Span))), (3, .d (.int .i64 a279))], [], 0⟩) 0 m280 h281 (wkE [] [] [] rfl ⟨⟨_, rfl, .d (.refl _)⟩, ⟨_, rfl, .d (.refl _)⟩, trivial⟩ trivial) ?_
      intro a279 y277 h278
      unfold r11_Check_L1 at h278
      refine rk_seq ?_
      refine rk_seq ?_
      refine rk_region ?_
      refine ok_mv rfl rfl ?_
      refine ok_mv rfl rfl ?_
      refine ok_ln rfl rfl rfl rfl ?_
      refine ok_v (.d (.bool (decide (a279 < (p0.length : Int))))) rfl rfl ?_
      refine ok_nil ?_
      refine rk_condH rfl h278 (fun _ h278 => ?_) (fun _ h278 => ?_)
      · refine rk_skip ?_
        refine rk_seq ?_
        refine rk_block ?_
        refine rk_seq ?_
        refine rk_regionD (by kernel_rfl) ?_
        refine ok_mv rfl rfl ?_
        refine ok_mv rfl rfl ?_
        obtain ⟨v352, h353, h278⟩ := bindE h278
        refine ok_ix (enc := enc_api_Span) h353 rfl rfl rfl rfl rfl rfl ?_
        refine ok_v (.d (.agg [.int .i64 v352.Lo, .int .i64 v352.Hi])) rfl rfl ?_
        obtain ⟨r354, h355, h278⟩ := bindE h278
        refine ok_pc [.d (.agg [.int .i64 v352.Lo, .int .i64 v352.Hi])] (r11_Valid_ok v352 r354 h355) rfl rfl rfl (.inl rfl) ?_
        refine ok_v (.d (.bool (!r354))) rfl rfl ?_
        obtain ⟨c379, h380, h278⟩ := bindE h278
        refine ok_cutQ 18 (fun A st => ∃ (j381 j382 j383 j384 j385 j386 j387 j388 j389 j390 j391 j392 j393 j394 j395 j396 j397 : V), st = A [(36, .d (.bool c379)), (35, j397), (34, j396), (33, j395), (32, j394), (31, j393), (30, j392), (29, j391), (28, j390), (27, j389), (26, j388), (25, j387), (24, j386), (23, j385), (22, j384), (21, j383), (20, j382), (19, j381)]) ?_ ?_
        · refine ok_mvB rfl rfl h380 (fun h380 => ?_) (fun h380 => ?_)
          · refine ok_sg rfl ?_
            refine ok_sg rfl ?_
            refine ok_sg rfl ?_
            refine ok_sg rfl ?_
            refine ok_sg rfl ?_
            refine ok_sg rfl ?_
            refine ok_sg rfl ?_
            refine ok_sg rfl ?_
            refine ok_sg rfl ?_
            refine ok_sg rfl ?_
            refine ok_sg rfl ?_
            refine ok_sg rfl ?_
            refine ok_sg rfl ?_
            refine ok_sg rfl ?_
            refine ok_sg rfl ?_
            refine ok_sg rfl ?_
            refine ok_v (.d (.bool true)) rfl rfl ?_
            refine ok_nil ?_
            obtain rfl := someE h380
            exact ⟨_, _, _, _, _, _, _, _, _, _, _, _, _, _, _, _, _, rfl⟩
          · refine ok_mv rfl rfl ?_
            refine ok_v (.d (.bool (decide (a279 > 0)))) rfl rfl ?_
            obtain ⟨c402, h403, h380⟩ := bindE h380
            refine ok_cutQ 14 (fun A st => ∃ (j404 j405 j406 j407 j408 j409 j410 j411 j412 j413 j414 j415 j416 : V), st = A [(35, .d (.bool c402)), (34, j416), (33, j415), (32, j414), (31, j413), (30, j412), (29, j411), (28, j410), (27, j409), (26, j408), (25, j407), (24, j406), (23, j405), (22, j404)]) ?_ ?_
            · refine ok_mvB rfl rfl h403 (fun h403 => ?_) (fun h403 => ?_)
              · refine ok_mv rfl rfl ?_
                refine ok_mv rfl rfl ?_
                refine ok_v (.d (.int .i64 (w64 (a279 - 1)))) rfl rfl ?_
                obtain ⟨v417, h418, h403⟩ := bindE h403
                refine ok_ix (enc := enc_api_Span) h418 rfl rfl rfl rfl rfl rfl ?_
                refine ok_v (.dref [.int .i64 v417.Lo, .int .i64 v417.Hi] 1) rfl rfl ?_
                refine ok_v (.d (.int .i64 v417.Hi)) rfl rfl ?_
                refine ok_mv rfl rfl ?_
                refine ok_mv rfl rfl ?_
                obtain ⟨v419, h420, h403⟩ := bindE h403
                refine ok_ix (enc := enc_api_Span) h420 rfl rfl rfl rfl rfl rfl ?_
                refine ok_v (.dref [.int .i64 v419.Lo, .int .i64 v419.Hi] 0) rfl rfl ?_
                refine ok_v (.d (.int .i64 v419.Lo)) rfl rfl ?_
                refine ok_v (.d (.bool (decide (v417.Hi ≥ v419.Lo)))) rfl rfl ?_
                refine ok_v (.d (.bool (decide (v417.Hi ≥ v419.Lo)))) rfl rfl ?_
                refine ok_nil ?_
                obtain rfl := someE h403
                exact ⟨_, _, _, _, _, _, _, _, _, _, _, _, _, rfl⟩
              · refine ok_sg rfl ?_
                refine ok_sg rfl ?_
                refine ok_sg rfl ?_
                refine ok_sg rfl ?_
                refine ok_sg rfl ?_
                refine ok_sg rfl ?_
                refine ok_sg rfl ?_
                refine ok_sg rfl ?_
                refine ok_sg rfl ?_
                refine ok_sg rfl ?_
                refine ok_sg rfl ?_
                refine ok_sg rfl ?_
                refine ok_v (.d (.bool false)) rfl rfl ?_
                refine ok_nil ?_
                obtain rfl := someE h403
                exact ⟨_, _, _, _, _, _, _, _, _, _, _, _, _, rfl⟩
            · rintro _ ⟨j404, j405, j406, j407, j408, j409, j410, j411, j412, j413, j414, j415, j416, rfl⟩
              refine ok_v (.d (.bool c402)) rfl rfl ?_
              refine ok_nil ?_
              obtain rfl := someE h380
              exact ⟨_, _, _, _, _, _, _, _, _, _, _, _, _, _, _, _, _, rfl⟩
        · rintro _ ⟨j381, j382, j383, j384, j385, j386, j387, j388, j389, j390, j391, j392, j393, j394, j395, j396, j397, rfl⟩
          refine ok_nil ?_
          refine rk_condH rfl h278 (fun _ h278 => ?_) (fun _ h278 => ?_)
          · refine rk_seq ?_
            refine rk_region ?_
            refine ok_as rfl rfl ?_
            refine ok_nil ?_
            refine rk_ret ?_
            refine ⟨_, (Option.some.inj h278).symm, fun hm => ?_⟩
            subst hm
            obtain rfl := someE h0
            exact finD (.inr rfl) (v := .d (.int .i64 8)) rfl rfl (.refl _)
          · refine rk_skip ?_
            refine rk_nil ?_
            refine blk_nor ?_
            refine rk_region ?_
            refine ok_mv rfl rfl ?_
            refine ok_v (.d (.int .i64 (w64 (a279 + 1)))) rfl rfl ?_
            refine ok_as rfl rfl ?_
            refine ok_nil ?_
            refine rk_nil ?_
            exact ⟨_, (Option.some.inj h278).symm, wkE [] [] [] rfl ⟨⟨_, rfl, .d (.refl _)⟩, ⟨_, rfl, .d (.refl _)⟩, trivial⟩ trivial⟩
      · refine rk_exit ?_
        refine ⟨_, (Option.some.inj h278).symm, fun hm => ?_⟩
        subst hm
        exact ⟨_, rfl, wkE [] [] [] rfl trivial trivial⟩
    · intro b282 hb
      subst hb
      refine rk_seq ?_
      refine rk_region ?_
      refine ok_as rfl rfl ?_
      refine ok_nil ?_
      refine rk_ret ?_
      obtain rfl := someE h0
      exact finD (.inr rfl) (v := .d (.int .i64 0)) rfl rfl (.refl _)

theorem span_Union_1_ok (p0 : Bool) (p1 : Bool) (r : Bool) (h0 : span_Union_1 p0 p1 = some r) : Pure Try.prog tab 38 [.bool p0, .bool p1] (.bool r) := by
  unfold span_Union_1 at h0
  refine pure_of_run Try.func38 rfl (by kernel_rfl) (by kernel_rfl) rfl ?_
  refine rk_seq ?_
  refine rk_region ?_
  refine ok_as rfl rfl ?_
  refine ok_nil ?_
  refine rk_seq ?_
  refine rk_region ?_
  refine ok_mv rfl rfl ?_
  obtain ⟨c1, h2, h0⟩ := bindE h0
  refine ok_cutQ 3 (fun A st => ∃ (j3 j4 : V), st = A [(8, .d (.bool c1)), (7, j4), (6, j3)]) ?_ ?_
  · refine ok_mvB rfl rfl h2 (fun h2 => ?_) (fun h2 => ?_)
    · refine ok_sg rfl ?_
      refine ok_v (.d (.bool true)) rfl rfl ?_
      refine ok_nil ?_
      obtain rfl := someE h2
      exact ⟨_, _, rfl⟩
    · refine ok_mv rfl rfl ?_
      refine ok_v (.d (.bool p1)) rfl rfl ?_
      refine ok_nil ?_
      obtain rfl := someE h2
      exact ⟨_, _, rfl⟩
  · rintro _ ⟨j3, j4, rfl⟩
    refine ok_as rfl rfl ?_
    refine ok_nil ?_
    refine rk_ret ?_
    obtain rfl := someE h0
    exact finD (.inr rfl) (v := .d (.bool c1)) rfl rfl (.refl _)

theorem span_Union_ok (p0 : List api_Span) (p1 : List api_Span) (r : List api_Span × Int) (h0 : span_Union p0 p1 = some r) : Pure Try.prog tab 18 [.sl 2 (p0.map enc_api_Span), .sl 2 (p1.map enc_api_Span)] (.tup [.sl 2 (r.1.map enc_api_Span), .int .i64 r.2]) := by
  unfold span_Union at h0
  refine pure_of_run Try.func18 rfl (by kernel_rfl) (by kernel_rfl) rfl ?_
  refine rk_seq ?_
  refine rk_region ?_
  refine ok_as rfl rfl ?_
  refine ok_as rfl rfl ?_
  refine ok_nil ?_
  refine rk_seq ?_
  refine rk_region ?_
  refine ok_mv rfl rfl ?_
  refine ok_mv rfl rfl ?_
  obtain ⟨r1, h2, h0⟩ := bindE h0
  refine ok_pc [.d (.sl 2 (p0.map enc_api_Span)), .d (.sl 2 (p1.map enc_api_Span)), .d (.fn 38 [])] (span_checked_ok p0 p1 (fun x0 x1 => span_Union_1 x0 x1) 38 [] (fun x0 x1 r hr => span_Union_1_ok x0 x1 r hr) r1 h2) rfl rfl rfl (.inl rfl) ?_
  refine ok_v (.d (.sl 2 (r1.1.map enc_api_Span))) rfl rfl ?_
  refine ok_v (.d (.int .i64 r1.2)) rfl rfl ?_
  refine ok_as rfl rfl ?_
  refine ok_as rfl rfl ?_
  refine ok_nil ?_
  refine rk_ret ?_
  obtain rfl := someE h0
  exact finD (.inr rfl) (v := .d (.tup [.sl 2 (r1.1.map enc_api_Span), .int .i64 r1.2])) rfl rfl (.refl _)

theorem span_Move_ok (p0 : List api_Span) (p1 : Int) (r : List api_Span × Int) (h0 : span_Move p0 p1 = some r) : Pure Try.prog tab 13 [.sl 2 (p0.map enc_api_Span), .int .i64 p1] (.tup [.sl 2 (r.1.map enc_api_Span), .int .i64 r.2]) := by
  unfold span_Move at h0
  refine pure_of_run Try.func13 rfl (by kernel_rfl) (by kernel_rfl) rfl ?_
  refine rk_seq ?_
  refine rk_region ?_
  refine ok_as rfl rfl ?_
  refine ok_as rfl rfl ?_
  refine ok_nil ?_
  refine rk_seq ?_
  refine rk_seq ?_
  refine rk_region ?_
  refine ok_mv rfl rfl ?_
  obtain ⟨r1, h2, h0⟩ := bindE h0
  refine ok_pc [.d (.sl 2 (p0.map enc_api_Span))] (span_Check_ok p0 r1 h2) rfl rfl rfl (.inl rfl) ?_
  refine ok_as rfl rfl ?_
  refine ok_nil ?_
  refine rk_seq ?_
  refine rk_region ?_
  refine ok_mv rfl rfl ?_
  refine ok_v (.d (.bool (r1 != 0))) rfl rfl ?_
  refine ok_nil ?_
  refine rk_condH rfl h0 (fun _ h0 => ?_) (fun _ h0 => ?_)
  · refine rk_seq ?_
    refine rk_region ?_
    refine ok_mv rfl rfl ?_
    refine ok_as rfl rfl ?_
    refine ok_as rfl rfl ?_
    refine ok_nil ?_
    refine rk_ret ?_
    obtain rfl := someE h0
    exact finD (.inr rfl) (v := .d (.tup [.nilsl, .int .i64 r1])) rfl rfl (dle_tup (.cons (.nil _) (.cons (.refl _) .nil)))
  · refine rk_skip ?_
    refine rk_seq ?_
    refine rk_seq ?_
    refine rk_region ?_
    refine ok_mv rfl rfl ?_
    refine ok_ln rfl rfl rfl rfl ?_
    refine ok_v (.d (.bool (decide ((p0.length : Int) > 0)))) rfl rfl ?_
    obtain ⟨c8, h9, h0⟩ := bindE h0
    refine ok_cutQ 8 (fun A st => ∃ (j10 j11 j12 j13 j14 j15 j16 : V), st = A [(25, .d (.bool c8)), (24, j16), (23, j15), (22, j14), (21, j13), (20, j12), (19, j11), (18, j10)]) ?_ ?_
    · refine ok_mvB rfl rfl h9 (fun h9 => ?_) (fun h9 => ?_)
      · refine ok_mv rfl rfl ?_
        refine ok_v (.d (.bool (decide (p1 > 2000000)))) rfl rfl ?_
        obtain ⟨c17, h18, h9⟩ := bindE h9
        refine ok_cutQ 4 (fun A st => ∃ (j19 j20 j21 : V), st = A [(24, .d (.bool c17)), (23, j21), (22, j20), (21, j19)]) ?_ ?_
        · refine ok_mvB rfl rfl h18 (fun h18 => ?_) (fun h18 => ?_)
          · refine ok_sg rfl ?_
            refine ok_sg rfl ?_
            refine ok_v (.d (.bool true)) rfl rfl ?_
            refine ok_nil ?_
            obtain rfl := someE h18
            exact ⟨_, _, _, rfl⟩
          · refine ok_mv rfl rfl ?_
            refine ok_v (.d (.bool (decide (p1 < (-2000000))))) rfl rfl ?_
            refine ok_v (.d (.bool (decide (p1 < (-2000000))))) rfl rfl ?_
            refine ok_nil ?_
            obtain rfl := someE h18
            exact ⟨_, _, _, rfl⟩
        · rintro _ ⟨j19, j20, j21, rfl⟩
          refine ok_v (.d (.bool c17)) rfl rfl ?_
          refine ok_nil ?_
          obtain rfl := someE h9
          exact ⟨_, _, _, _, _, _, _, rfl⟩
      · refine ok_sg rfl ?_
        refine ok_sg rfl ?_
        refine ok_sg rfl ?_
        refine ok_sg rfl ?_
        refine ok_sg rfl ?_
        refine ok_sg rfl ?_
        refine ok_v (.d (.bool false)) rfl rfl ?_
        refine ok_nil ?_
        obtain rfl := someE h9
        exact ⟨_, _, _, _, _, _, _, rfl⟩
    · rintro _ ⟨j10, j11, j12, j13, j14, j15, j16, rfl⟩
      refine ok_nil ?_
      refine rk_condH rfl h0 (fun _ h0 => ?_) (fun _ h0 => ?_)
      · refine rk_seq ?_
        refine rk_region ?_
        refine ok_as rfl rfl ?_
        refine ok_as rfl rfl ?_
        refine ok_nil ?_
        refine rk_ret ?_
        obtain rfl := someE h0
        exact finD (.inr rfl) (v := .d (.tup [.nilsl, .int .i64 16])) rfl rfl (dle_tup (.cons (.nil _) (.cons (.refl _) .nil)))
      · refine rk_skip ?_
        refine rk_seq ?_
        refine rk_region ?_
        refine ok_as rfl rfl ?_
        refine ok_nil ?_
        refine rk_seq ?_
        refine rk_seq ?_
        refine rk_region ?_
        refine ok_mv rfl rfl ?_
        refine ok_ln rfl rfl rfl rfl ?_
        refine ok_mv rfl rfl ?_
        refine ok_nil ?_
        obtain ⟨m49, h50, h0⟩ := bindE h0
        refine rk_blockcut (fun b51 => .inl b51 = m49) (fun (b51 : List api_Span) => ⟨[(7, .hs 0 2 0 b51.length)], [(0, .dat 2 (b51.map enc_api_Span))], 1⟩) (by simp) ?_ ?_
        · refine rk_loopF (span_Move_L1 p0 p1) (fun (a48 : Int × List api_Span) => ⟨[(1, .d (.int .i64 p1)), (7, .hs 0 2 0 a48.2.length), (26, .d (.sl 2 (p0.map enc_api_Span))), (27, .d (.int .i64 (p0.length : Int))), (28, .d (.int .i64 a48.1))], [(0, .dat 2 (a48.2.map enc_api_Span))], 1⟩) (0, []) m49 h50 (wkE [] [] [0] rfl ⟨⟨_, rfl, .d (.refl _)⟩, ⟨_, rfl, .nil (by decide) (ltd rfl)⟩, ⟨_, rfl, .d (.refl _)⟩, ⟨_, rfl, .d (.refl _)⟩, ⟨_, rfl, .d (.refl _)⟩, trivial⟩ ⟨⟨ltd rfl, .inl ⟨by decide, _, by decide, rfl⟩⟩, trivial⟩) ?_
          intro a48 y46 h47
          unfold span_Move_L1 at h47
          refine rk_seq ?_
          refine rk_region ?_
          refine ok_v (.d (.bool (decide (a48.1 < (p0.length : Int))))) rfl rfl ?_
          refine ok_nil ?_
          refine rk_seq ?_
          refine rk_condH rfl h47 (fun _ h47 => ?_) (fun _ h47 => ?_)
          · refine rk_skip ?_
            refine rk_seq ?_
            refine rk_block ?_
            refine rk_seq ?_
            refine rk_region ?_
            obtain ⟨v58, h59, h47⟩ := bindE h47
            refine ok_ix (enc := enc_api_Span) h59 rfl rfl rfl rfl rfl rfl ?_
            refine ok_v (.d (.agg [.int .i64 v58.Lo, .int .i64 v58.Hi])) rfl rfl ?_
            refine ok_alloc rfl rfl ?_
            refine ok_sto 1 (.dat 2 [[.int .i64 v58.Lo, .int .i64 v58.Hi]]) rfl rfl ?_
            refine ok_nil ?_
            refine rk_seq ?_
            refine rk_region ?_
            refine ok_v (.ref 1 2 0 0) rfl rfl ?_
            refine ok_v (.d (.int .i64 v58.Lo)) rfl rfl ?_
            refine ok_mv rfl rfl ?_
            refine ok_v (.d (.int .i64 (w64 (v58.Lo + p1)))) rfl rfl ?_
            refine ok_v (.ref 1 2 0 0) rfl rfl ?_
            refine ok_sto 1 (.dat 2 [[.int .i64 (w64 (v58.Lo + p1)), .int .i64 v58.Hi]]) rfl rfl ?_
            refine ok_nil ?_
            refine rk_seq ?_
            refine rk_region ?_
            refine ok_v (.ref 1 2 0 1) rfl rfl ?_
            refine ok_v (.d (.int .i64 v58.Hi)) rfl rfl ?_
            refine ok_mv rfl rfl ?_
            refine ok_v (.d (.int .i64 (w64 (v58.Hi + p1)))) rfl rfl ?_
            refine ok_v (.ref 1 2 0 1) rfl rfl ?_
            refine ok_sto 1 (.dat 2 [[.int .i64 (w64 (v58.Lo + p1)), .int .i64 (w64 (v58.Hi + p1))]]) rfl rfl ?_
            refine ok_nil ?_
            refine rk_seq ?_
            refine rk_seq ?_
            refine rk_region ?_
            refine ok_v (.d (.agg [.int .i64 (w64 (v58.Lo + p1)), .int .i64 (w64 (v58.Hi + p1))])) rfl rfl ?_
            obtain ⟨r60, h61, h47⟩ := bindE h47
            refine ok_pc [.d (.agg [.int .i64 (w64 (v58.Lo + p1)), .int .i64 (w64 (v58.Hi + p1))])] (span_valid_ok ({ Lo := w64 (v58.Lo + p1), Hi := w64 (v58.Hi + p1) } : api_Span) r60 h61) rfl rfl rfl (.inl rfl) ?_
            refine ok_v (.d (.bool (!r60))) rfl rfl ?_
            refine ok_nil ?_
            refine rk_condH rfl h47 (fun _ h47 => ?_) (fun _ h47 => ?_)
            · refine rk_seq ?_
              refine rk_region ?_
              refine ok_as rfl rfl ?_
              refine ok_as rfl rfl ?_
              refine ok_nil ?_
              refine rk_ret ?_
              refine ⟨_, (Option.some.inj h47).symm, fun hm => ?_⟩
              subst hm
              obtain rfl := someE h0
              exact finD (.inr rfl) (v := .d (.tup [.nilsl, .int .i64 16])) rfl rfl (dle_tup (.cons (.nil _) (.cons (.refl _) .nil)))
            · refine rk_skip ?_
              refine rk_region ?_
              refine ok_mv rfl rfl ?_
              refine ok_v (.d (.agg [.int .i64 (w64 (v58.Lo + p1)), .int .i64 (w64 (v58.Hi + p1))])) rfl rfl ?_
              refine ok_new (.hs 2 2 0 [({ Lo := w64 (v58.Lo + p1), Hi := w64 (v58.Hi + p1) } : api_Span)].length) (.dat 2 ([({ Lo := w64 (v58.Lo + p1), Hi := w64 (v58.Hi + p1) } : api_Span)].map enc_api_Span)) rfl rfl ?_
              obtain ⟨z62, h63, h47⟩ := bindE h47
              refine ok_ap (xs := a48.2) (ys := [({ Lo := w64 (v58.Lo + p1), Hi := w64 (v58.Hi + p1) } : api_Span)]) (enc := enc_api_Span) (.hs 2 2 0 [({ Lo := w64 (v58.Lo + p1), Hi := w64 (v58.Hi + p1) } : api_Span)].length) h63 rfl rfl rfl rfl rfl rfl rfl (conts_hs rfl rfl) rfl rfl rfl rfl ?_
              refine ok_as rfl rfl ?_
              refine ok_nil ?_
              refine rk_nil ?_
              refine blk_nor ?_
              refine rk_region ?_
              refine ok_v (.d (.int .i64 (w64 (a48.1 + 1)))) rfl rfl ?_
              refine ok_mv rfl rfl ?_
              refine ok_nil ?_
              refine rk_nil ?_
              exact ⟨_, (Option.some.inj h47).symm, wkE [(0, 3)] [] [] rfl ⟨⟨_, rfl, .d (.refl _)⟩, ⟨_, rfl, .hs rfl (by decide) (ltd rfl)⟩, ⟨_, rfl, .d (.refl _)⟩, ⟨_, rfl, .d (.refl _)⟩, ⟨_, rfl, .d (.refl _)⟩, trivial⟩ ⟨⟨ltd rfl, .inr ⟨by decide, _, rfl, .dat _ _⟩⟩, trivial⟩⟩
          · refine rk_exit ?_
            refine ⟨_, (Option.some.inj h47).symm, fun hm => ?_⟩
            subst hm
            exact ⟨_, rfl, wkE [(0, 0)] [] [] rfl ⟨⟨_, rfl, .hs rfl (by decide) (ltd rfl)⟩, trivial⟩ ⟨⟨ltd rfl, .inr ⟨by decide, _, rfl, .dat _ _⟩⟩, trivial⟩⟩
        · intro b51 hb
          subst hb
          refine rk_seq ?_
          refine rk_region ?_
          refine ok_mv rfl rfl ?_
          refine ok_as rfl rfl ?_
          refine ok_as rfl rfl ?_
          refine ok_nil ?_
          refine rk_ret ?_
          obtain rfl := someE h0
          exact finD (.inr rfl) (v := .tup [.hs 0 2 0 b51.length, .d (.int .i64 0)]) rfl (td_tup (mm_cons (td_hs rfl rfl) (mm_cons rfl rfl))) (.refl _)

theorem l11_SpanHull_ok (p0 : List api_Span) (p1 : Int) (r : Bool) (h0 : l11_SpanHull p0 p1 = some r) : Pure Try.prog tab 10 [.sl 2 (p0.map enc_api_Span), .int .i64 p1] (.bool r) := by
  unfold l11_SpanHull at h0
  refine pure_of_run Try.func10 rfl (by kernel_rfl) (by kernel_rfl) rfl ?_
  refine rk_seq ?_
  refine rk_region ?_
  refine ok_as rfl rfl ?_
  refine ok_nil ?_
  refine rk_seq ?_
  refine rk_region ?_
  obtain ⟨r1, h2, h0⟩ := bindE h0
  refine ok_pc [] (l11_alive_ok r1 h2) rfl rfl rfl (.inl rfl) ?_
  refine ok_as rfl rfl ?_
  refine ok_nil ?_
  refine rk_seq ?_
  refine rk_seq ?_
  refine rk_region ?_
  refine ok_mv rfl rfl ?_
  obtain ⟨r3, h4, h0⟩ := bindE h0
  refine ok_pc [.d (.sl 2 (p0.map enc_api_Span))] (r11_Check_ok p0 r3 h4) rfl rfl rfl (.inl rfl) ?_
  refine ok_v (.d (.bool (r3 != 0))) rfl rfl ?_
  obtain ⟨c5, h6, h0⟩ := bindE h0
  refine ok_cutQ 4 (fun A st => ∃ (j7 j8 j9 : V), st = A [(27, .d (.bool c5)), (26, j9), (25, j8), (24, j7)]) ?_ ?_
  · refine ok_mvB rfl rfl h6 (fun h6 => ?_) (fun h6 => ?_)
    · refine ok_sg rfl ?_
      refine ok_sg rfl ?_
      refine ok_v (.d (.bool true)) rfl rfl ?_
      refine ok_nil ?_
      obtain rfl := someE h6
      exact ⟨_, _, _, rfl⟩
    · refine ok_mv rfl rfl ?_
      refine ok_v (.d (.bool (!r1))) rfl rfl ?_
      refine ok_v (.d (.bool (!r1))) rfl rfl ?_
      refine ok_nil ?_
      obtain rfl := someE h6
      exact ⟨_, _, _, rfl⟩
  · rintro _ ⟨j7, j8, j9, rfl⟩
    refine ok_nil ?_
    refine rk_condH rfl h0 (fun _ h0 => ?_) (fun _ h0 => ?_)
    · refine rk_seq ?_
      refine rk_region ?_
      refine ok_mv rfl rfl ?_
      refine ok_as rfl rfl ?_
      refine ok_nil ?_
      refine rk_ret ?_
      obtain rfl := someE h0
      exact finD (.inr rfl) (v := .d (.bool r1)) rfl rfl (.refl _)
    · refine rk_skip ?_
      refine rk_seq ?_
      refine rk_region ?_
      refine ok_mv rfl rfl ?_
      obtain ⟨r10, h11, h0⟩ := bindE h0
      refine ok_pc [.d (.sl 2 (p0.map enc_api_Span))] (span_Make_ok p0 r10 h11) rfl rfl rfl (.inl rfl) ?_
      refine ok_mv rfl rfl ?_
      refine ok_v (.d (.sl 2 (r10.1.map enc_api_Span))) rfl rfl ?_
      refine ok_v (.d (.int .i64 r10.2)) rfl rfl ?_
      refine ok_as rfl rfl ?_
      refine ok_as rfl rfl ?_
      refine ok_nil ?_
      refine rk_seq ?_
      refine rk_region ?_
      refine ok_mv rfl rfl ?_
      obtain ⟨r12, h13, h0⟩ := bindE h0
      refine ok_pc [.d (.sl 2 (p0.map enc_api_Span))] (span_Gaps_ok p0 r12 h13) rfl rfl rfl (.inl rfl) ?_
      refine ok_mv rfl rfl ?_
      refine ok_v (.d (.sl 2 (r12.1.map enc_api_Span))) rfl rfl ?_
      refine ok_v (.d (.int .i64 r12.2)) rfl rfl ?_
      refine ok_as rfl rfl ?_
      refine ok_as rfl rfl ?_
      refine ok_nil ?_
      refine rk_seq ?_
      refine rk_region ?_
      refine ok_mv rfl rfl ?_
      obtain ⟨r14, h15, h0⟩ := bindE h0
      refine ok_pc [.d (.sl 2 (p0.map enc_api_Span))] (span_Length_ok p0 r14 h15) rfl rfl rfl (.inl rfl) ?_
      refine ok_mv rfl rfl ?_
      refine ok_v (.d (.int .i64 r14.1)) rfl rfl ?_
      refine ok_v (.d (.int .i64 r14.2)) rfl rfl ?_
      refine ok_as rfl rfl ?_
      refine ok_as rfl rfl ?_
      refine ok_nil ?_
      refine rk_seq ?_
      refine rk_seq ?_
      refine rk_region ?_
      refine ok_mv rfl rfl ?_
      refine ok_v (.d (.bool (r10.2 != 0))) rfl rfl ?_
      obtain ⟨c16, h17, h0⟩ := bindE h0
      refine ok_cutQ 4 (fun A st => ∃ (j18 j19 j20 : V), st = A [(49, .d (.bool c16)), (48, j20), (47, j19), (46, j18)]) ?_ ?_
      · refine ok_mvB rfl rfl h17 (fun h17 => ?_) (fun h17 => ?_)
        · refine ok_sg rfl ?_
          refine ok_sg rfl ?_
          refine ok_v (.d (.bool true)) rfl rfl ?_
          refine ok_nil ?_
          obtain rfl := someE h17
          exact ⟨_, _, _, rfl⟩
        · refine ok_mv rfl rfl ?_
          refine ok_v (.d (.bool (r12.2 != 0))) rfl rfl ?_
          refine ok_v (.d (.bool (r12.2 != 0))) rfl rfl ?_
          refine ok_nil ?_
          obtain rfl := someE h17
          exact ⟨_, _, _, rfl⟩
      · rintro _ ⟨j18, j19, j20, rfl⟩
        obtain ⟨c21, h22, h0⟩ := bindE h0
        refine ok_cutQ 4 (fun A st => ∃ (j23 j24 j25 : V), st = A [(53, .d (.bool c21)), (52, j25), (51, j24), (50, j23)]) ?_ ?_
        · refine ok_mvB rfl rfl h22 (fun h22 => ?_) (fun h22 => ?_)
          · refine ok_sg rfl ?_
            refine ok_sg rfl ?_
            refine ok_v (.d (.bool true)) rfl rfl ?_
            refine ok_nil ?_
            obtain rfl := someE h22
            exact ⟨_, _, _, rfl⟩
          · refine ok_mv rfl rfl ?_
            refine ok_v (.d (.bool (r14.2 != 0))) rfl rfl ?_
            refine ok_v (.d (.bool (r14.2 != 0))) rfl rfl ?_
            refine ok_nil ?_
            obtain rfl := someE h22
            exact ⟨_, _, _, rfl⟩
        · rintro _ ⟨j23, j24, j25, rfl⟩
          obtain ⟨c28, h29, h0⟩ := bindE h0
          refine ok_cutQ 6 (fun A st => ∃ (j30 j31 j32 j33 j34 : V), st = A [(59, .d (.bool c28)), (58, j34), (57, j33), (56, j32), (55, j31), (54, j30)]) ?_ ?_
          · refine ok_mvB rfl rfl h29 (fun h29 => ?_) (fun h29 => ?_)
            · refine ok_sg rfl ?_
              refine ok_sg rfl ?_
              refine ok_sg rfl ?_
              refine ok_sg rfl ?_
              refine ok_v (.d (.bool true)) rfl rfl ?_
              refine ok_nil ?_
              obtain rfl := someE h29
              exact ⟨_, _, _, _, _, rfl⟩
            · refine ok_mv rfl rfl ?_
              refine ok_mv rfl rfl ?_
              obtain ⟨r35, h36, h29⟩ := bindE h29
              refine ok_pc [.d (.sl 2 (r10.1.map enc_api_Span)), .d (.sl 2 (p0.map enc_api_Span))] (r11_Same_ok r10.1 p0 r35 h36) rfl rfl rfl (.inl rfl) ?_
              refine ok_v (.d (.bool (!r35))) rfl rfl ?_
              refine ok_v (.d (.bool (!r35))) rfl rfl ?_
              refine ok_nil ?_
              obtain rfl := someE h29
              exact ⟨_, _, _, _, _, rfl⟩
          · rintro _ ⟨j30, j31, j32, j33, j34, rfl⟩
            refine ok_nil ?_
            refine rk_condH rfl h0 (fun _ h0 => ?_) (fun _ h0 => ?_)
            · refine rk_seq ?_
              refine rk_region ?_
              refine ok_as rfl rfl ?_
              refine ok_nil ?_
              refine rk_ret ?_
              obtain rfl := someE h0
              exact finD (.inr rfl) (v := .d (.bool false)) rfl rfl (.refl _)
            · refine rk_skip ?_
              refine rk_seq ?_
              refine rk_seq ?_
              refine rk_region ?_
              refine ok_mv rfl rfl ?_
              refine ok_ln rfl rfl rfl rfl ?_
              refine ok_v (.d (.bool (decide ((p0.length : Int) > 0)))) rfl rfl ?_
              refine ok_nil ?_
              obtain ⟨m120, h119, h0⟩ := bindE h0
              refine rk_cut (fun b121 => .inl b121 = m120) (fun (b121 : Unit) => ⟨[(0, .d (.sl 2 (p0.map enc_api_Span))), (1, .d (.int .i64 p1)), (5, .d (.bool r1))], [], 0⟩) (by simp) ?_ ?_
              · refine rk_condH rfl h119 (fun _ h119 => ?_) (fun _ h119 => ?_)
                · refine rk_seq ?_
                  refine rk_region ?_
                  refine ok_mv rfl rfl ?_
                  refine ok_mv rfl rfl ?_
                  obtain ⟨r122, h123, h119⟩ := bindE h119
                  refine ok_pc [.d (.sl 2 (p0.map enc_api_Span)), .d (.sl 2 (r12.1.map enc_api_Span))] (span_Union_ok p0 r12.1 r122 h123) rfl rfl rfl (.inl rfl) ?_
                  refine ok_mv rfl rfl ?_
                  refine ok_v (.d (.sl 2 (r122.1.map enc_api_Span))) rfl rfl ?_
                  refine ok_v (.d (.int .i64 r122.2)) rfl rfl ?_
                  refine ok_as rfl rfl ?_
                  refine ok_as rfl rfl ?_
                  refine ok_nil ?_
                  refine rk_seq ?_
                  refine rk_region ?_
                  refine ok_mv rfl rfl ?_
                  obtain ⟨r124, h125, h119⟩ := bindE h119
                  refine ok_pc [.d (.sl 2 (r12.1.map enc_api_Span))] (span_Length_ok r12.1 r124 h125) rfl rfl rfl (.inl rfl) ?_
                  refine ok_mv rfl rfl ?_
                  refine ok_v (.d (.int .i64 r124.1)) rfl rfl ?_
                  refine ok_v (.d (.int .i64 r124.2)) rfl rfl ?_
                  refine ok_as rfl rfl ?_
                  refine ok_as rfl rfl ?_
                  refine ok_nil ?_
                  refine rk_seq ?_
                  refine rk_regionD (by kernel_rfl) ?_
                  refine ok_mv rfl rfl ?_
                  refine ok_v (.d (.bool (r122.2 != 0))) rfl rfl ?_
                  obtain ⟨c126, h127, h119⟩ := bindE h119
                  refine ok_cutQ 4 (fun A st => ∃ (j128 j129 j130 : V), st = A [(79, .d (.bool c126)), (78, j130), (77, j129), (76, j128)]) ?_ ?_
                  · refine ok_mvB rfl rfl h127 (fun h127 => ?_) (fun h127 => ?_)
                    · refine ok_sg rfl ?_
                      refine ok_sg rfl ?_
                      refine ok_v (.d (.bool true)) rfl rfl ?_
                      refine ok_nil ?_
                      obtain rfl := someE h127
                      exact ⟨_, _, _, rfl⟩
                    · refine ok_mv rfl rfl ?_
                      refine ok_v (.d (.bool (r124.2 != 0))) rfl rfl ?_
                      refine ok_v (.d (.bool (r124.2 != 0))) rfl rfl ?_
                      refine ok_nil ?_
                      obtain rfl := someE h127
                      exact ⟨_, _, _, rfl⟩
                  · rintro _ ⟨j128, j129, j130, rfl⟩
                    obtain ⟨c131, h132, h119⟩ := bindE h119
                    refine ok_cutQ 5 (fun A st => ∃ (j133 j134 j135 j136 : V), st = A [(84, .d (.bool c131)), (83, j136), (82, j135), (81, j134), (80, j133)]) ?_ ?_
                    · refine ok_mvB rfl rfl h132 (fun h132 => ?_) (fun h132 => ?_)
                      · refine ok_sg rfl ?_
                        refine ok_sg rfl ?_
                        refine ok_sg rfl ?_
                        refine ok_v (.d (.bool true)) rfl rfl ?_
                        refine ok_nil ?_
                        obtain rfl := someE h132
                        exact ⟨_, _, _, _, rfl⟩
                      · refine ok_mv rfl rfl ?_
                        refine ok_ln rfl rfl rfl rfl ?_
                        refine ok_v (.d (.bool ((r122.1.length : Int) != 1))) rfl rfl ?_
                        refine ok_v (.d (.bool ((r122.1.length : Int) != 1))) rfl rfl ?_
                        refine ok_nil ?_
                        obtain rfl := someE h132
                        exact ⟨_, _, _, _, rfl⟩
                    · rintro _ ⟨j133, j134, j135, j136, rfl⟩
                      obtain ⟨c141, h142, h119⟩ := bindE h119
                      refine ok_cutQ 11 (fun A st => ∃ (j143 j144 j145 j146 j147 j148 j149 j150 j151 j152 : V), st = A [(95, .d (.bool c141)), (94, j152), (93, j151), (92, j150), (91, j149), (90, j148), (89, j147), (88, j146), (87, j145), (86, j144), (85, j143)]) ?_ ?_
                      · refine ok_mvB rfl rfl h142 (fun h142 => ?_) (fun h142 => ?_)
                        · refine ok_sg rfl ?_
                          refine ok_sg rfl ?_
                          refine ok_sg rfl ?_
                          refine ok_sg rfl ?_
                          refine ok_sg rfl ?_
                          refine ok_sg rfl ?_
                          refine ok_sg rfl ?_
                          refine ok_sg rfl ?_
                          refine ok_sg rfl ?_
                          refine ok_v (.d (.bool true)) rfl rfl ?_
                          refine ok_nil ?_
                          obtain rfl := someE h142
                          exact ⟨_, _, _, _, _, _, _, _, _, _, rfl⟩
                        · refine ok_mv rfl rfl ?_
                          obtain ⟨v153, h154, h142⟩ := bindE h142
                          refine ok_ix (enc := enc_api_Span) h154 rfl rfl rfl rfl rfl rfl ?_
                          refine ok_v (.dref [.int .i64 v153.Lo, .int .i64 v153.Hi] 0) rfl rfl ?_
                          refine ok_v (.d (.int .i64 v153.Lo)) rfl rfl ?_
                          refine ok_mv rfl rfl ?_
                          obtain ⟨v155, h156, h142⟩ := bindE h142
                          refine ok_ix (enc := enc_api_Span) h156 rfl rfl rfl rfl rfl rfl ?_
                          refine ok_v (.dref [.int .i64 v155.Lo, .int .i64 v155.Hi] 0) rfl rfl ?_
                          refine ok_v (.d (.int .i64 v155.Lo)) rfl rfl ?_
                          refine ok_v (.d (.bool (v153.Lo != v155.Lo))) rfl rfl ?_
                          refine ok_v (.d (.bool (v153.Lo != v155.Lo))) rfl rfl ?_
                          refine ok_nil ?_
                          obtain rfl := someE h142
                          exact ⟨_, _, _, _, _, _, _, _, _, _, rfl⟩
                      · rintro _ ⟨j143, j144, j145, j146, j147, j148, j149, j150, j151, j152, rfl⟩
                        obtain ⟨c161, h162, h119⟩ := bindE h119
                        refine ok_cutQ 14 (fun A st => ∃ (j163 j164 j165 j166 j167 j168 j169 j170 j171 j172 j173 j174 j175 : V), st = A [(109, .d (.bool c161)), (108, j175), (107, j174), (106, j173), (105, j172), (104, j171), (103, j170), (102, j169), (101, j168), (100, j167), (99, j166), (98, j165), (97, j164), (96, j163)]) ?_ ?_
                        · refine ok_mvB rfl rfl h162 (fun h162 => ?_) (fun h162 => ?_)
                          · refine ok_sg rfl ?_
                            refine ok_sg rfl ?_
                            refine ok_sg rfl ?_
                            refine ok_sg rfl ?_
                            refine ok_sg rfl ?_
                            refine ok_sg rfl ?_
                            refine ok_sg rfl ?_
                            refine ok_sg rfl ?_
                            refine ok_sg rfl ?_
                            refine ok_sg rfl ?_
                            refine ok_sg rfl ?_
                            refine ok_sg rfl ?_
                            refine ok_v (.d (.bool true)) rfl rfl ?_
                            refine ok_nil ?_
                            obtain rfl := someE h162
                            exact ⟨_, _, _, _, _, _, _, _, _, _, _, _, _, rfl⟩
                          · refine ok_mv rfl rfl ?_
                            obtain ⟨v176, h177, h162⟩ := bindE h162
                            refine ok_ix (enc := enc_api_Span) h177 rfl rfl rfl rfl rfl rfl ?_
                            refine ok_v (.dref [.int .i64 v176.Lo, .int .i64 v176.Hi] 1) rfl rfl ?_
                            refine ok_v (.d (.int .i64 v176.Hi)) rfl rfl ?_
                            refine ok_mv rfl rfl ?_
                            refine ok_mv rfl rfl ?_
                            refine ok_ln rfl rfl rfl rfl ?_
                            refine ok_v (.d (.int .i64 (w64 ((p0.length : Int) - 1)))) rfl rfl ?_
                            obtain ⟨v178, h179, h162⟩ := bindE h162
                            refine ok_ix (enc := enc_api_Span) h179 rfl rfl rfl rfl rfl rfl ?_
                            refine ok_v (.dref [.int .i64 v178.Lo, .int .i64 v178.Hi] 1) rfl rfl ?_
                            refine ok_v (.d (.int .i64 v178.Hi)) rfl rfl ?_
                            refine ok_v (.d (.bool (v176.Hi != v178.Hi))) rfl rfl ?_
                            refine ok_v (.d (.bool (v176.Hi != v178.Hi))) rfl rfl ?_
                            refine ok_nil ?_
                            obtain rfl := someE h162
                            exact ⟨_, _, _, _, _, _, _, _, _, _, _, _, _, rfl⟩
                        · rintro _ ⟨j163, j164, j165, j166, j167, j168, j169, j170, j171, j172, j173, j174, j175, rfl⟩
                          obtain ⟨c184, h185, h119⟩ := bindE h119
                          refine ok_cutQ 15 (fun A st => ∃ (j186 j187 j188 j189 j190 j191 j192 j193 j194 j195 j196 j197 j198 j199 : V), st = A [(124, .d (.bool c184)), (123, j199), (122, j198), (121, j197), (120, j196), (119, j195), (118, j194), (117, j193), (116, j192), (115, j191), (114, j190), (113, j189), (112, j188), (111, j187), (110, j186)]) ?_ ?_
                          · refine ok_mvB rfl rfl h185 (fun h185 => ?_) (fun h185 => ?_)
                            · refine ok_sg rfl ?_
                              refine ok_sg rfl ?_
                              refine ok_sg rfl ?_
                              refine ok_sg rfl ?_
                              refine ok_sg rfl ?_
                              refine ok_sg rfl ?_
                              refine ok_sg rfl ?_
                              refine ok_sg rfl ?_
                              refine ok_sg rfl ?_
                              refine ok_sg rfl ?_
                              refine ok_sg rfl ?_
                              refine ok_sg rfl ?_
                              refine ok_sg rfl ?_
                              refine ok_v (.d (.bool true)) rfl rfl ?_
                              refine ok_nil ?_
                              obtain rfl := someE h185
                              exact ⟨_, _, _, _, _, _, _, _, _, _, _, _, _, _, rfl⟩
                            · refine ok_mv rfl rfl ?_
                              refine ok_mv rfl rfl ?_
                              refine ok_v (.d (.int .i64 (w64 (r14.1 + r124.1)))) rfl rfl ?_
                              refine ok_mv rfl rfl ?_
                              obtain ⟨v200, h201, h185⟩ := bindE h185
                              refine ok_ix (enc := enc_api_Span) h201 rfl rfl rfl rfl rfl rfl ?_
                              refine ok_v (.dref [.int .i64 v200.Lo, .int .i64 v200.Hi] 1) rfl rfl ?_
                              refine ok_v (.d (.int .i64 v200.Hi)) rfl rfl ?_
                              refine ok_mv rfl rfl ?_
                              obtain ⟨v202, h203, h185⟩ := bindE h185
                              refine ok_ix (enc := enc_api_Span) h203 rfl rfl rfl rfl rfl rfl ?_
                              refine ok_v (.dref [.int .i64 v202.Lo, .int .i64 v202.Hi] 0) rfl rfl ?_
                              refine ok_v (.d (.int .i64 v202.Lo)) rfl rfl ?_
                              refine ok_v (.d (.int .i64 (w64 (v200.Hi - v202.Lo)))) rfl rfl ?_
                              refine ok_v (.d (.bool ((w64 (r14.1 + r124.1)) != (w64 (v200.Hi - v202.Lo))))) rfl rfl ?_
                              refine ok_v (.d (.bool ((w64 (r14.1 + r124.1)) != (w64 (v200.Hi - v202.Lo))))) rfl rfl ?_
                              refine ok_nil ?_
                              obtain rfl := someE h185
                              exact ⟨_, _, _, _, _, _, _, _, _, _, _, _, _, _, rfl⟩
                          · rintro _ ⟨j186, j187, j188, j189, j190, j191, j192, j193, j194, j195, j196, j197, j198, j199, rfl⟩
                            refine ok_nil ?_
                            refine rk_condH rfl h119 (fun _ h119 => ?_) (fun _ h119 => ?_)
                            · refine rk_seq ?_
                              refine rk_region ?_
                              refine ok_as rfl rfl ?_
                              refine ok_nil ?_
                              refine rk_ret ?_
                              obtain rfl := someE h119
                              obtain rfl := someE h0
                              exact finD (.inr rfl) (v := .d (.bool false)) rfl rfl (.refl _)
                            · refine rk_skip ?_
                              refine rk_nil ?_
                              obtain rfl := someE h119
                              exact ⟨_, rfl, wkE [] [] [] rfl ⟨⟨_, rfl, .d (.refl _)⟩, ⟨_, rfl, .d (.refl _)⟩, ⟨_, rfl, .d (.refl _)⟩, trivial⟩ trivial⟩
                · refine rk_skip ?_
                  refine rk_nil ?_
                  obtain rfl := someE h119
                  exact ⟨_, rfl, wkE [] [] [] rfl ⟨⟨_, rfl, .d (.refl _)⟩, ⟨_, rfl, .d (.refl _)⟩, ⟨_, rfl, .d (.refl _)⟩, trivial⟩ trivial⟩
              · intro b121 hb
                subst hb
                refine rk_seq ?_
                refine rk_region ?_
                refine ok_mv rfl rfl ?_
                refine ok_mv rfl rfl ?_
                obtain ⟨r204, h205, h0⟩ := bindE h0
                refine ok_pc [.d (.sl 2 (p0.map enc_api_Span)), .d (.int .i64 p1)] (span_Move_ok p0 p1 r204 h205) rfl rfl rfl (.inl rfl) ?_
                refine ok_mv rfl rfl ?_
                refine ok_v (.d (.sl 2 (r204.1.map enc_api_Span))) rfl rfl ?_
                refine ok_v (.d (.int .i64 r204.2)) rfl rfl ?_
                refine ok_as rfl rfl ?_
                refine ok_as rfl rfl ?_
                refine ok_nil ?_
                refine rk_seq ?_
                refine rk_seq ?_
                refine rk_region ?_
                refine ok_mv rfl rfl ?_
                refine ok_v (.d (.bool (r204.2 != 0))) rfl rfl ?_
                refine ok_nil ?_
                refine rk_condH rfl h0 (fun _ h0 => ?_) (fun _ h0 => ?_)
                · refine rk_seq ?_
                  refine rk_region ?_
                  refine ok_mv rfl rfl ?_
                  obtain ⟨c211, h212, h0⟩ := bindE h0
                  refine ok_cutQ 4 (fun A st => ∃ (j213 j214 j215 : V), st = A [(137, .d (.bool c211)), (136, j215), (135, j214), (134, j213)]) ?_ ?_
                  · refine ok_mvB rfl rfl h212 (fun h212 => ?_) (fun h212 => ?_)
                    · refine ok_mv rfl rfl ?_
                      refine ok_v (.d (.bool (r204.2 == 16))) rfl rfl ?_
                      refine ok_v (.d (.bool (r204.2 == 16))) rfl rfl ?_
                      refine ok_nil ?_
                      obtain rfl := someE h212
                      exact ⟨_, _, _, rfl⟩
                    · refine ok_sg rfl ?_
                      refine ok_sg rfl ?_
                      refine ok_v (.d (.bool false)) rfl rfl ?_
                      refine ok_nil ?_
                      obtain rfl := someE h212
                      exact ⟨_, _, _, rfl⟩
                  · rintro _ ⟨j213, j214, j215, rfl⟩
                    refine ok_as rfl rfl ?_
                    refine ok_nil ?_
                    refine rk_ret ?_
                    obtain rfl := someE h0
                    exact finD (.inr rfl) (v := .d (.bool c211)) rfl rfl (.refl _)
                · refine rk_skip ?_
                  refine rk_seq ?_
                  refine rk_region ?_
                  refine ok_mv rfl rfl ?_
                  refine ok_mv rfl rfl ?_
                  refine ok_v (.d (.int .i64 (w64 (0 - p1)))) rfl rfl ?_
                  obtain ⟨r216, h217, h0⟩ := bindE h0
                  refine ok_pc [.d (.sl 2 (r204.1.map enc_api_Span)), .d (.int .i64 (w64 (0 - p1)))] (span_Move_ok r204.1 (w64 (0 - p1)) r216 h217) rfl rfl rfl (.inl rfl) ?_
                  refine ok_mv rfl rfl ?_
                  refine ok_v (.d (.sl 2 (r216.1.map enc_api_Span))) rfl rfl ?_
                  refine ok_v (.d (.int .i64 r216.2)) rfl rfl ?_
                  refine ok_as rfl rfl ?_
                  refine ok_as rfl rfl ?_
                  refine ok_nil ?_
                  refine rk_seq ?_
                  refine rk_region ?_
                  refine ok_mv rfl rfl ?_
                  obtain ⟨c248, h249, h0⟩ := bindE h0
                  refine ok_cutQ 14 (fun A st => ∃ (j250 j251 j252 j253 j254 j255 j256 j257 j258 j259 j260 j261 j262 : V), st = A [(159, .d (.bool c248)), (158, j262), (157, j261), (156, j260), (155, j259), (154, j258), (153, j257), (152, j256), (151, j255), (150, j254), (149, j253), (148, j252), (147, j251), (146, j250)]) ?_ ?_
                  · refine ok_mvB rfl rfl h249 (fun h249 => ?_) (fun h249 => ?_)
                    · refine ok_mv rfl rfl ?_
                      refine ok_ln rfl rfl rfl rfl ?_
                      refine ok_v (.d (.bool ((p0.length : Int) == 0))) rfl rfl ?_
                      obtain ⟨c273, h274, h249⟩ := bindE h249
                      refine ok_cutQ 9 (fun A st => ∃ (j275 j276 j277 j278 j279 j280 j281 j282 : V), st = A [(158, .d (.bool c273)), (157, j282), (156, j281), (155, j280), (154, j279), (153, j278), (152, j277), (151, j276), (150, j275)]) ?_ ?_
                      · refine ok_mvB rfl rfl h274 (fun h274 => ?_) (fun h274 => ?_)
                        · refine ok_sg rfl ?_
                          refine ok_sg rfl ?_
                          refine ok_sg rfl ?_
                          refine ok_sg rfl ?_
                          refine ok_sg rfl ?_
                          refine ok_sg rfl ?_
                          refine ok_sg rfl ?_
                          refine ok_v (.d (.bool true)) rfl rfl ?_
                          refine ok_nil ?_
                          obtain rfl := someE h274
                          exact ⟨_, _, _, _, _, _, _, _, rfl⟩
                        · refine ok_mv rfl rfl ?_
                          refine ok_v (.d (.bool (r216.2 == 0))) rfl rfl ?_
                          obtain ⟨c285, h286, h274⟩ := bindE h274
                          refine ok_cutQ 5 (fun A st => ∃ (j287 j288 j289 j290 : V), st = A [(157, .d (.bool c285)), (156, j290), (155, j289), (154, j288), (153, j287)]) ?_ ?_
                          · refine ok_mvB rfl rfl h286 (fun h286 => ?_) (fun h286 => ?_)
                            · refine ok_mv rfl rfl ?_
                              refine ok_mv rfl rfl ?_
                              obtain ⟨r291, h292, h286⟩ := bindE h286
                              refine ok_pc [.d (.sl 2 (r216.1.map enc_api_Span)), .d (.sl 2 (p0.map enc_api_Span))] (r11_Same_ok r216.1 p0 r291 h292) rfl rfl rfl (.inl rfl) ?_
                              refine ok_v (.d (.bool r291)) rfl rfl ?_
                              refine ok_nil ?_
                              obtain rfl := someE h286
                              exact ⟨_, _, _, _, rfl⟩
                            · refine ok_sg rfl ?_
                              refine ok_sg rfl ?_
                              refine ok_sg rfl ?_
                              refine ok_v (.d (.bool false)) rfl rfl ?_
                              refine ok_nil ?_
                              obtain rfl := someE h286
                              exact ⟨_, _, _, _, rfl⟩
                          · rintro _ ⟨j287, j288, j289, j290, rfl⟩
                            refine ok_v (.d (.bool c285)) rfl rfl ?_
                            refine ok_nil ?_
                            obtain rfl := someE h274
                            exact ⟨_, _, _, _, _, _, _, _, rfl⟩
                      · rintro _ ⟨j275, j276, j277, j278, j279, j280, j281, j282, rfl⟩
                        refine ok_v (.d (.bool c273)) rfl rfl ?_
                        refine ok_nil ?_
                        obtain rfl := someE h249
                        exact ⟨_, _, _, _, _, _, _, _, _, _, _, _, _, rfl⟩
                    · refine ok_sg rfl ?_
                      refine ok_sg rfl ?_
                      refine ok_sg rfl ?_
                      refine ok_sg rfl ?_
                      refine ok_sg rfl ?_
                      refine ok_sg rfl ?_
                      refine ok_sg rfl ?_
                      refine ok_sg rfl ?_
                      refine ok_sg rfl ?_
                      refine ok_sg rfl ?_
                      refine ok_sg rfl ?_
                      refine ok_sg rfl ?_
                      refine ok_v (.d (.bool false)) rfl rfl ?_
                      refine ok_nil ?_
                      obtain rfl := someE h249
                      exact ⟨_, _, _, _, _, _, _, _, _, _, _, _, _, rfl⟩
                  · rintro _ ⟨j250, j251, j252, j253, j254, j255, j256, j257, j258, j259, j260, j261, j262, rfl⟩
                    refine ok_as rfl rfl ?_
                    refine ok_nil ?_
                    refine rk_ret ?_
                    obtain rfl := someE h0
                    exact finD (.inr rfl) (v := .d (.bool c248)) rfl rfl (.refl _)
end Go.Proofs.Ytcpogfjlehoabaa
