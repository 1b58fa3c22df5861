/- THE WALKS, lifted by program: on. -/
import Derived.Test.YtcpogfjlehoabaaWSpanNeara
namespace Go.Proofs.Ytcpogfjlehoabaa
open Go Go.Am Go.Sh
theorem span_Has_1_ok (p0 : api_Span) (p1 : Int) (r : Bool) (h0 : span_Has_1 p0 p1 = some r) : Pure Try.prog tab 45 [.agg [.int .i64 p0.Lo, .int .i64 p0.Hi], .box [.int .i64 p1]] (.bool r) := by
  unfold span_Has_1 at h0
  refine pure_of_run Try.func45 rfl (by kernel_rfl) (by kernel_rfl) rfl ?_
  refine rk_seq ?_
  refine rk_region ?_
  refine ok_new (.ref 0 2 0 0) (.dat 2 [[.int .i64 p0.Lo, .int .i64 p0.Hi]]) rfl rfl ?_
  refine ok_as rfl rfl ?_
  refine ok_nil ?_
  refine rk_seq ?_
  refine rk_region ?_
  refine ok_v (.ref 0 2 0 0) rfl rfl ?_
  refine ok_v (.d (.int .i64 p0.Lo)) rfl rfl ?_
  refine ok_v (.d (.int .i64 p1)) rfl rfl ?_
  refine ok_v (.d (.bool (decide (p0.Lo ≤ p1)))) rfl rfl ?_
  obtain ⟨c1, h2, h0⟩ := bindE h0
  refine ok_cutQ 6 (fun A st => ∃ (j3 j4 j5 j6 j7 : V), st = A [(13, .d (.bool c1)), (12, j7), (11, j6), (10, j5), (9, j4), (8, j3)]) ?_ ?_
  · refine ok_mvB rfl rfl h2 (fun h2 => ?_) (fun h2 => ?_)
    · refine ok_v (.d (.int .i64 p1)) rfl rfl ?_
      refine ok_v (.ref 0 2 0 1) rfl rfl ?_
      refine ok_v (.d (.int .i64 p0.Hi)) rfl rfl ?_
      refine ok_v (.d (.bool (decide (p1 < p0.Hi)))) rfl rfl ?_
      refine ok_v (.d (.bool (decide (p1 < p0.Hi)))) rfl rfl ?_
      refine ok_nil ?_
      obtain rfl := someE h2
      exact ⟨_, _, _, _, _, rfl⟩
    · refine ok_sg rfl ?_
      refine ok_sg rfl ?_
      refine ok_sg rfl ?_
      refine ok_sg rfl ?_
      refine ok_v (.d (.bool false)) rfl rfl ?_
      refine ok_nil ?_
      obtain rfl := someE h2
      exact ⟨_, _, _, _, _, rfl⟩
  · rintro _ ⟨j3, j4, j5, j6, j7, rfl⟩
    refine ok_as rfl rfl ?_
    refine ok_nil ?_
    refine rk_ret ?_
    obtain rfl := someE h0
    exact finD (.inr rfl) (v := .d (.bool c1)) rfl rfl (.refl _)

theorem span_Has_ok (p0 : List api_Span) (p1 : Int) (r : Bool) (h0 : span_Has p0 p1 = some r) : Pure Try.prog tab 29 [.sl 2 (p0.map enc_api_Span), .int .i64 p1] (.bool r) := by
  unfold span_Has at h0
  refine pure_of_run Try.func29 rfl (by kernel_rfl) (by kernel_rfl) rfl ?_
  refine rk_seq ?_
  refine rk_region ?_
  refine ok_new (.ref 0 1 0 0) (.dat 1 [[.int .i64 p1]]) rfl rfl ?_
  refine ok_as rfl rfl ?_
  refine ok_nil ?_
  refine rk_seq ?_
  refine rk_region ?_
  refine ok_mv rfl rfl ?_
  refine ok_v (.fn 45 [.ref 0 1 0 0]) rfl rfl ?_
  obtain ⟨r1, h2, h0⟩ := bindE h0
  refine ok_pc [.d (.sl 2 (p0.map enc_api_Span)), .fn 45 [.ref 0 1 0 0]] (slices_ContainsFunc_api_Span_api_Span_ok p0 (fun x0 => span_Has_1 x0 p1) 45 [.box [.int .i64 p1]] (fun x0 r hr => span_Has_1_ok x0 p1 r hr) r1 h2) rfl rfl (af_cons rfl (af_cons (td_fn (mm_cons rfl rfl)) rfl)) (.inr rfl) ?_
  refine ok_as rfl rfl ?_
  refine ok_nil ?_
  refine rk_ret ?_
  obtain rfl := someE h0
  exact finD (.inr rfl) (v := .d (.bool r1)) rfl rfl (.refl _)

theorem r11_Same_ok (p0 : List api_Span) (p1 : List api_Span) (r : Bool) (h0 : r11_Same p0 p1 = some r) : Pure Try.prog tab 17 [.sl 2 (p0.map enc_api_Span), .sl 2 (p1.map enc_api_Span)] (.bool r) := by
  unfold r11_Same at h0
  refine pure_of_run Try.func17 rfl (by kernel_rfl) (by kernel_rfl) rfl ?_
  refine rk_seq ?_
  refine rk_region ?_
  refine ok_as rfl rfl ?_
  refine ok_nil ?_
  refine rk_seq ?_
  refine rk_seq ?_
  refine rk_region ?_
  refine ok_mv rfl rfl ?_
  refine ok_ln rfl rfl rfl rfl ?_
  refine ok_mv rfl rfl ?_
  refine ok_ln rfl rfl rfl rfl ?_
  refine ok_v (.d (.bool ((p0.length : Int) != (p1.length : Int)))) rfl rfl ?_
  refine ok_nil ?_
  refine rk_condH rfl h0 (fun _ h0 => ?_) (fun _ h0 => ?_)
  · refine rk_seq ?_
    refine rk_region ?_
    refine ok_as rfl rfl ?_
    refine ok_nil ?_
    refine rk_ret ?_
    obtain rfl := someE h0
    exact finD (.inr rfl) (v := .d (.bool false)) rfl rfl (.refl _)
  · refine rk_skip ?_
    refine rk_seq ?_
    refine rk_seq ?_
    refine rk_region ?_
    refine ok_as rfl rfl ?_
    refine ok_nil ?_
    obtain ⟨m20, h21, h0⟩ := bindE h0
    refine rk_blockcut (fun b22 => .inl b22 = m20) (fun (b22 : Unit) => ⟨[], [], 0⟩) (by simp) ?_ ?_
    · refine rk_loopF (r11_Same_L1 p0 p1) (fun (a19 : Int) => ⟨[(0, .d (.sl 2 (p0.map enc_api_Span))), (1, .d (.sl 2 (p1.map enc_api_Span))), (5, .d (.int .i64 a19))], [], 0⟩) 0 m20 h21 (wkE [] [] [] rfl ⟨⟨_, rfl, .d (.refl _)⟩, ⟨_, rfl, .d (.refl _)⟩, ⟨_, rfl, .d (.refl _)⟩, trivial⟩ trivial) ?_
      intro a19 y17 h18
      unfold r11_Same_L1 at h18
      refine rk_seq ?_
      refine rk_seq ?_
      refine rk_region ?_
      refine ok_mv rfl rfl ?_
      refine ok_mv rfl rfl ?_
      refine ok_ln rfl rfl rfl rfl ?_
      refine ok_v (.d (.bool (decide (a19 < (p0.length : Int))))) rfl rfl ?_
      refine ok_nil ?_
      refine rk_condH rfl h18 (fun _ h18 => ?_) (fun _ h18 => ?_)
      · refine rk_skip ?_
        refine rk_seq ?_
        refine rk_block ?_
        refine rk_seq ?_
        refine rk_regionD (by kernel_rfl) ?_
        refine ok_mv rfl rfl ?_
        refine ok_mv rfl rfl ?_
        obtain ⟨v27, h28, h18⟩ := bindE h18
        refine ok_ix (enc := enc_api_Span) h28 rfl rfl rfl rfl rfl rfl ?_
        refine ok_v (.d (.agg [.int .i64 v27.Lo, .int .i64 v27.Hi])) rfl rfl ?_
        refine ok_mv rfl rfl ?_
        refine ok_mv rfl rfl ?_
        obtain ⟨v29, h30, h18⟩ := bindE h18
        refine ok_ix (enc := enc_api_Span) h30 rfl rfl rfl rfl rfl rfl ?_
        refine ok_v (.d (.agg [.int .i64 v29.Lo, .int .i64 v29.Hi])) rfl rfl ?_
        refine ok_v (.d (.bool (!((v27.Lo == v29.Lo) && ((v27.Hi == v29.Hi) && true))))) rfl rfl ?_
        refine ok_nil ?_
        refine rk_condH rfl h18 (fun _ h18 => ?_) (fun _ h18 => ?_)
        · refine rk_seq ?_
          refine rk_region ?_
          refine ok_as rfl rfl ?_
          refine ok_nil ?_
          refine rk_ret ?_
          refine ⟨_, (Option.some.inj h18).symm, fun hm => ?_⟩
          subst hm
          obtain rfl := someE h0
          exact finD (.inr rfl) (v := .d (.bool false)) rfl rfl (.refl _)
        · refine rk_skip ?_
          refine rk_nil ?_
          refine blk_nor ?_
          refine rk_region ?_
          refine ok_mv rfl rfl ?_
          refine ok_v (.d (.int .i64 (w64 (a19 + 1)))) rfl rfl ?_
          refine ok_as rfl rfl ?_
          refine ok_nil ?_
          refine rk_nil ?_
          exact ⟨_, (Option.some.inj h18).symm, wkE [] [] [] rfl ⟨⟨_, rfl, .d (.refl _)⟩, ⟨_, rfl, .d (.refl _)⟩, ⟨_, rfl, .d (.refl _)⟩, trivial⟩ trivial⟩
      · refine rk_exit ?_
        refine ⟨_, (Option.some.inj h18).symm, fun hm => ?_⟩
        subst hm
        exact ⟨_, rfl, wkE [] [] [] rfl trivial trivial⟩
    · intro b22 hb
      subst hb
      refine rk_seq ?_
      refine rk_region ?_
      refine ok_as rfl rfl ?_
      refine ok_nil ?_
      refine rk_ret ?_
      obtain rfl := someE h0
      exact finD (.inr rfl) (v := .d (.bool true)) rfl rfl (.refl _)

theorem l11_alive_ok (r : Bool) (h0 : l11_alive = some r) : Pure Try.prog tab 31 [] (.bool r) := by
  unfold l11_alive at h0
  refine pure_of_run Try.func31 rfl (by kernel_rfl) (by kernel_rfl) rfl ?_
  refine rk_seq ?_
  refine rk_region ?_
  refine ok_as rfl rfl ?_
  refine ok_nil ?_
  refine rk_seq ?_
  refine rk_region ?_
  refine ok_v (.d (.agg [.int .i64 0, .int .i64 3])) rfl rfl ?_
  refine ok_v (.d (.agg [.int .i64 5, .int .i64 6])) rfl rfl ?_
  refine ok_v (.d (.agg [.int .i64 2, .int .i64 5])) rfl rfl ?_
  refine ok_fzn (es := 2) ([({ Lo := 0, Hi := 3 } : api_Span), ({ Lo := 5, Hi := 6 } : api_Span), ({ Lo := 2, Hi := 5 } : api_Span)].map enc_api_Span) rfl rfl rfl rfl rfl ?_
  obtain ⟨r1, h2, h0⟩ := bindE h0
  refine ok_pc [.d (.sl 2 ([({ Lo := 0, Hi := 3 } : api_Span), ({ Lo := 5, Hi := 6 } : api_Span), ({ Lo := 2, Hi := 5 } : api_Span)].map enc_api_Span))] (span_Make_ok [({ Lo := 0, Hi := 3 } : api_Span), ({ Lo := 5, Hi := 6 } : api_Span), ({ Lo := 2, Hi := 5 } : api_Span)] r1 h2) rfl rfl rfl (.inl rfl) ?_
  refine ok_mv rfl rfl ?_
  refine ok_v (.d (.sl 2 (r1.1.map enc_api_Span))) rfl rfl ?_
  refine ok_v (.d (.int .i64 r1.2)) rfl rfl ?_
  refine ok_as rfl rfl ?_
  refine ok_as rfl rfl ?_
  refine ok_nil ?_
  refine rk_seq ?_
  refine rk_region ?_
  obtain ⟨r3, h4, h0⟩ := bindE h0
  refine ok_pc [] (l11_pair_ok r3 h4) rfl rfl rfl (.inl rfl) ?_
  obtain ⟨r5, h6, h0⟩ := bindE h0
  refine ok_pc [.d (.sl 2 (r3.map enc_api_Span))] (span_Length_ok r3 r5 h6) rfl rfl rfl (.inl rfl) ?_
  refine ok_mv rfl rfl ?_
  refine ok_v (.d (.int .i64 r5.1)) rfl rfl ?_
  refine ok_v (.d (.int .i64 r5.2)) rfl rfl ?_
  refine ok_as rfl rfl ?_
  refine ok_as rfl rfl ?_
  refine ok_nil ?_
  refine rk_seq ?_
  refine rk_region ?_
  obtain ⟨r7, h8, h0⟩ := bindE h0
  refine ok_pc [] (l11_pair_ok r7 h8) rfl rfl rfl (.inl rfl) ?_
  obtain ⟨r9, h10, h0⟩ := bindE h0
  refine ok_pc [.d (.sl 2 (r7.map enc_api_Span))] (span_Gaps_ok r7 r9 h10) rfl rfl rfl (.inl rfl) ?_
  refine ok_mv rfl rfl ?_
  refine ok_v (.d (.sl 2 (r9.1.map enc_api_Span))) rfl rfl ?_
  refine ok_v (.d (.int .i64 r9.2)) rfl rfl ?_
  refine ok_as rfl rfl ?_
  refine ok_as rfl rfl ?_
  refine ok_nil ?_
  refine rk_seq ?_
  refine rk_region ?_
  obtain ⟨r11, h12, h0⟩ := bindE h0
  refine ok_pc [] (l11_pair_ok r11 h12) rfl rfl rfl (.inl rfl) ?_
  refine ok_v (.d (.agg [.int .i64 1, .int .i64 5])) rfl rfl ?_
  refine ok_fzn (es := 2) ([({ Lo := 1, Hi := 5 } : api_Span)].map enc_api_Span) rfl rfl rfl rfl rfl ?_
  obtain ⟨r13, h14, h0⟩ := bindE h0
  refine ok_pc [.d (.sl 2 (r11.map enc_api_Span)), .d (.sl 2 ([({ Lo := 1, Hi := 5 } : api_Span)].map enc_api_Span))] (span_Minus_ok r11 [({ Lo := 1, Hi := 5 } : api_Span)] r13 h14) rfl rfl rfl (.inl rfl) ?_
  refine ok_mv rfl rfl ?_
  refine ok_v (.d (.sl 2 (r13.1.map enc_api_Span))) rfl rfl ?_
  refine ok_v (.d (.int .i64 r13.2)) rfl rfl ?_
  refine ok_as rfl rfl ?_
  refine ok_as rfl rfl ?_
  refine ok_nil ?_
  refine rk_seq ?_
  refine rk_region ?_
  obtain ⟨r15, h16, h0⟩ := bindE h0
  refine ok_pc [] (l11_pair_ok r15 h16) rfl rfl rfl (.inl rfl) ?_
  obtain ⟨r17, h18, h0⟩ := bindE h0
  refine ok_pc [.d (.sl 2 (r15.map enc_api_Span)), .d (.int .i64 3)] (span_Near_ok r15 3 r17 h18) rfl rfl rfl (.inl rfl) ?_
  refine ok_mv rfl rfl ?_
  refine ok_v (.d (.int .i64 r17.1)) rfl rfl ?_
  refine ok_v (.d (.int .i64 r17.2)) rfl rfl ?_
  refine ok_as rfl rfl ?_
  refine ok_as rfl rfl ?_
  refine ok_nil ?_
  refine rk_seq ?_
  refine rk_region ?_
  refine ok_mv rfl rfl ?_
  refine ok_v (.d (.bool (r1.2 == 0))) rfl rfl ?_
  obtain ⟨c19, h20, h0⟩ := bindE h0
  refine ok_cutQ 4 (fun A st => ∃ (j21 j22 j23 : V), st = A [(47, .d (.bool c19)), (46, j23), (45, j22), (44, j21)]) ?_ ?_
  · refine ok_mvB rfl rfl h20 (fun h20 => ?_) (fun h20 => ?_)
    · refine ok_mv rfl rfl ?_
      refine ok_v (.d (.bool (r5.2 == 0))) rfl rfl ?_
      refine ok_v (.d (.bool (r5.2 == 0))) rfl rfl ?_
      refine ok_nil ?_
      obtain rfl := someE h20
      exact ⟨_, _, _, rfl⟩
    · refine ok_sg rfl ?_
      refine ok_sg rfl ?_
      refine ok_v (.d (.bool false)) rfl rfl ?_
      refine ok_nil ?_
      obtain rfl := someE h20
      exact ⟨_, _, _, rfl⟩
  · rintro _ ⟨j21, j22, j23, rfl⟩
    obtain ⟨c24, h25, h0⟩ := bindE h0
    refine ok_cutQ 4 (fun A st => ∃ (j26 j27 j28 : V), st = A [(51, .d (.bool c24)), (50, j28), (49, j27), (48, j26)]) ?_ ?_
    · refine ok_mvB rfl rfl h25 (fun h25 => ?_) (fun h25 => ?_)
      · refine ok_mv rfl rfl ?_
        refine ok_v (.d (.bool (r9.2 == 0))) rfl rfl ?_
        refine ok_v (.d (.bool (r9.2 == 0))) rfl rfl ?_
        refine ok_nil ?_
        obtain rfl := someE h25
        exact ⟨_, _, _, rfl⟩
      · refine ok_sg rfl ?_
        refine ok_sg rfl ?_
        refine ok_v (.d (.bool false)) rfl rfl ?_
        refine ok_nil ?_
        obtain rfl := someE h25
        exact ⟨_, _, _, rfl⟩
    · rintro _ ⟨j26, j27, j28, rfl⟩
      obtain ⟨c29, h30, h0⟩ := bindE h0
      refine ok_cutQ 4 (fun A st => ∃ (j31 j32 j33 : V), st = A [(55, .d (.bool c29)), (54, j33), (53, j32), (52, j31)]) ?_ ?_
      · refine ok_mvB rfl rfl h30 (fun h30 => ?_) (fun h30 => ?_)
        · refine ok_mv rfl rfl ?_
          refine ok_v (.d (.bool (r13.2 == 0))) rfl rfl ?_
          refine ok_v (.d (.bool (r13.2 == 0))) rfl rfl ?_
          refine ok_nil ?_
          obtain rfl := someE h30
          exact ⟨_, _, _, rfl⟩
        · refine ok_sg rfl ?_
          refine ok_sg rfl ?_
          refine ok_v (.d (.bool false)) rfl rfl ?_
          refine ok_nil ?_
          obtain rfl := someE h30
          exact ⟨_, _, _, rfl⟩
      · rintro _ ⟨j31, j32, j33, rfl⟩
        obtain ⟨c34, h35, h0⟩ := bindE h0
        refine ok_cutQ 4 (fun A st => ∃ (j36 j37 j38 : V), st = A [(59, .d (.bool c34)), (58, j38), (57, j37), (56, j36)]) ?_ ?_
        · refine ok_mvB rfl rfl h35 (fun h35 => ?_) (fun h35 => ?_)
          · refine ok_mv rfl rfl ?_
            refine ok_v (.d (.bool (r17.2 == 0))) rfl rfl ?_
            refine ok_v (.d (.bool (r17.2 == 0))) rfl rfl ?_
            refine ok_nil ?_
            obtain rfl := someE h35
            exact ⟨_, _, _, rfl⟩
          · refine ok_sg rfl ?_
            refine ok_sg rfl ?_
            refine ok_v (.d (.bool false)) rfl rfl ?_
            refine ok_nil ?_
            obtain rfl := someE h35
            exact ⟨_, _, _, rfl⟩
        · rintro _ ⟨j36, j37, j38, rfl⟩
          obtain ⟨c39, h40, h0⟩ := bindE h0
          refine ok_cutQ 4 (fun A st => ∃ (j41 j42 j43 : V), st = A [(63, .d (.bool c39)), (62, j43), (61, j42), (60, j41)]) ?_ ?_
          · refine ok_mvB rfl rfl h40 (fun h40 => ?_) (fun h40 => ?_)
            · refine ok_mv rfl rfl ?_
              refine ok_v (.d (.bool (r5.1 == 5))) rfl rfl ?_
              refine ok_v (.d (.bool (r5.1 == 5))) rfl rfl ?_
              refine ok_nil ?_
              obtain rfl := someE h40
              exact ⟨_, _, _, rfl⟩
            · refine ok_sg rfl ?_
              refine ok_sg rfl ?_
              refine ok_v (.d (.bool false)) rfl rfl ?_
              refine ok_nil ?_
              obtain rfl := someE h40
              exact ⟨_, _, _, rfl⟩
          · rintro _ ⟨j41, j42, j43, rfl⟩
            obtain ⟨c44, h45, h0⟩ := bindE h0
            refine ok_cutQ 4 (fun A st => ∃ (j46 j47 j48 : V), st = A [(67, .d (.bool c44)), (66, j48), (65, j47), (64, j46)]) ?_ ?_
            · refine ok_mvB rfl rfl h45 (fun h45 => ?_) (fun h45 => ?_)
              · refine ok_mv rfl rfl ?_
                refine ok_v (.d (.bool (r17.1 == 1))) rfl rfl ?_
                refine ok_v (.d (.bool (r17.1 == 1))) rfl rfl ?_
                refine ok_nil ?_
                obtain rfl := someE h45
                exact ⟨_, _, _, rfl⟩
              · refine ok_sg rfl ?_
                refine ok_sg rfl ?_
                refine ok_v (.d (.bool false)) rfl rfl ?_
                refine ok_nil ?_
                obtain rfl := someE h45
                exact ⟨_, _, _, rfl⟩
            · rintro _ ⟨j46, j47, j48, rfl⟩
              obtain ⟨c53, h54, h0⟩ := bindE h0
              refine ok_cutQ 4 (fun A st => ∃ (j55 j56 j57 : V), st = A [(71, .d (.bool c53)), (70, j57), (69, j56), (68, j55)]) ?_ ?_
              · refine ok_mvB rfl rfl h54 (fun h54 => ?_) (fun h54 => ?_)
                · obtain ⟨r58, h59, h54⟩ := bindE h54
                  refine ok_pc [] (l11_pair_ok r58 h59) rfl rfl rfl (.inl rfl) ?_
                  obtain ⟨r60, h61, h54⟩ := bindE h54
                  refine ok_pc [.d (.sl 2 (r58.map enc_api_Span)), .d (.int .i64 6)] (span_Has_ok r58 6 r60 h61) rfl rfl rfl (.inl rfl) ?_
                  refine ok_v (.d (.bool r60)) rfl rfl ?_
                  refine ok_nil ?_
                  obtain rfl := someE h54
                  exact ⟨_, _, _, rfl⟩
                · refine ok_sg rfl ?_
                  refine ok_sg rfl ?_
                  refine ok_v (.d (.bool false)) rfl rfl ?_
                  refine ok_nil ?_
                  obtain rfl := someE h54
                  exact ⟨_, _, _, rfl⟩
              · rintro _ ⟨j55, j56, j57, rfl⟩
                obtain ⟨c66, h67, h0⟩ := bindE h0
                refine ok_cutQ 5 (fun A st => ∃ (j68 j69 j70 j71 : V), st = A [(76, .d (.bool c66)), (75, j71), (74, j70), (73, j69), (72, j68)]) ?_ ?_
                · refine ok_mvB rfl rfl h67 (fun h67 => ?_) (fun h67 => ?_)
                  · obtain ⟨r72, h73, h67⟩ := bindE h67
                    refine ok_pc [] (l11_pair_ok r72 h73) rfl rfl rfl (.inl rfl) ?_
                    obtain ⟨r74, h75, h67⟩ := bindE h67
                    refine ok_pc [.d (.sl 2 (r72.map enc_api_Span)), .d (.int .i64 7)] (span_Has_ok r72 7 r74 h75) rfl rfl rfl (.inl rfl) ?_
                    refine ok_v (.d (.bool (!r74))) rfl rfl ?_
                    refine ok_v (.d (.bool (!r74))) rfl rfl ?_
                    refine ok_nil ?_
                    obtain rfl := someE h67
                    exact ⟨_, _, _, _, rfl⟩
                  · refine ok_sg rfl ?_
                    refine ok_sg rfl ?_
                    refine ok_sg rfl ?_
                    refine ok_v (.d (.bool false)) rfl rfl ?_
                    refine ok_nil ?_
                    obtain rfl := someE h67
                    exact ⟨_, _, _, _, rfl⟩
                · rintro _ ⟨j68, j69, j70, j71, rfl⟩
                  refine ok_as rfl rfl ?_
                  refine ok_nil ?_
                  refine rk_seq ?_
                  refine rk_region ?_
                  refine ok_mv rfl rfl ?_
                  refine ok_mvB rfl rfl h0 (fun h0 => ?_) (fun h0 => ?_)
                  · refine ok_mv rfl rfl ?_
                    refine ok_v (.d (.agg [.int .i64 0, .int .i64 6])) rfl rfl ?_
                    refine ok_new (.hs 2 2 0 [({ Lo := 0, Hi := 6 } : api_Span)].length) (.dat 2 ([({ Lo := 0, Hi := 6 } : api_Span)].map enc_api_Span)) rfl rfl ?_
                    obtain ⟨r78, h79, h0⟩ := bindE h0
                    refine ok_pc [.d (.sl 2 (r1.1.map enc_api_Span)), .hs 2 2 0 [({ Lo := 0, Hi := 6 } : api_Span)].length] (r11_Same_ok r1.1 [({ Lo := 0, Hi := 6 } : api_Span)] r78 h79) rfl rfl (af_cons rfl (af_cons (td_hs rfl rfl) rfl)) (.inr rfl) ?_
                    refine ok_v (.d (.bool r78)) rfl rfl ?_
                    refine ok_mvB rfl rfl h0 (fun h0 => ?_) (fun h0 => ?_)
                    · refine ok_mv rfl rfl ?_
                      refine ok_v (.d (.agg [.int .i64 2, .int .i64 4])) rfl rfl ?_
                      refine ok_new (.hs 3 2 0 [({ Lo := 2, Hi := 4 } : api_Span)].length) (.dat 2 ([({ Lo := 2, Hi := 4 } : api_Span)].map enc_api_Span)) rfl rfl ?_
                      obtain ⟨r82, h83, h0⟩ := bindE h0
                      refine ok_pc [.d (.sl 2 (r9.1.map enc_api_Span)), .hs 3 2 0 [({ Lo := 2, Hi := 4 } : api_Span)].length] (r11_Same_ok r9.1 [({ Lo := 2, Hi := 4 } : api_Span)] r82 h83) rfl rfl (af_cons rfl (af_cons (td_hs rfl rfl) rfl)) (.inr rfl) ?_
                      refine ok_v (.d (.bool r82)) rfl rfl ?_
                      refine ok_mvB rfl rfl h0 (fun h0 => ?_) (fun h0 => ?_)
                      · refine ok_mv rfl rfl ?_
                        refine ok_v (.d (.agg [.int .i64 0, .int .i64 1])) rfl rfl ?_
                        refine ok_v (.d (.agg [.int .i64 5, .int .i64 7])) rfl rfl ?_
                        refine ok_new (.hs 4 2 0 [({ Lo := 0, Hi := 1 } : api_Span), ({ Lo := 5, Hi := 7 } : api_Span)].length) (.dat 2 ([({ Lo := 0, Hi := 1 } : api_Span), ({ Lo := 5, Hi := 7 } : api_Span)].map enc_api_Span)) rfl rfl ?_
                        obtain ⟨r86, h87, h0⟩ := bindE h0
                        refine ok_pc [.d (.sl 2 (r13.1.map enc_api_Span)), .hs 4 2 0 [({ Lo := 0, Hi := 1 } : api_Span), ({ Lo := 5, Hi := 7 } : api_Span)].length] (r11_Same_ok r13.1 [({ Lo := 0, Hi := 1 } : api_Span), ({ Lo := 5, Hi := 7 } : api_Span)] r86 h87) rfl rfl (af_cons rfl (af_cons (td_hs rfl rfl) rfl)) (.inr rfl) ?_
                        refine ok_v (.d (.bool r86)) rfl rfl ?_
                        refine ok_as rfl rfl ?_
                        refine ok_nil ?_
                        refine rk_ret ?_
                        obtain rfl := someE h0
                        exact finD (.inr rfl) (v := .d (.bool r86)) rfl rfl (.refl _)
                      · refine ok_sg rfl ?_
                        refine ok_sg rfl ?_
                        refine ok_sg rfl ?_
                        refine ok_sg rfl ?_
                        refine ok_sg rfl ?_
                        refine ok_v (.d (.bool false)) rfl rfl ?_
                        refine ok_as rfl rfl ?_
                        refine ok_nil ?_
                        refine rk_ret ?_
                        obtain rfl := someE h0
                        exact finD (.inr rfl) (v := .d (.bool false)) rfl rfl (.refl _)
                    · refine ok_sg rfl ?_
                      refine ok_sg rfl ?_
                      refine ok_sg rfl ?_
                      refine ok_sg rfl ?_
                      refine ok_v (.d (.bool false)) rfl rfl ?_
                      refine ok_mv rfl rfl ?_
                      refine ok_sg rfl ?_
                      refine ok_sg rfl ?_
                      refine ok_sg rfl ?_
                      refine ok_sg rfl ?_
                      refine ok_sg rfl ?_
                      refine ok_v (.d (.bool false)) rfl rfl ?_
                      refine ok_as rfl rfl ?_
                      refine ok_nil ?_
                      refine rk_ret ?_
                      obtain rfl := someE h0
                      exact finD (.inr rfl) (v := .d (.bool false)) rfl rfl (.refl _)
                  · refine ok_sg rfl ?_
                    refine ok_sg rfl ?_
                    refine ok_sg rfl ?_
                    refine ok_sg rfl ?_
                    refine ok_v (.d (.bool false)) rfl rfl ?_
                    refine ok_mv rfl rfl ?_
                    refine ok_sg rfl ?_
                    refine ok_sg rfl ?_
                    refine ok_sg rfl ?_
                    refine ok_sg rfl ?_
                    refine ok_v (.d (.bool false)) rfl rfl ?_
                    refine ok_mv rfl rfl ?_
                    refine ok_sg rfl ?_
                    refine ok_sg rfl ?_
                    refine ok_sg rfl ?_
                    refine ok_sg rfl ?_
                    refine ok_sg rfl ?_
                    refine ok_v (.d (.bool false)) rfl rfl ?_
                    refine ok_as rfl rfl ?_
                    refine ok_nil ?_
                    refine rk_ret ?_
                    obtain rfl := someE h0
                    exact finD (.inr rfl) (v := .d (.bool false)) rfl rfl (.refl _)

theorem r11_Valid_ok (p0 : api_Span) (r : Bool) (h0 : r11_Valid p0 = some r) : Pure Try.prog tab 36 [.agg [.int .i64 p0.Lo, .int .i64 p0.Hi]] (.bool r) := by
  unfold r11_Valid at h0
  refine pure_of_run Try.func36 rfl (by kernel_rfl) (by kernel_rfl) rfl ?_
  refine rk_seq ?_
  refine rk_region ?_
  refine ok_new (.ref 0 2 0 0) (.dat 2 [[.int .i64 p0.Lo, .int .i64 p0.Hi]]) rfl rfl ?_
  refine ok_as rfl rfl ?_
  refine ok_nil ?_
  refine rk_seq ?_
  refine rk_region ?_
  refine ok_v (.ref 0 2 0 0) rfl rfl ?_
  refine ok_v (.d (.int .i64 p0.Lo)) rfl rfl ?_
  refine ok_v (.ref 0 2 0 1) rfl rfl ?_
  refine ok_v (.d (.int .i64 p0.Hi)) rfl rfl ?_
  refine ok_v (.d (.bool (decide (p0.Lo < p0.Hi)))) rfl rfl ?_
  obtain ⟨c1, h2, h0⟩ := bindE h0
  refine ok_cutQ 5 (fun A st => ∃ (j3 j4 j5 j6 : V), st = A [(12, .d (.bool c1)), (11, j6), (10, j5), (9, j4), (8, j3)]) ?_ ?_
  · refine ok_mvB rfl rfl h2 (fun h2 => ?_) (fun h2 => ?_)
    · refine ok_v (.ref 0 2 0 0) rfl rfl ?_
      refine ok_v (.d (.int .i64 p0.Lo)) rfl rfl ?_
      refine ok_v (.d (.bool (decide (p0.Lo ≥ (-1000000))))) rfl rfl ?_
      refine ok_v (.d (.bool (decide (p0.Lo ≥ (-1000000))))) rfl rfl ?_
      refine ok_nil ?_
      obtain rfl := someE h2
      exact ⟨_, _, _, _, rfl⟩
    · refine ok_sg rfl ?_
      refine ok_sg rfl ?_
      refine ok_sg rfl ?_
      refine ok_v (.d (.bool false)) rfl rfl ?_
      refine ok_nil ?_
      obtain rfl := someE h2
      exact ⟨_, _, _, _, rfl⟩
  · rintro _ ⟨j3, j4, j5, j6, rfl⟩
    obtain ⟨c7, h8, h0⟩ := bindE h0
    refine ok_cutQ 5 (fun A st => ∃ (j9 j10 j11 j12 : V), st = A [(17, .d (.bool c7)), (16, j12), (15, j11), (14, j10), (13, j9)]) ?_ ?_
    · refine ok_mvB rfl rfl h8 (fun h8 => ?_) (fun h8 => ?_)
      · refine ok_v (.ref 0 2 0 1) rfl rfl ?_
        refine ok_v (.d (.int .i64 p0.Hi)) rfl rfl ?_
        refine ok_v (.d (.bool (decide (p0.Hi ≤ 1000000)))) rfl rfl ?_
        refine ok_v (.d (.bool (decide (p0.Hi ≤ 1000000)))) rfl rfl ?_
        refine ok_nil ?_
        obtain rfl := someE h8
        exact ⟨_, _, _, _, rfl⟩
      · refine ok_sg rfl ?_
        refine ok_sg rfl ?_
        refine ok_sg rfl ?_
        refine ok_v (.d (.bool false)) rfl rfl ?_
        refine ok_nil ?_
        obtain rfl := someE h8
        exact ⟨_, _, _, _, rfl⟩
    · rintro _ ⟨j9, j10, j11, j12, rfl⟩
      refine ok_as rfl rfl ?_
      refine ok_nil ?_
      refine rk_ret ?_
      obtain rfl := someE h0
      exact finD (.inr rfl) (v := .d (.bool c7)) rfl rfl (.refl _)

theorem r11_Check_ok (p0 : List api_Span) (r : Int) (h0 : r11_Check p0 = some r) : Pure Try.prog tab 28 [.sl 2 (p0.map enc_api_Span)] (.int .i64 r) := by
  unfold r11_Check at h0
  refine pure_of_run Try.func28 rfl (by kernel_rfl) (by kernel_rfl) rfl ?_
  refine rk_seq ?_
  refine rk_region ?_
  refine ok_as rfl rfl ?_
  refine ok_nil ?_
  refine rk_seq ?_
  refine rk_seq ?_
  refine rk_region ?_
  refine ok_mv rfl rfl ?_
  refine ok_ln rfl rfl rfl rfl ?_
  refine ok_v (.d (.bool (decide ((p0.length : Int) > 400)))) rfl rfl ?_
  refine ok_nil ?_
  refine rk_condH rfl h0 (fun _ h0 => ?_) (fun _ h0 => ?_)
  · refine rk_seq ?_
    refine rk_region ?_
    refine ok_as rfl rfl ?_
    refine ok_nil ?_
    refine rk_ret ?_
    obtain rfl := someE h0
    exact finD (.inr rfl) (v := .d (.int .i64 4)) rfl rfl (.refl _)
  · refine rk_skip ?_
    refine rk_seq ?_
    refine rk_seq ?_
    refine rk_region ?_
    refine ok_as rfl rfl ?_
    refine ok_nil ?_
    obtain ⟨m280, h281, h0⟩ := bindE h0
    refine rk_blockcut (fun b282 => .inl b282 = m280) (fun (b282 : Unit) => ⟨[], [], 0⟩) (by simp) ?_ ?_
    · refine rk_loopF (r11_Check_L1 p0) (fun (a279 : Int) => ⟨[(0, .d (.sl 2 (p0.map enc_api_Span))), (3, .d (.int .i64 a279))], [], 0⟩) 0 m280 h281 (wkE [] [] [] rfl ⟨⟨_, rfl, .d (.refl _)⟩, ⟨_, rfl, .d (.refl _)⟩, trivial⟩ trivial) ?_
      intro a279 y277 h278
      unfold r11_Check_L1 at h278
      refine rk_seq ?_
      refine rk_seq ?_
      refine rk_region ?_
      refine ok_mv rfl rfl ?_
      refine ok_mv rfl rfl ?_
      refine ok_ln rfl rfl rfl rfl ?_
      refine ok_v (.d (.bool (decide (a279 < (p0.length : Int))))) rfl rfl ?_
      refine ok_nil ?_
      refine rk_condH rfl h278 (fun _ h278 => ?_) (fun _ h278 => ?_)
      · refine rk_skip ?_
        refine rk_seq ?_
        refine rk_block ?_
        refine rk_seq ?_
        refine rk_regionD (by kernel_rfl) ?_
        refine ok_mv rfl rfl ?_
        refine ok_mv rfl rfl ?_
        obtain ⟨v352, h353, h278⟩ := bindE h278
        refine ok_ix (enc := enc_api_Span) h353 rfl rfl rfl rfl rfl rfl ?_
        refine ok_v (.d (.agg [.int .i64 v352.Lo, .int .i64 v352.Hi])) rfl rfl ?_
        obtain ⟨r354, h355, h278⟩ := bindE h278
        refine ok_pc [.d (.agg [.int .i64 v352.Lo, .int .i64 v352.Hi])] (r11_Valid_ok v352 r354 h355) rfl rfl rfl (.inl rfl) ?_
        refine ok_v (.d (.bool (!r354))) rfl rfl ?_
        obtain ⟨c379, h380, h278⟩ := bindE h278
        refine ok_cutQ 18 (fun A st => ∃ (j381 j382 j383 j384 j385 j386 j387 j388 j389 j390 j391 j392 j393 j394 j395 j396 j397 : V), st = A [(36, .d (.bool c379)), (35, j397), (34, j396), (33, j395), (32, j394), (31, j393), (30, j392), (29, j391), (28, j390), (27, j389), (26, j388), (25, j387), (24, j386), (23, j385), (22, j384), (21, j383), (20, j382), (19, j381)]) ?_ ?_
        · refine ok_mvB rfl rfl h380 (fun h380 => ?_) (fun h380 => ?_)
          · refine ok_sg rfl ?_
            refine ok_sg rfl ?_
            refine ok_sg rfl ?_
            refine ok_sg rfl ?_
            refine ok_sg rfl ?_
            refine ok_sg rfl ?_
            refine ok_sg rfl ?_
            refine ok_sg rfl ?_
            refine ok_sg rfl ?_
            refine ok_sg rfl ?_
            refine ok_sg rfl ?_
            refine ok_sg rfl ?_
            refine ok_sg rfl ?_
            refine ok_sg rfl ?_
            refine ok_sg rfl ?_
            refine ok_sg rfl ?_
            refine ok_v (.d (.bool true)) rfl rfl ?_
            refine ok_nil ?_
            obtain rfl := someE h380
            exact ⟨_, _, _, _, _, _, _, _, _, _, _, _, _, _, _, _, _, rfl⟩
          · refine ok_mv rfl rfl ?_
            refine ok_v (.d (.bool (decide (a279 > 0)))) rfl rfl ?_
            obtain ⟨c402, h403, h380⟩ := bindE h380
            refine ok_cutQ 14 (fun A st => ∃ (j404 j405 j406 j407 j408 j409 j410 j411 j412 j413 j414 j415 j416 : V), st = A [(35, .d (.bool c402)), (34, j416), (33, j415), (32, j414), (31, j413), (30, j412), (29, j411), (28, j410), (27, j409), (26, j408), (25, j407), (24, j406), (23, j405), (22, j404)]) ?_ ?_
            · refine ok_mvB rfl rfl h403 (fun h403 => ?_) (fun h403 => ?_)
              · refine ok_mv rfl rfl ?_
                refine ok_mv rfl rfl ?_
                refine ok_v (.d (.int .i64 (w64 (a279 - 1)))) rfl rfl ?_
                obtain ⟨v417, h418, h403⟩ := bindE h403
                refine ok_ix (enc := enc_api_Span) h418 rfl rfl rfl rfl rfl rfl ?_
                refine ok_v (.dref [.int .i64 v417.Lo, .int .i64 v417.Hi] 1) rfl rfl ?_
                refine ok_v (.d (.int .i64 v417.Hi)) rfl rfl ?_
                refine ok_mv rfl rfl ?_
                refine ok_mv rfl rfl ?_
                obtain ⟨v419, h420, h403⟩ := bindE h403
                refine ok_ix (enc := enc_api_Span) h420 rfl rfl rfl rfl rfl rfl ?_
                refine ok_v (.dref [.int .i64 v419.Lo, .int .i64 v419.Hi] 0) rfl rfl ?_
                refine ok_v (.d (.int .i64 v419.Lo)) rfl rfl ?_
                refine ok_v (.d (.bool (decide (v417.Hi ≥ v419.Lo)))) rfl rfl ?_
                refine ok_v (.d (.bool (decide (v417.Hi ≥ v419.Lo)))) rfl rfl ?_
                refine ok_nil ?_
                obtain rfl := someE h403
                exact ⟨_, _, _, _, _, _, _, _, _, _, _, _, _, rfl⟩
              · refine ok_sg rfl ?_
                refine ok_sg rfl ?_
                refine ok_sg rfl ?_
                refine ok_sg rfl ?_
                refine ok_sg rfl ?_
                refine ok_sg rfl ?_
                refine ok_sg rfl ?_
                refine ok_sg rfl ?_
                refine ok_sg rfl ?_
                refine ok_sg rfl ?_
                refine ok_sg rfl ?_
                refine ok_sg rfl ?_
                refine ok_v (.d (.bool false)) rfl rfl ?_
                refine ok_nil ?_
                obtain rfl := someE h403
                exact ⟨_, _, _, _, _, _, _, _, _, _, _, _, _, rfl⟩
            · rintro _ ⟨j404, j405, j406, j407, j408, j409, j410, j411, j412, j413, j414, j415, j416, rfl⟩
              refine ok_v (.d (.bool c402)) rfl rfl ?_
              refine ok_nil ?_
              obtain rfl := someE h380
              exact ⟨_, _, _, _, _, _, _, _, _, _, _, _, _, _, _, _, _, rfl⟩
        · rintro _ ⟨j381, j382, j383, j384, j385, j386, j387, j388, j389, j390, j391, j392, j393, j394, j395, j396, j397, rfl⟩
          refine ok_nil ?_
          refine rk_condH rfl h278 (fun _ h278 => ?_) (fun _ h278 => ?_)
          · refine rk_seq ?_
            refine rk_region ?_
            refine ok_as rfl rfl ?_
            refine ok_nil ?_
            refine rk_ret ?_
            refine ⟨_, (Option.some.inj h278).symm, fun hm => ?_⟩
            subst hm
            obtain rfl := someE h0
            exact finD (.inr rfl) (v := .d (.int .i64 8)) rfl rfl (.refl _)
          · refine rk_skip ?_
            refine rk_nil ?_
            refine blk_nor ?_
            refine rk_region ?_
            refine ok_mv rfl rfl ?_
            refine ok_v (.d (.int .i64 (w64 (a279 + 1)))) rfl rfl ?_
            refine ok_as rfl rfl ?_
            refine ok_nil ?_
            refine rk_nil ?_
            exact ⟨_, (Option.some.inj h278).symm, wkE [] [] [] rfl ⟨⟨_, rfl, .d (.refl _)⟩, ⟨_, rfl, .d (.refl _)⟩, trivial⟩ trivial⟩
      · refine rk_exit ?_
        refine ⟨_, (Option.some.inj h278).symm, fun hm => ?_⟩
        subst hm
        exact ⟨_, rfl, wkE [] [] [] rfl trivial trivial⟩
    · intro b282 hb
      subst hb
      refine rk_seq ?_
      refine rk_region ?_
      refine ok_as rfl rfl ?_
      refine ok_nil ?_
      refine rk_ret ?_
      obtain rfl := someE h0
      exact finD (.inr rfl) (v := .d (.int .i64 0)) rfl rfl (.refl _)

theorem l11_SpanNear_ok (p0 : List api_Span) (p1 : Int) (r : Bool) (h0 : l11_SpanNear p0 p1 = some r) : Pure Try.prog tab 6 [.sl 2 (p0.map enc_api_Span), .int .i64 p1] (.bool r) := by
  unfold l11_SpanNear at h0
  refine pure_of_run Try.func6 rfl (by kernel_rfl) (by kernel_rfl) rfl ?_
  refine rk_seq ?_
  refine rk_region ?_
  refine ok_as rfl rfl ?_
  refine ok_nil ?_
  refine rk_seq ?_
  refine rk_region ?_
  obtain ⟨r1, h2, h0⟩ := bindE h0
  refine ok_pc [] (l11_alive_ok r1 h2) rfl rfl rfl (.inl rfl) ?_
  refine ok_as rfl rfl ?_
  refine ok_nil ?_
  refine rk_seq ?_
  refine rk_seq ?_
  refine rk_region ?_
  refine ok_mv rfl rfl ?_
  obtain ⟨r3, h4, h0⟩ := bindE h0
  refine ok_pc [.d (.sl 2 (p0.map enc_api_Span))] (r11_Check_ok p0 r3 h4) rfl rfl rfl (.inl rfl) ?_
  refine ok_v (.d (.bool (r3 != 0))) rfl rfl ?_
  obtain ⟨c5, h6, h0⟩ := bindE h0
  refine ok_cutQ 5 (fun A st => ∃ (j7 j8 j9 j10 : V), st = A [(17, .d (.bool c5)), (16, j10), (15, j9), (14, j8), (13, j7)]) ?_ ?_
  · refine ok_mvB rfl rfl h6 (fun h6 => ?_) (fun h6 => ?_)
    · refine ok_sg rfl ?_
      refine ok_sg rfl ?_
      refine ok_sg rfl ?_
      refine ok_v (.d (.bool true)) rfl rfl ?_
      refine ok_nil ?_
      obtain rfl := someE h6
      exact ⟨_, _, _, _, rfl⟩
    · refine ok_mv rfl rfl ?_
      refine ok_ln rfl rfl rfl rfl ?_
      refine ok_v (.d (.bool ((p0.length : Int) == 0))) rfl rfl ?_
      refine ok_v (.d (.bool ((p0.length : Int) == 0))) rfl rfl ?_
      refine ok_nil ?_
      obtain rfl := someE h6
      exact ⟨_, _, _, _, rfl⟩
  · rintro _ ⟨j7, j8, j9, j10, rfl⟩
    obtain ⟨c13, h14, h0⟩ := bindE h0
    refine ok_cutQ 7 (fun A st => ∃ (j15 j16 j17 j18 j19 j20 : V), st = A [(24, .d (.bool c13)), (23, j20), (22, j19), (21, j18), (20, j17), (19, j16), (18, j15)]) ?_ ?_
    · refine ok_mvB rfl rfl h14 (fun h14 => ?_) (fun h14 => ?_)
      · refine ok_sg rfl ?_
        refine ok_sg rfl ?_
        refine ok_sg rfl ?_
        refine ok_sg rfl ?_
        refine ok_sg rfl ?_
        refine ok_v (.d (.bool true)) rfl rfl ?_
        refine ok_nil ?_
        obtain rfl := someE h14
        exact ⟨_, _, _, _, _, _, rfl⟩
      · refine ok_mv rfl rfl ?_
        obtain ⟨v21, h22, h14⟩ := bindE h14
        refine ok_ix (enc := enc_api_Span) h22 rfl rfl rfl rfl rfl rfl ?_
        refine ok_v (.dref [.int .i64 v21.Lo, .int .i64 v21.Hi] 0) rfl rfl ?_
        refine ok_v (.d (.int .i64 v21.Lo)) rfl rfl ?_
        refine ok_v (.d (.bool (decide (v21.Lo < (-1000))))) rfl rfl ?_
        refine ok_v (.d (.bool (decide (v21.Lo < (-1000))))) rfl rfl ?_
        refine ok_nil ?_
        obtain rfl := someE h14
        exact ⟨_, _, _, _, _, _, rfl⟩
    · rintro _ ⟨j15, j16, j17, j18, j19, j20, rfl⟩
      obtain ⟨c25, h26, h0⟩ := bindE h0
      refine ok_cutQ 10 (fun A st => ∃ (j27 j28 j29 j30 j31 j32 j33 j34 j35 : V), st = A [(34, .d (.bool c25)), (33, j35), (32, j34), (31, j33), (30, j32), (29, j31), (28, j30), (27, j29), (26, j28), (25, j27)]) ?_ ?_
      · refine ok_mvB rfl rfl h26 (fun h26 => ?_) (fun h26 => ?_)
        · refine ok_sg rfl ?_
          refine ok_sg rfl ?_
          refine ok_sg rfl ?_
          refine ok_sg rfl ?_
          refine ok_sg rfl ?_
          refine ok_sg rfl ?_
          refine ok_sg rfl ?_
          refine ok_sg rfl ?_
          refine ok_v (.d (.bool true)) rfl rfl ?_
          refine ok_nil ?_
          obtain rfl := someE h26
          exact ⟨_, _, _, _, _, _, _, _, _, rfl⟩
        · refine ok_mv rfl rfl ?_
          refine ok_mv rfl rfl ?_
          refine ok_ln rfl rfl rfl rfl ?_
          refine ok_v (.d (.int .i64 (w64 ((p0.length : Int) - 1)))) rfl rfl ?_
          obtain ⟨v36, h37, h26⟩ := bindE h26
          refine ok_ix (enc := enc_api_Span) h37 rfl rfl rfl rfl rfl rfl ?_
          refine ok_v (.dref [.int .i64 v36.Lo, .int .i64 v36.Hi] 1) rfl rfl ?_
          refine ok_v (.d (.int .i64 v36.Hi)) rfl rfl ?_
          refine ok_v (.d (.bool (decide (v36.Hi > 1000)))) rfl rfl ?_
          refine ok_v (.d (.bool (decide (v36.Hi > 1000)))) rfl rfl ?_
          refine ok_nil ?_
          obtain rfl := someE h26
          exact ⟨_, _, _, _, _, _, _, _, _, rfl⟩
      · rintro _ ⟨j27, j28, j29, j30, j31, j32, j33, j34, j35, rfl⟩
        obtain ⟨c38, h39, h0⟩ := bindE h0
        refine ok_cutQ 4 (fun A st => ∃ (j40 j41 j42 : V), st = A [(38, .d (.bool c38)), (37, j42), (36, j41), (35, j40)]) ?_ ?_
        · refine ok_mvB rfl rfl h39 (fun h39 => ?_) (fun h39 => ?_)
          · refine ok_sg rfl ?_
            refine ok_sg rfl ?_
            refine ok_v (.d (.bool true)) rfl rfl ?_
            refine ok_nil ?_
            obtain rfl := someE h39
            exact ⟨_, _, _, rfl⟩
          · refine ok_mv rfl rfl ?_
            refine ok_v (.d (.bool (decide (p1 < (-1000))))) rfl rfl ?_
            refine ok_v (.d (.bool (decide (p1 < (-1000))))) rfl rfl ?_
            refine ok_nil ?_
            obtain rfl := someE h39
            exact ⟨_, _, _, rfl⟩
        · rintro _ ⟨j40, j41, j42, rfl⟩
          obtain ⟨c43, h44, h0⟩ := bindE h0
          refine ok_cutQ 4 (fun A st => ∃ (j45 j46 j47 : V), st = A [(42, .d (.bool c43)), (41, j47), (40, j46), (39, j45)]) ?_ ?_
          · refine ok_mvB rfl rfl h44 (fun h44 => ?_) (fun h44 => ?_)
            · refine ok_sg rfl ?_
              refine ok_sg rfl ?_
              refine ok_v (.d (.bool true)) rfl rfl ?_
              refine ok_nil ?_
              obtain rfl := someE h44
              exact ⟨_, _, _, rfl⟩
            · refine ok_mv rfl rfl ?_
              refine ok_v (.d (.bool (decide (p1 > 1000)))) rfl rfl ?_
              refine ok_v (.d (.bool (decide (p1 > 1000)))) rfl rfl ?_
              refine ok_nil ?_
              obtain rfl := someE h44
              exact ⟨_, _, _, rfl⟩
          · rintro _ ⟨j45, j46, j47, rfl⟩
            obtain ⟨c48, h49, h0⟩ := bindE h0
            refine ok_cutQ 4 (fun A st => ∃ (j50 j51 j52 : V), st = A [(46, .d (.bool c48)), (45, j52), (44, j51), (43, j50)]) ?_ ?_
            · refine ok_mvB rfl rfl h49 (fun h49 => ?_) (fun h49 => ?_)
              · refine ok_sg rfl ?_
                refine ok_sg rfl ?_
                refine ok_v (.d (.bool true)) rfl rfl ?_
                refine ok_nil ?_
                obtain rfl := someE h49
                exact ⟨_, _, _, rfl⟩
              · refine ok_mv rfl rfl ?_
                refine ok_v (.d (.bool (!r1))) rfl rfl ?_
                refine ok_v (.d (.bool (!r1))) rfl rfl ?_
                refine ok_nil ?_
                obtain rfl := someE h49
                exact ⟨_, _, _, rfl⟩
            · rintro _ ⟨j50, j51, j52, rfl⟩
              refine ok_nil ?_
              refine rk_condH rfl h0 (fun _ h0 => ?_) (fun _ h0 => ?_)
              · refine rk_seq ?_
                refine rk_region ?_
                refine ok_mv rfl rfl ?_
                refine ok_as rfl rfl ?_
                refine ok_nil ?_
                refine rk_ret ?_
                obtain rfl := someE h0
                exact finD (.inr rfl) (v := .d (.bool r1)) rfl rfl (.refl _)
              · refine rk_skip ?_
                refine rk_seq ?_
                refine rk_region ?_
                refine ok_mv rfl rfl ?_
                refine ok_mv rfl rfl ?_
                obtain ⟨r53, h54, h0⟩ := bindE h0
                refine ok_pc [.d (.sl 2 (p0.map enc_api_Span)), .d (.int .i64 p1)] (span_Near_ok p0 p1 r53 h54) rfl rfl rfl (.inl rfl) ?_
                refine ok_mv rfl rfl ?_
                refine ok_v (.d (.int .i64 r53.1)) rfl rfl ?_
                refine ok_v (.d (.int .i64 r53.2)) rfl rfl ?_
                refine ok_as rfl rfl ?_
                refine ok_as rfl rfl ?_
                refine ok_nil ?_
                refine rk_seq ?_
                refine rk_seq ?_
                refine rk_region ?_
                refine ok_mv rfl rfl ?_
                refine ok_v (.d (.bool (r53.2 != 0))) rfl rfl ?_
                obtain ⟨c55, h56, h0⟩ := bindE h0
                refine ok_cutQ 4 (fun A st => ∃ (j57 j58 j59 : V), st = A [(59, .d (.bool c55)), (58, j59), (57, j58), (56, j57)]) ?_ ?_
                · refine ok_mvB rfl rfl h56 (fun h56 => ?_) (fun h56 => ?_)
                  · refine ok_sg rfl ?_
                    refine ok_sg rfl ?_
                    refine ok_v (.d (.bool true)) rfl rfl ?_
                    refine ok_nil ?_
                    obtain rfl := someE h56
                    exact ⟨_, _, _, rfl⟩
                  · refine ok_mv rfl rfl ?_
                    refine ok_v (.d (.bool (decide (r53.1 < 0)))) rfl rfl ?_
                    refine ok_v (.d (.bool (decide (r53.1 < 0)))) rfl rfl ?_
                    refine ok_nil ?_
                    obtain rfl := someE h56
                    exact ⟨_, _, _, rfl⟩
                · rintro _ ⟨j57, j58, j59, rfl⟩
                  obtain ⟨c60, h61, h0⟩ := bindE h0
                  refine ok_cutQ 4 (fun A st => ∃ (j62 j63 j64 : V), st = A [(63, .d (.bool c60)), (62, j64), (61, j63), (60, j62)]) ?_ ?_
                  · refine ok_mvB rfl rfl h61 (fun h61 => ?_) (fun h61 => ?_)
                    · refine ok_sg rfl ?_
                      refine ok_sg rfl ?_
                      refine ok_v (.d (.bool true)) rfl rfl ?_
                      refine ok_nil ?_
                      obtain rfl := someE h61
                      exact ⟨_, _, _, rfl⟩
                    · refine ok_mv rfl rfl ?_
                      refine ok_v (.d (.bool (decide (r53.1 > 2000)))) rfl rfl ?_
                      refine ok_v (.d (.bool (decide (r53.1 > 2000)))) rfl rfl ?_
                      refine ok_nil ?_
                      obtain rfl := someE h61
                      exact ⟨_, _, _, rfl⟩
                  · rintro _ ⟨j62, j63, j64, rfl⟩
                    obtain ⟨c80, h81, h0⟩ := bindE h0
                    refine ok_cutQ 16 (fun A st => ∃ (j82 j83 j84 j85 j86 j87 j88 j89 j90 j91 j92 j93 j94 j95 j96 : V), st = A [(79, .d (.bool c80)), (78, j96), (77, j95), (76, j94), (75, j93), (74, j92), (73, j91), (72, j90), (71, j89), (70, j88), (69, j87), (68, j86), (67, j85), (66, j84), (65, j83), (64, j82)]) ?_ ?_
                    · refine ok_mvB rfl rfl h81 (fun h81 => ?_) (fun h81 => ?_)
                      · refine ok_sg rfl ?_
                        refine ok_sg rfl ?_
                        refine ok_sg rfl ?_
                        refine ok_sg rfl ?_
                        refine ok_sg rfl ?_
                        refine ok_sg rfl ?_
                        refine ok_sg rfl ?_
                        refine ok_sg rfl ?_
                        refine ok_sg rfl ?_
                        refine ok_sg rfl ?_
                        refine ok_sg rfl ?_
                        refine ok_sg rfl ?_
                        refine ok_sg rfl ?_
                        refine ok_sg rfl ?_
                        refine ok_v (.d (.bool true)) rfl rfl ?_
                        refine ok_nil ?_
                        obtain rfl := someE h81
                        exact ⟨_, _, _, _, _, _, _, _, _, _, _, _, _, _, _, rfl⟩
                      · refine ok_mv rfl rfl ?_
                        refine ok_mv rfl rfl ?_
                        refine ok_mv rfl rfl ?_
                        refine ok_v (.d (.int .i64 (w64 (p1 - r53.1)))) rfl rfl ?_
                        obtain ⟨r97, h98, h81⟩ := bindE h81
                        refine ok_pc [.d (.sl 2 (p0.map enc_api_Span)), .d (.int .i64 (w64 (p1 - r53.1)))] (span_Has_ok p0 (w64 (p1 - r53.1)) r97 h98) rfl rfl rfl (.inl rfl) ?_
                        refine ok_v (.d (.bool (!r97))) rfl rfl ?_
                        obtain ⟨c101, h102, h81⟩ := bindE h81
                        refine ok_cutQ 8 (fun A st => ∃ (j103 j104 j105 j106 j107 j108 j109 : V), st = A [(78, .d (.bool c101)), (77, j109), (76, j108), (75, j107), (74, j106), (73, j105), (72, j104), (71, j103)]) ?_ ?_
                        · refine ok_mvB rfl rfl h102 (fun h102 => ?_) (fun h102 => ?_)
                          · refine ok_mv rfl rfl ?_
                            refine ok_mv rfl rfl ?_
                            refine ok_mv rfl rfl ?_
                            refine ok_v (.d (.int .i64 (w64 (p1 + r53.1)))) rfl rfl ?_
                            obtain ⟨r110, h111, h102⟩ := bindE h102
                            refine ok_pc [.d (.sl 2 (p0.map enc_api_Span)), .d (.int .i64 (w64 (p1 + r53.1)))] (span_Has_ok p0 (w64 (p1 + r53.1)) r110 h111) rfl rfl rfl (.inl rfl) ?_
                            refine ok_v (.d (.bool (!r110))) rfl rfl ?_
                            refine ok_v (.d (.bool (!r110))) rfl rfl ?_
                            refine ok_nil ?_
                            obtain rfl := someE h102
                            exact ⟨_, _, _, _, _, _, _, rfl⟩
                          · refine ok_sg rfl ?_
                            refine ok_sg rfl ?_
                            refine ok_sg rfl ?_
                            refine ok_sg rfl ?_
                            refine ok_sg rfl ?_
                            refine ok_sg rfl ?_
                            refine ok_v (.d (.bool false)) rfl rfl ?_
                            refine ok_nil ?_
                            obtain rfl := someE h102
                            exact ⟨_, _, _, _, _, _, _, rfl⟩
                        · rintro _ ⟨j103, j104, j105, j106, j107, j108, j109, rfl⟩
                          refine ok_v (.d (.bool c101)) rfl rfl ?_
                          refine ok_nil ?_
                          obtain rfl := someE h81
                          exact ⟨_, _, _, _, _, _, _, _, _, _, _, _, _, _, _, rfl⟩
                    · rintro _ ⟨j82, j83, j84, j85, j86, j87, j88, j89, j90, j91, j92, j93, j94, j95, j96, rfl⟩
                      refine ok_nil ?_
                      refine rk_condH rfl h0 (fun _ h0 => ?_) (fun _ h0 => ?_)
                      · refine rk_seq ?_
                        refine rk_region ?_
                        refine ok_as rfl rfl ?_
                        refine ok_nil ?_
                        refine rk_ret ?_
                        obtain rfl := someE h0
                        exact finD (.inr rfl) (v := .d (.bool false)) rfl rfl (.refl _)
                      · refine rk_skip ?_
                        refine rk_seq ?_
                        refine rk_seq ?_
                        refine rk_region ?_
                        refine ok_as rfl rfl ?_
                        refine ok_nil ?_
                        obtain ⟨m171, h172, h0⟩ := bindE h0
                        refine rk_blockcut (fun b173 => .inl b173 = m171) (fun (b173 : Unit) => ⟨[(5, .d (.bool r1))], [], 0⟩) (by simp) ?_ ?_
                        · refine rk_loopF (l11_SpanNear_L1 r53 p0 p1) (fun (a170 : Int) => ⟨[(0, .d (.sl 2 (p0.map enc_api_Span))), (1, .d (.int .i64 p1)), (5, .d (.bool r1)), (6, .d (.int .i64 r53.1)), (8, .d (.int .i64 a170))], [], 0⟩) 0 m171 h172 (wkE [] [] [] rfl ⟨⟨_, rfl, .d (.refl _)⟩, ⟨_, rfl, .d (.refl _)⟩, ⟨_, rfl, .d (.refl _)⟩, ⟨_, rfl, .d (.refl _)⟩, ⟨_, rfl, .d (.refl _)⟩, trivial⟩ trivial) ?_
                          intro a170 y168 h169
                          unfold l11_SpanNear_L1 at h169
                          refine rk_seq ?_
                          refine rk_seq ?_
                          refine rk_region ?_
                          refine ok_mv rfl rfl ?_
                          refine ok_mv rfl rfl ?_
                          refine ok_v (.d (.bool (decide (a170 < r53.1)))) rfl rfl ?_
                          refine ok_nil ?_
                          refine rk_condH rfl h169 (fun _ h169 => ?_) (fun _ h169 => ?_)
                          · refine rk_skip ?_
                            refine rk_seq ?_
                            refine rk_block ?_
                            refine rk_seq ?_
                            refine rk_region ?_
                            refine ok_mv rfl rfl ?_
                            refine ok_mv rfl rfl ?_
                            refine ok_mv rfl rfl ?_
                            refine ok_v (.d (.int .i64 (w64 (p1 - a170)))) rfl rfl ?_
                            obtain ⟨r188, h189, h169⟩ := bindE h169
                            refine ok_pc [.d (.sl 2 (p0.map enc_api_Span)), .d (.int .i64 (w64 (p1 - a170)))] (span_Has_ok p0 (w64 (p1 - a170)) r188 h189) rfl rfl rfl (.inl rfl) ?_
                            obtain ⟨c192, h193, h169⟩ := bindE h169
                            refine ok_cutQ 7 (fun A st => ∃ (j194 j195 j196 j197 j198 j199 : V), st = A [(96, .d (.bool c192)), (95, j199), (94, j198), (93, j197), (92, j196), (91, j195), (90, j194)]) ?_ ?_
                            · refine ok_mvB rfl rfl h193 (fun h193 => ?_) (fun h193 => ?_)
                              · refine ok_sg rfl ?_
                                refine ok_sg rfl ?_
                                refine ok_sg rfl ?_
                                refine ok_sg rfl ?_
                                refine ok_sg rfl ?_
                                refine ok_v (.d (.bool true)) rfl rfl ?_
                                refine ok_nil ?_
                                obtain rfl := someE h193
                                exact ⟨_, _, _, _, _, _, rfl⟩
                              · refine ok_mv rfl rfl ?_
                                refine ok_mv rfl rfl ?_
                                refine ok_mv rfl rfl ?_
                                refine ok_v (.d (.int .i64 (w64 (p1 + a170)))) rfl rfl ?_
                                obtain ⟨r200, h201, h193⟩ := bindE h193
                                refine ok_pc [.d (.sl 2 (p0.map enc_api_Span)), .d (.int .i64 (w64 (p1 + a170)))] (span_Has_ok p0 (w64 (p1 + a170)) r200 h201) rfl rfl rfl (.inl rfl) ?_
                                refine ok_v (.d (.bool r200)) rfl rfl ?_
                                refine ok_nil ?_
                                obtain rfl := someE h193
                                exact ⟨_, _, _, _, _, _, rfl⟩
                            · rintro _ ⟨j194, j195, j196, j197, j198, j199, rfl⟩
                              refine ok_nil ?_
                              refine rk_condH rfl h169 (fun _ h169 => ?_) (fun _ h169 => ?_)
                              · refine rk_seq ?_
                                refine rk_region ?_
                                refine ok_as rfl rfl ?_
                                refine ok_nil ?_
                                refine rk_ret ?_
                                refine ⟨_, (Option.some.inj h169).symm, fun hm => ?_⟩
                                subst hm
                                obtain rfl := someE h0
                                exact finD (.inr rfl) (v := .d (.bool false)) rfl rfl (.refl _)
                              · refine rk_skip ?_
                                refine rk_nil ?_
                                refine blk_nor ?_
                                refine rk_region ?_
                                refine ok_mv rfl rfl ?_
                                refine ok_v (.d (.int .i64 (w64 (a170 + 1)))) rfl rfl ?_
                                refine ok_as rfl rfl ?_
                                refine ok_nil ?_
                                refine rk_nil ?_
                                exact ⟨_, (Option.some.inj h169).symm, wkE [] [] [] rfl ⟨⟨_, rfl, .d (.refl _)⟩, ⟨_, rfl, .d (.refl _)⟩, ⟨_, rfl, .d (.refl _)⟩, ⟨_, rfl, .d (.refl _)⟩, ⟨_, rfl, .d (.refl _)⟩, trivial⟩ trivial⟩
                          · refine rk_exit ?_
                            refine ⟨_, (Option.some.inj h169).symm, fun hm => ?_⟩
                            subst hm
                            exact ⟨_, rfl, wkE [] [] [] rfl ⟨⟨_, rfl, .d (.refl _)⟩, trivial⟩ trivial⟩
                        · intro b173 hb
                          subst hb
                          refine rk_seq ?_
                          refine rk_region ?_
                          refine ok_mv rfl rfl ?_
                          refine ok_as rfl rfl ?_
                          refine ok_nil ?_
                          refine rk_ret ?_
                          obtain rfl := someE h0
                          exact finD (.inr rfl) (v := .d (.bool r1)) rfl rfl (.refl _)
end Go.Proofs.Ytcpogfjlehoabaa
