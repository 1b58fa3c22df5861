/- THE WALKS, lifted by program: on. -/
import Derived.Test.YtcpogfjlehoabaaWSpanPointsa
namespace Go.Proofs.Ytcpogfjlehoabaa
open Go Go.Am Go.Sh
theorem span_Has_1_ok (p0 : api_Span) (p1 : Int) (r : Bool) (h0 : span_Has_1 p0 p1 = some r) : Pure Try.prog tab 45 [.agg [.int .i64 p0.Lo, .int .i64 p0.Hi], .box [.int .i64 p1]] (.bool r) := by
  unfold span_Has_1 at h0
  refine pure_of_run Try.func45 rfl (by kernel_rfl) (by kernel_rfl) rfl ?_
  refine rk_seq ?_
  refine rk_region ?_
  refine ok_new (.ref 0 2 0 0) (.dat 2 [[.int .i64 p0.Lo, .int .i64 p0.Hi]]) rfl rfl ?_
  refine ok_as rfl rfl ?_
  refine ok_nil ?_
  refine rk_seq ?_
  refine rk_region ?_
  refine ok_v (.ref 0 2 0 0) rfl rfl ?_
  refine ok_v (.d (.int .i64 p0.Lo)) rfl rfl ?_
  refine ok_v (.d (.int .i64 p1)) rfl rfl ?_
  refine ok_v (.d (.bool (decide (p0.Lo ≤ p1)))) rfl rfl ?_
  obtain ⟨c1, h2, h0⟩ := bindE h0
  refine ok_cutQ 6 (fun A st => ∃ (j3 j4 j5 j6 j7 : V), st = A [(13, .d (.bool c1)), (12, j7), (11, j6), (10, j5), (9, j4), (8, j3)]) ?_ ?_
  · refine ok_mvB rfl rfl h2 (fun h2 => ?_) (fun h2 => ?_)
    · refine ok_v (.d (.int .i64 p1)) rfl rfl ?_
      refine ok_v (.ref 0 2 0 1) rfl rfl ?_
      refine ok_v (.d (.int .i64 p0.Hi)) rfl rfl ?_
      refine ok_v (.d (.bool (decide (p1 < p0.Hi)))) rfl rfl ?_
      refine ok_v (.d (.bool (decide (p1 < p0.Hi)))) rfl rfl ?_
      refine ok_nil ?_
      obtain rfl := someE h2
      exact ⟨_, _, _, _, _, rfl⟩
    · refine ok_sg rfl ?_
      refine ok_sg rfl ?_
      refine ok_sg rfl ?_
      refine ok_sg rfl ?_
      refine ok_v (.d (.bool false)) rfl rfl ?_
      refine ok_nil ?_
      obtain rfl := someE h2
      exact ⟨_, _, _, _, _, rfl⟩
  · rintro _ ⟨j3, j4, j5, j6, j7, rfl⟩
    refine ok_as rfl rfl ?_
    refine ok_nil ?_
    refine rk_ret ?_
    obtain rfl := someE h0
    exact finD (.inr rfl) (v := .d (.bool c1)) rfl rfl (.refl _)

theorem span_Has_ok (p0 : List api_Span) (p1 : Int) (r : Bool) (h0 : span_Has p0 p1 = some r) : Pure Try.prog tab 29 [.sl 2 (p0.map enc_api_Span), .int .i64 p1] (.bool r) := by
  unfold span_Has at h0
  refine pure_of_run Try.func29 rfl (by kernel_rfl) (by kernel_rfl) rfl ?_
  refine rk_seq ?_
  refine rk_region ?_
  refine ok_new (.ref 0 1 0 0) (.dat 1 [[.int .i64 p1]]) rfl rfl ?_
  refine ok_as rfl rfl ?_
  refine ok_nil ?_
  refine rk_seq ?_
  refine rk_region ?_
  refine ok_mv rfl rfl ?_
  refine ok_v (.fn 45 [.ref 0 1 0 0]) rfl rfl ?_
  obtain ⟨r1, h2, h0⟩ := bindE h0
  refine ok_pc [.d (.sl 2 (p0.map enc_api_Span)), .fn 45 [.ref 0 1 0 0]] (slices_ContainsFunc_api_Span_api_Span_ok p0 (fun x0 => span_Has_1 x0 p1) 45 [.box [.int .i64 p1]] (fun x0 r hr => span_Has_1_ok x0 p1 r hr) r1 h2) rfl rfl (af_cons rfl (af_cons (td_fn (mm_cons rfl rfl)) rfl)) (.inr rfl) ?_
  refine ok_as rfl rfl ?_
  refine ok_nil ?_
  refine rk_ret ?_
  obtain rfl := someE h0
  exact finD (.inr rfl) (v := .d (.bool r1)) rfl rfl (.refl _)

theorem r11_Same_ok (p0 : List api_Span) (p1 : List api_Span) (r : Bool) (h0 : r11_Same p0 p1 = some r) : Pure Try.prog tab 17 [.sl 2 (p0.map enc_api_Span), .sl 2 (p1.map enc_api_Span)] (.bool r) := by
  unfold r11_Same at h0
  refine pure_of_run Try.func17 rfl (by kernel_rfl) (by kernel_rfl) rfl ?_
  refine rk_seq ?_
  refine rk_region ?_
  refine ok_as rfl rfl ?_
  refine ok_nil ?_
  refine rk_seq ?_
  refine rk_seq ?_
  refine rk_region ?_
  refine ok_mv rfl rfl ?_
  refine ok_ln rfl rfl rfl rfl ?_
  refine ok_mv rfl rfl ?_
  refine ok_ln rfl rfl rfl rfl ?_
  refine ok_v (.d (.bool ((p0.length : Int) != (p1.length : Int)))) rfl rfl ?_
  refine ok_nil ?_
  refine rk_condH rfl h0 (fun _ h0 => ?_) (fun _ h0 => ?_)
  · refine rk_seq ?_
    refine rk_region ?_
    refine ok_as rfl rfl ?_
    refine ok_nil ?_
    refine rk_ret ?_
    obtain rfl := someE h0
    exact finD (.inr rfl) (v := .d (.bool false)) rfl rfl (.refl _)
  · refine rk_skip ?_
    refine rk_seq ?_
    refine rk_seq ?_
    refine rk_region ?_
    refine ok_as rfl rfl ?_
    refine ok_nil ?_
    obtain ⟨m20, h21, h0⟩ := bindE h0
    refine rk_blockcut (fun b22 => .inl b22 = m20) (fun (b22 : Unit) => ⟨[], [], 0⟩) (by simp) ?_ ?_
    · refine rk_loopF (r11_Same_L1 p0 p1) (fun (a19 : Int) => ⟨[(0, .d (.sl 2 (p0.map enc_api_Span))), (1, .d (.sl 2 (p1.map enc_api_Span))), (5, .d (.int .i64 a19))], [], 0⟩) 0 m20 h21 (wkE [] [] [] rfl ⟨⟨_, rfl, .d (.refl _)⟩, ⟨_, rfl, .d (.refl _)⟩, ⟨_, rfl, .d (.refl _)⟩, trivial⟩ trivial) ?_
      intro a19 y17 h18
      unfold r11_Same_L1 at h18
      refine rk_seq ?_
      refine rk_seq ?_
      refine rk_region ?_
      refine ok_mv rfl rfl ?_
      refine ok_mv rfl rfl ?_
      refine ok_ln rfl rfl rfl rfl ?_
      refine ok_v (.d (.bool (decide (a19 < (p0.length : Int))))) rfl rfl ?_
      refine ok_nil ?_
      refine rk_condH rfl h18 (fun _ h18 => ?_) (fun _ h18 => ?_)
      · refine rk_skip ?_
        refine rk_seq ?_
        refine rk_block ?_
        refine rk_seq ?_
        refine rk_regionD (by kernel_rfl) ?_
        refine ok_mv rfl rfl ?_
        refine ok_mv rfl rfl ?_
        obtain ⟨v27, h28, h18⟩ := bindE h18
        refine ok_ix (enc := enc_api_Span) h28 rfl rfl rfl rfl rfl rfl ?_
        refine ok_v (.d (.agg [.int .i64 v27.Lo, .int .i64 v27.Hi])) rfl rfl ?_
        refine ok_mv rfl rfl ?_
        refine ok_mv rfl rfl ?_
        obtain ⟨v29, h30, h18⟩ := bindE h18
        refine ok_ix (enc := enc_api_Span) h30 rfl rfl rfl rfl rfl rfl ?_
        refine ok_v (.d (.agg [.int .i64 v29.Lo, .int .i64 v29.Hi])) rfl rfl ?_
        refine ok_v (.d (.bool (!((v27.Lo == v29.Lo) && ((v27.Hi == v29.Hi) && true))))) rfl rfl ?_
        refine ok_nil ?_
        refine rk_condH rfl h18 (fun _ h18 => ?_) (fun _ h18 => ?_)
        · refine rk_seq ?_
          refine rk_region ?_
          refine ok_as rfl rfl ?_
          refine ok_nil ?_
          refine rk_ret ?_
          refine ⟨_, (Option.some.inj h18).symm, fun hm => ?_⟩
          subst hm
          obtain rfl := someE h0
          exact finD (.inr rfl) (v := .d (.bool false)) rfl rfl (.refl _)
        · refine rk_skip ?_
          refine rk_nil ?_
          refine blk_nor ?_
          refine rk_region ?_
          refine ok_mv rfl rfl ?_
          refine ok_v (.d (.int .i64 (w64 (a19 + 1)))) rfl rfl ?_
          refine ok_as rfl rfl ?_
          refine ok_nil ?_
          refine rk_nil ?_
          exact ⟨_, (Option.some.inj h18).symm, wkE [] [] [] rfl ⟨⟨_, rfl, .d (.refl _)⟩, ⟨_, rfl, .d (.refl _)⟩, ⟨_, rfl, .d (.refl _)⟩, trivial⟩ trivial⟩
      · refine rk_exit ?_
        refine ⟨_, (Option.some.inj h18).symm, fun hm => ?_⟩
        subst hm
        exact ⟨_, rfl, wkE [] [] [] rfl trivial trivial⟩
    · intro b22 hb
      subst hb
      refine rk_seq ?_
      refine rk_region ?_
      refine ok_as rfl rfl ?_
      refine ok_nil ?_
      refine rk_ret ?_
      obtain rfl := someE h0
      exact finD (.inr rfl) (v := .d (.bool true)) rfl rfl (.refl _)

theorem l11_alive_ok (r : Bool) (h0 : l11_alive = some r) : Pure Try.prog tab 31 [] (.bool r) := by
  unfold l11_alive at h0
  refine pure_of_run Try.func31 rfl (by kernel_rfl) (by kernel_rfl) rfl ?_
  refine rk_seq ?_
  refine rk_region ?_
  refine ok_as rfl rfl ?_
  refine ok_nil ?_
  refine rk_seq ?_
  refine rk_region ?_
  refine ok_v (.d (.agg [.int .i64 0, .int .i64 3])) rfl rfl ?_
  refine ok_v (.d (.agg [.int .i64 5, .int .i64 6])) rfl rfl ?_
  refine ok_v (.d (.agg [.int .i64 2, .int .i64 5])) rfl rfl ?_
  refine ok_fzn (es := 2) ([({ Lo := 0, Hi := 3 } : api_Span), ({ Lo := 5, Hi := 6 } : api_Span), ({ Lo := 2, Hi := 5 } : api_Span)].map enc_api_Span) rfl rfl rfl rfl rfl ?_
  obtain ⟨r1, h2, h0⟩ := bindE h0
  refine ok_pc [.d (.sl 2 ([({ Lo := 0, Hi := 3 } : api_Span), ({ Lo := 5, Hi := 6 } : api_Span), ({ Lo := 2, Hi := 5 } : api_Span)].map enc_api_Span))] (span_Make_ok [({ Lo := 0, Hi := 3 } : api_Span), ({ Lo := 5, Hi := 6 } : api_Span), ({ Lo := 2, Hi := 5 } : api_Span)] r1 h2) rfl rfl rfl (.inl rfl) ?_
  refine ok_mv rfl rfl ?_
  refine ok_v (.d (.sl 2 (r1.1.map enc_api_Span))) rfl rfl ?_
  refine ok_v (.d (.int .i64 r1.2)) rfl rfl ?_
  refine ok_as rfl rfl ?_
  refine ok_as rfl rfl ?_
  refine ok_nil ?_
  refine rk_seq ?_
  refine rk_region ?_
  obtain ⟨r3, h4, h0⟩ := bindE h0
  refine ok_pc [] (l11_pair_ok r3 h4) rfl rfl rfl (.inl rfl) ?_
  obtain ⟨r5, h6, h0⟩ := bindE h0
  refine ok_pc [.d (.sl 2 (r3.map enc_api_Span))] (span_Length_ok r3 r5 h6) rfl rfl rfl (.inl rfl) ?_
  refine ok_mv rfl rfl ?_
  refine ok_v (.d (.int .i64 r5.1)) rfl rfl ?_
  refine ok_v (.d (.int .i64 r5.2)) rfl rfl ?_
  refine ok_as rfl rfl ?_
  refine ok_as rfl rfl ?_
  refine ok_nil ?_
  refine rk_seq ?_
  refine rk_region ?_
  obtain ⟨r7, h8, h0⟩ := bindE h0
  refine ok_pc [] (l11_pair_ok r7 h8) rfl rfl rfl (.inl rfl) ?_
  obtain ⟨r9, h10, h0⟩ := bindE h0
  refine ok_pc [.d (.sl 2 (r7.map enc_api_Span))] (span_Gaps_ok r7 r9 h10) rfl rfl rfl (.inl rfl) ?_
  refine ok_mv rfl rfl ?_
  refine ok_v (.d (.sl 2 (r9.1.map enc_api_Span))) rfl rfl ?_
  refine ok_v (.d (.int .i64 r9.2)) rfl rfl ?_
  refine ok_as rfl rfl ?_
  refine ok_as rfl rfl ?_
  refine ok_nil ?_
  refine rk_seq ?_
  refine rk_region ?_
  obtain ⟨r11, h12, h0⟩ := bindE h0
  refine ok_pc [] (l11_pair_ok r11 h12) rfl rfl rfl (.inl rfl) ?_
  refine ok_v (.d (.agg [.int .i64 1, .int .i64 5])) rfl rfl ?_
  refine ok_fzn (es := 2) ([({ Lo := 1, Hi := 5 } : api_Span)].map enc_api_Span) rfl rfl rfl rfl rfl ?_
  obtain ⟨r13, h14, h0⟩ := bindE h0
  refine ok_pc [.d (.sl 2 (r11.map enc_api_Span)), .d (.sl 2 ([({ Lo := 1, Hi := 5 } : api_Span)].map enc_api_Span))] (span_Minus_ok r11 [({ Lo := 1, Hi := 5 } : api_Span)] r13 h14) rfl rfl rfl (.inl rfl) ?_
  refine ok_mv rfl rfl ?_
  refine ok_v (.d (.sl 2 (r13.1.map enc_api_Span))) rfl rfl ?_
  refine ok_v (.d (.int .i64 r13.2)) rfl rfl ?_
  refine ok_as rfl rfl ?_
  refine ok_as rfl rfl ?_
  refine ok_nil ?_
  refine rk_seq ?_
  refine rk_region ?_
  obtain ⟨r15, h16, h0⟩ := bindE h0
  refine ok_pc [] (l11_pair_ok r15 h16) rfl rfl rfl (.inl rfl) ?_
  obtain ⟨r17, h18, h0⟩ := bindE h0
  refine ok_pc [.d (.sl 2 (r15.map enc_api_Span)), .d (.int .i64 3)] (span_Near_ok r15 3 r17 h18) rfl rfl rfl (.inl rfl) ?_
  refine ok_mv rfl rfl ?_
  refine ok_v (.d (.int .i64 r17.1)) rfl rfl ?_
  refine ok_v (.d (.int .i64 r17.2)) rfl rfl ?_
  refine ok_as rfl rfl ?_
  refine ok_as rfl rfl ?_
  refine ok_nil ?_
  refine rk_seq ?_
  refine rk_region ?_
  refine ok_mv rfl rfl ?_
  refine ok_v (.d (.bool (r1.2 == 0))) rfl rfl ?_
  obtain ⟨c19, h20, h0⟩ := bindE h0
  refine ok_cutQ 4 (fun A st => ∃ (j21 j22 j23 : V), st = A [(47, .d (.bool c19)), (46, j23), (45, j22), (44, j21)]) ?_ ?_
  · refine ok_mvB rfl rfl h20 (fun h20 => ?_) (fun h20 => ?_)
    · refine ok_mv rfl rfl ?_
      refine ok_v (.d (.bool (r5.2 == 0))) rfl rfl ?_
      refine ok_v (.d (.bool (r5.2 == 0))) rfl rfl ?_
      refine ok_nil ?_
      obtain rfl := someE h20
      exact ⟨_, _, _, rfl⟩
    · refine ok_sg rfl ?_
      refine ok_sg rfl ?_
      refine ok_v (.d (.bool false)) rfl rfl ?_
      refine ok_nil ?_
      obtain rfl := someE h20
      exact ⟨_, _, _, rfl⟩
  · rintro _ ⟨j21, j22, j23, rfl⟩
    obtain ⟨c24, h25, h0⟩ := bindE h0
    refine ok_cutQ 4 (fun A st => ∃ (j26 j27 j28 : V), st = A [(51, .d (.bool c24)), (50, j28), (49, j27), (48, j26)]) ?_ ?_
    · refine ok_mvB rfl rfl h25 (fun h25 => ?_) (fun h25 => ?_)
      · refine ok_mv rfl rfl ?_
        refine ok_v (.d (.bool (r9.2 == 0))) rfl rfl ?_
        refine ok_v (.d (.bool (r9.2 == 0))) rfl rfl ?_
        refine ok_nil ?_
        obtain rfl := someE h25
        exact ⟨_, _, _, rfl⟩
      · refine ok_sg rfl ?_
        refine ok_sg rfl ?_
        refine ok_v (.d (.bool false)) rfl rfl ?_
        refine ok_nil ?_
        obtain rfl := someE h25
        exact ⟨_, _, _, rfl⟩
    · rintro _ ⟨j26, j27, j28, rfl⟩
      obtain ⟨c29, h30, h0⟩ := bindE h0
      refine ok_cutQ 4 (fun A st => ∃ (j31 j32 j33 : V), st = A [(55, .d (.bool c29)), (54, j33), (53, j32), (52, j31)]) ?_ ?_
      · refine ok_mvB rfl rfl h30 (fun h30 => ?_) (fun h30 => ?_)
        · refine ok_mv rfl rfl ?_
          refine ok_v (.d (.bool (r13.2 == 0))) rfl rfl ?_
          refine ok_v (.d (.bool (r13.2 == 0))) rfl rfl ?_
          refine ok_nil ?_
          obtain rfl := someE h30
          exact ⟨_, _, _, rfl⟩
        · refine ok_sg rfl ?_
          refine ok_sg rfl ?_
          refine ok_v (.d (.bool false)) rfl rfl ?_
          refine ok_nil ?_
          obtain rfl := someE h30
          exact ⟨_, _, _, rfl⟩
      · rintro _ ⟨j31, j32, j33, rfl⟩
        obtain ⟨c34, h35, h0⟩ := bindE h0
        refine ok_cutQ 4 (fun A st => ∃ (j36 j37 j38 : V), st = A [(59, .d (.bool c34)), (58, j38), (57, j37), (56, j36)]) ?_ ?_
        · refine ok_mvB rfl rfl h35 (fun h35 => ?_) (fun h35 => ?_)
          · refine ok_mv rfl rfl ?_
            refine ok_v (.d (.bool (r17.2 == 0))) rfl rfl ?_
            refine ok_v (.d (.bool (r17.2 == 0))) rfl rfl ?_
            refine ok_nil ?_
            obtain rfl := someE h35
            exact ⟨_, _, _, rfl⟩
          · refine ok_sg rfl ?_
            refine ok_sg rfl ?_
            refine ok_v (.d (.bool false)) rfl rfl ?_
            refine ok_nil ?_
            obtain rfl := someE h35
            exact ⟨_, _, _, rfl⟩
        · rintro _ ⟨j36, j37, j38, rfl⟩
          obtain ⟨c39, h40, h0⟩ := bindE h0
          refine ok_cutQ 4 (fun A st => ∃ (j41 j42 j43 : V), st = A [(63, .d (.bool c39)), (62, j43), (61, j42), (60, j41)]) ?_ ?_
          · refine ok_mvB rfl rfl h40 (fun h40 => ?_) (fun h40 => ?_)
            · refine ok_mv rfl rfl ?_
              refine ok_v (.d (.bool (r5.1 == 5))) rfl rfl ?_
              refine ok_v (.d (.bool (r5.1 == 5))) rfl rfl ?_
              refine ok_nil ?_
              obtain rfl := someE h40
              exact ⟨_, _, _, rfl⟩
            · refine ok_sg rfl ?_
              refine ok_sg rfl ?_
              refine ok_v (.d (.bool false)) rfl rfl ?_
              refine ok_nil ?_
              obtain rfl := someE h40
              exact ⟨_, _, _, rfl⟩
          · rintro _ ⟨j41, j42, j43, rfl⟩
            obtain ⟨c44, h45, h0⟩ := bindE h0
            refine ok_cutQ 4 (fun A st => ∃ (j46 j47 j48 : V), st = A [(67, .d (.bool c44)), (66, j48), (65, j47), (64, j46)]) ?_ ?_
            · refine ok_mvB rfl rfl h45 (fun h45 => ?_) (fun h45 => ?_)
              · refine ok_mv rfl rfl ?_
                refine ok_v (.d (.bool (r17.1 == 1))) rfl rfl ?_
                refine ok_v (.d (.bool (r17.1 == 1))) rfl rfl ?_
                refine ok_nil ?_
                obtain rfl := someE h45
                exact ⟨_, _, _, rfl⟩
              · refine ok_sg rfl ?_
                refine ok_sg rfl ?_
                refine ok_v (.d (.bool false)) rfl rfl ?_
                refine ok_nil ?_
                obtain rfl := someE h45
                exact ⟨_, _, _, rfl⟩
            · rintro _ ⟨j46, j47, j48, rfl⟩
              obtain ⟨c53, h54, h0⟩ := bindE h0
              refine ok_cutQ 4 (fun A st => ∃ (j55 j56 j57 : V), st = A [(71, .d (.bool c53)), (70, j57), (69, j56), (68, j55)]) ?_ ?_
              · refine ok_mvB rfl rfl h54 (fun h54 => ?_) (fun h54 => ?_)
                · obtain ⟨r58, h59, h54⟩ := bindE h54
                  refine ok_pc [] (l11_pair_ok r58 h59) rfl rfl rfl (.inl rfl) ?_
                  obtain ⟨r60, h61, h54⟩ := bindE h54
                  refine ok_pc [.d (.sl 2 (r58.map enc_api_Span)), .d (.int .i64 6)] (span_Has_ok r58 6 r60 h61) rfl rfl rfl (.inl rfl) ?_
                  refine ok_v (.d (.bool r60)) rfl rfl ?_
                  refine ok_nil ?_
                  obtain rfl := someE h54
                  exact ⟨_, _, _, rfl⟩
                · refine ok_sg rfl ?_
                  refine ok_sg rfl ?_
                  refine ok_v (.d (.bool false)) rfl rfl ?_
                  refine ok_nil ?_
                  obtain rfl := someE h54
                  exact ⟨_, _, _, rfl⟩
              · rintro _ ⟨j55, j56, j57, rfl⟩
                obtain ⟨c66, h67, h0⟩ := bindE h0
                refine ok_cutQ 5 (fun A st => ∃ (j68 j69 j70 j71 : V), st = A [(76, .d (.bool c66)), (75, j71), (74, j70), (73, j69), (72, j68)]) ?_ ?_
                · refine ok_mvB rfl rfl h67 (fun h67 => ?_) (fun h67 => ?_)
                  · obtain ⟨r72, h73, h67⟩ := bindE h67
                    refine ok_pc [] (l11_pair_ok r72 h73) rfl rfl rfl (.inl rfl) ?_
                    obtain ⟨r74, h75, h67⟩ := bindE h67
                    refine ok_pc [.d (.sl 2 (r72.map enc_api_Span)), .d (.int .i64 7)] (span_Has_ok r72 7 r74 h75) rfl rfl rfl (.inl rfl) ?_
                    refine ok_v (.d (.bool (!r74))) rfl rfl ?_
                    refine ok_v (.d (.bool (!r74))) rfl rfl ?_
                    refine ok_nil ?_
                    obtain rfl := someE h67
                    exact ⟨_, _, _, _, rfl⟩
                  · refine ok_sg rfl ?_
                    refine ok_sg rfl ?_
                    refine ok_sg rfl ?_
                    refine ok_v (.d (.bool false)) rfl rfl ?_
                    refine ok_nil ?_
                    obtain rfl := someE h67
                    exact ⟨_, _, _, _, rfl⟩
                · rintro _ ⟨j68, j69, j70, j71, rfl⟩
                  refine ok_as rfl rfl ?_
                  refine ok_nil ?_
                  refine rk_seq ?_
                  refine rk_region ?_
                  refine ok_mv rfl rfl ?_
                  refine ok_mvB rfl rfl h0 (fun h0 => ?_) (fun h0 => ?_)
                  · refine ok_mv rfl rfl ?_
                    refine ok_v (.d (.agg [.int .i64 0, .int .i64 6])) rfl rfl ?_
                    refine ok_new (.hs 2 2 0 [({ Lo := 0, Hi := 6 } : api_Span)].length) (.dat 2 ([({ Lo := 0, Hi := 6 } : api_Span)].map enc_api_Span)) rfl rfl ?_
                    obtain ⟨r78, h79, h0⟩ := bindE h0
                    refine ok_pc [.d (.sl 2 (r1.1.map enc_api_Span)), .hs 2 2 0 [({ Lo := 0, Hi := 6 } : api_Span)].length] (r11_Same_ok r1.1 [({ Lo := 0, Hi := 6 } : api_Span)] r78 h79) rfl rfl (af_cons rfl (af_cons (td_hs rfl rfl) rfl)) (.inr rfl) ?_
                    refine ok_v (.d (.bool r78)) rfl rfl ?_
                    refine ok_mvB rfl rfl h0 (fun h0 => ?_) (fun h0 => ?_)
                    · refine ok_mv rfl rfl ?_
                      refine ok_v (.d (.agg [.int .i64 2, .int .i64 4])) rfl rfl ?_
                      refine ok_new (.hs 3 2 0 [({ Lo := 2, Hi := 4 } : api_Span)].length) (.dat 2 ([({ Lo := 2, Hi := 4 } : api_Span)].map enc_api_Span)) rfl rfl ?_
                      obtain ⟨r82, h83, h0⟩ := bindE h0
                      refine ok_pc [.d (.sl 2 (r9.1.map enc_api_Span)), .hs 3 2 0 [({ Lo := 2, Hi := 4 } : api_Span)].length] (r11_Same_ok r9.1 [({ Lo := 2, Hi := 4 } : api_Span)] r82 h83) rfl rfl (af_cons rfl (af_cons (td_hs rfl rfl) rfl)) (.inr rfl) ?_
                      refine ok_v (.d (.bool r82)) rfl rfl ?_
                      refine ok_mvB rfl rfl h0 (fun h0 => ?_) (fun h0 => ?_)
                      · refine ok_mv rfl rfl ?_
                        refine ok_v (.d (.agg [.int .i64 0, .int .i64 1])) rfl rfl ?_
                        refine ok_v (.d (.agg [.int .i64 5, .int .i64 7])) rfl rfl ?_
                        refine ok_new (.hs 4 2 0 [({ Lo := 0, Hi := 1 } : api_Span), ({ Lo := 5, Hi := 7 } : api_Span)].length) (.dat 2 ([({ Lo := 0, Hi := 1 } : api_Span), ({ Lo := 5, Hi := 7 } : api_Span)].map enc_api_Span)) rfl rfl ?_
                        obtain ⟨r86, h87, h0⟩ := bindE h0
                        refine ok_pc [.d (.sl 2 (r13.1.map enc_api_Span)), .hs 4 2 0 [({ Lo := 0, Hi := 1 } : api_Span), ({ Lo := 5, Hi := 7 } : api_Span)].length] (r11_Same_ok r13.1 [({ Lo := 0, Hi := 1 } : api_Span), ({ Lo := 5, Hi := 7 } : api_Span)] r86 h87) rfl rfl (af_cons rfl (af_cons (td_hs rfl rfl) rfl)) (.inr rfl) ?_
                        refine ok_v (.d (.bool r86)) rfl rfl ?_
                        refine ok_as rfl rfl ?_
                        refine ok_nil ?_
                        refine rk_ret ?_
                        obtain rfl := someE h0
                        exact finD (.inr rfl) (v := .d (.bool r86)) rfl rfl (.refl _)
                      · refine ok_sg rfl ?_
                        refine ok_sg rfl ?_
                        refine ok_sg rfl ?_
                        refine ok_sg rfl ?_
                        refine ok_sg rfl ?_
                        refine ok_v (.d (.bool false)) rfl rfl ?_
                        refine ok_as rfl rfl ?_
                        refine ok_nil ?_
                        refine rk_ret ?_
                        obtain rfl := someE h0
                        exact finD (.inr rfl) (v := .d (.bool false)) rfl rfl (.refl _)
                    · refine ok_sg rfl ?_
                      refine ok_sg rfl ?_
                      refine ok_sg rfl ?_
                      refine ok_sg rfl ?_
                      refine ok_v (.d (.bool false)) rfl rfl ?_
                      refine ok_mv rfl rfl ?_
                      refine ok_sg rfl ?_
                      refine ok_sg rfl ?_
                      refine ok_sg rfl ?_
                      refine ok_sg rfl ?_
                      refine ok_sg rfl ?_
                      refine ok_v (.d (.bool false)) rfl rfl ?_
                      refine ok_as rfl rfl ?_
                      refine ok_nil ?_
                      refine rk_ret ?_
                      obtain rfl := someE h0
                      exact finD (.inr rfl) (v := .d (.bool false)) rfl rfl (.refl _)
                  · refine ok_sg rfl ?_
                    refine ok_sg rfl ?_
                    refine ok_sg rfl ?_
                    refine ok_sg rfl ?_
                    refine ok_v (.d (.bool false)) rfl rfl ?_
                    refine ok_mv rfl rfl ?_
                    refine ok_sg rfl ?_
                    refine ok_sg rfl ?_
                    refine ok_sg rfl ?_
                    refine ok_sg rfl ?_
                    refine ok_v (.d (.bool false)) rfl rfl ?_
                    refine ok_mv rfl rfl ?_
                    refine ok_sg rfl ?_
                    refine ok_sg rfl ?_
                    refine ok_sg rfl ?_
                    refine ok_sg rfl ?_
                    refine ok_sg rfl ?_
                    refine ok_v (.d (.bool false)) rfl rfl ?_
                    refine ok_as rfl rfl ?_
                    refine ok_nil ?_
                    refine rk_ret ?_
                    obtain rfl := someE h0
                    exact finD (.inr rfl) (v := .d (.bool false)) rfl rfl (.refl _)

theorem r11_Valid_ok (p0 : api_Span) (r : Bool) (h0 : r11_Valid p0 = some r) : Pure Try.prog tab 36 [.agg [.int .i64 p0.Lo, .int .i64 p0.Hi]] (.bool r) := by
  unfold r11_Valid at h0
  refine pure_of_run Try.func36 rfl (by kernel_rfl) (by kernel_rfl) rfl ?_
  refine rk_seq ?_
  refine rk_region ?_
  refine ok_new (.ref 0 2 0 0) (.dat 2 [[.int .i64 p0.Lo, .int .i64 p0.Hi]]) rfl rfl ?_
  refine ok_as rfl rfl ?_
  refine ok_nil ?_
  refine rk_seq ?_
  refine rk_region ?_
  refine ok_v (.ref 0 2 0 0) rfl rfl ?_
  refine ok_v (.d (.int .i64 p0.Lo)) rfl rfl ?_
  refine ok_v (.ref 0 2 0 1) rfl rfl ?_
  refine ok_v (.d (.int .i64 p0.Hi)) rfl rfl ?_
  refine ok_v (.d (.bool (decide (p0.Lo < p0.Hi)))) rfl rfl ?_
  obtain ⟨c1, h2, h0⟩ := bindE h0
  refine ok_cutQ 5 (fun A st => ∃ (j3 j4 j5 j6 : V), st = A [(12, .d (.bool c1)), (11, j6), (10, j5), (9, j4), (8, j3)]) ?_ ?_
  · refine ok_mvB rfl rfl h2 (fun h2 => ?_) (fun h2 => ?_)
    · refine ok_v (.ref 0 2 0 0) rfl rfl ?_
      refine ok_v (.d (.int .i64 p0.Lo)) rfl rfl ?_
      refine ok_v (.d (.bool (decide (p0.Lo ≥ (-1000000))))) rfl rfl ?_
      refine ok_v (.d (.bool (decide (p0.Lo ≥ (-1000000))))) rfl rfl ?_
      refine ok_nil ?_
      obtain rfl := someE h2
      exact ⟨_, _, _, _, rfl⟩
    · refine ok_sg rfl ?_
      refine ok_sg rfl ?_
      refine ok_sg rfl ?_
      refine ok_v (.d (.bool false)) rfl rfl ?_
      refine ok_nil ?_
      obtain rfl := someE h2
      exact ⟨_, _, _, _, rfl⟩
  · rintro _ ⟨j3, j4, j5, j6, rfl⟩
    obtain ⟨c7, h8, h0⟩ := bindE h0
    refine ok_cutQ 5 (fun A st => ∃ (j9 j10 j11 j12 : V), st = A [(17, .d (.bool c7)), (16, j12), (15, j11), (14, j10), (13, j9)]) ?_ ?_
    · refine ok_mvB rfl rfl h8 (fun h8 => ?_) (fun h8 => ?_)
      · refine ok_v (.ref 0 2 0 1) rfl rfl ?_
        refine ok_v (.d (.int .i64 p0.Hi)) rfl rfl ?_
        refine ok_v (.d (.bool (decide (p0.Hi ≤ 1000000)))) rfl rfl ?_
        refine ok_v (.d (.bool (decide (p0.Hi ≤ 1000000)))) rfl rfl ?_
        refine ok_nil ?_
        obtain rfl := someE h8
        exact ⟨_, _, _, _, rfl⟩
      · refine ok_sg rfl ?_
        refine ok_sg rfl ?_
        refine ok_sg rfl ?_
        refine ok_v (.d (.bool false)) rfl rfl ?_
        refine ok_nil ?_
        obtain rfl := someE h8
        exact ⟨_, _, _, _, rfl⟩
    · rintro _ ⟨j9, j10, j11, j12, rfl⟩
      refine ok_as rfl rfl ?_
      refine ok_nil ?_
      refine rk_ret ?_
      obtain rfl := someE h0
      exact finD (.inr rfl) (v := .d (.bool c7)) rfl rfl (.refl _)

theorem r11_Check_ok (p0 : List api_Span) (r : Int) (h0 : r11_Check p0 = some r) : Pure Try.prog tab 28 [.sl 2 (p0.map enc_api_Span)] (.int .i64 r) := by
  unfold r11_Check at h0
  refine pure_of_run Try.func28 rfl (by kernel_rfl) (by kernel_rfl) rfl ?_
  refine rk_seq ?_
  refine rk_region ?_
  refine ok_as rfl rfl ?_
  refine ok_nil ?_
  refine rk_seq ?_
  refine rk_seq ?_
  refine rk_region ?_
  refine ok_mv rfl rfl ?_
  refine ok_ln rfl rfl rfl rfl ?_
  refine ok_v (.d (.bool (decide ((p0.length : Int) > 400)))) rfl rfl ?_
  refine ok_nil ?_
  refine rk_condH rfl h0 (fun _ h0 => ?_) (fun _ h0 => ?_)
  · refine rk_seq ?_
    refine rk_region ?_
    refine ok_as rfl rfl ?_
    refine ok_nil ?_
    refine rk_ret ?_
    obtain rfl := someE h0
    exact finD (.inr rfl) (v := .d (.int .i64 4)) rfl rfl (.refl _)
  · refine rk_skip ?_
    refine rk_seq ?_
    refine rk_seq ?_
    refine rk_region ?_
    refine ok_as rfl rfl ?_
    refine ok_nil ?_
    obtain ⟨m280, h281, h0⟩ := bindE h0
    refine rk_blockcut (fun b282 => .inl b282 = m280) (fun (b282 : Unit) => ⟨[], [], 0⟩) (by simp) ?_ ?_
    · refine rk_loopF (r11_Check_L1 p0) (fun (a279 : Int) => ⟨[(0, .d (.sl 2 (p0.map enc_api_Span))), (3, .d (.int .i64 a279))], [], 0⟩) 0 m280 h281 (wkE [] [] [] rfl ⟨⟨_, rfl, .d (.refl _)⟩, ⟨_, rfl, .d (.refl _)⟩, trivial⟩ trivial) ?_
      intro a279 y277 h278
      unfold r11_Check_L1 at h278
      refine rk_seq ?_
      refine rk_seq ?_
      refine rk_region ?_
      refine ok_mv rfl rfl ?_
      refine ok_mv rfl rfl ?_
      refine ok_ln rfl rfl rfl rfl ?_
      refine ok_v (.d (.bool (decide (a279 < (p0.length : Int))))) rfl rfl ?_
      refine ok_nil ?_
      refine rk_condH rfl h278 (fun _ h278 => ?_) (fun _ h278 => ?_)
      · refine rk_skip ?_
        refine rk_seq ?_
        refine rk_block ?_
        refine rk_seq ?_
        refine rk_regionD (by kernel_rfl) ?_
        refine ok_mv rfl rfl ?_
        refine ok_mv rfl rfl ?_
        obtain ⟨v352, h353, h278⟩ := bindE h278
        refine ok_ix (enc := enc_api_Span) h353 rfl rfl rfl rfl rfl rfl ?_
        refine ok_v (.d (.agg [.int .i64 v352.Lo, .int .i64 v352.Hi])) rfl rfl ?_
        obtain ⟨r354, h355, h278⟩ := bindE h278
        refine ok_pc [.d (.agg [.int .i64 v352.Lo, .int .i64 v352.Hi])] (r11_Valid_ok v352 r354 h355) rfl rfl rfl (.inl rfl) ?_
        refine ok_v (.d (.bool (!r354))) rfl rfl ?_
        obtain ⟨c379, h380, h278⟩ := bindE h278
        refine ok_cutQ 18 (fun A st => ∃ (j381 j382 j383 j384 j385 j386 j387 j388 j389 j390 j391 j392 j393 j394 j395 j396 j397 : V), st = A [(36, .d (.bool c379)), (35, j397), (34, j396), (33, j395), (32, j394), (31, j393), (30, j392), (29, j391), (28, j390), (27, j389), (26, j388), (25, j387), (24, j386), (23, j385), (22, j384), (21, j383), (20, j382), (19, j381)]) ?_ ?_
        · refine ok_mvB rfl rfl h380 (fun h380 => ?_) (fun h380 => ?_)
          · refine ok_sg rfl ?_
            refine ok_sg rfl ?_
            refine ok_sg rfl ?_
            refine ok_sg rfl ?_
            refine ok_sg rfl ?_
            refine ok_sg rfl ?_
            refine ok_sg rfl ?_
            refine ok_sg rfl ?_
            refine ok_sg rfl ?_
            refine ok_sg rfl ?_
            refine ok_sg rfl ?_
            refine ok_sg rfl ?_
            refine ok_sg rfl ?_
            refine ok_sg rfl ?_
            refine ok_sg rfl ?_
            refine ok_sg rfl ?_
            refine ok_v (.d (.bool true)) rfl rfl ?_
            refine ok_nil ?_
            obtain rfl := someE h380
            exact ⟨_, _, _, _, _, _, _, _, _, _, _, _, _, _, _, _, _, rfl⟩
          · refine ok_mv rfl rfl ?_
            refine ok_v (.d (.bool (decide (a279 > 0)))) rfl rfl ?_
            obtain ⟨c402, h403, h380⟩ := bindE h380
            refine ok_cutQ 14 (fun A st => ∃ (j404 j405 j406 j407 j408 j409 j410 j411 j412 j413 j414 j415 j416 : V), st = A [(35, .d (.bool c402)), (34, j416), (33, j415), (32, j414), (31, j413), (30, j412), (29, j411), (28, j410), (27, j409), (26, j408), (25, j407), (24, j406), (23, j405), (22, j404)]) ?_ ?_
            · refine ok_mvB rfl rfl h403 (fun h403 => ?_) (fun h403 => ?_)
              · refine ok_mv rfl rfl ?_
                refine ok_mv rfl rfl ?_
                refine ok_v (.d (.int .i64 (w64 (a279 - 1)))) rfl rfl ?_
                obtain ⟨v417, h418, h403⟩ := bindE h403
                refine ok_ix (enc := enc_api_Span) h418 rfl rfl rfl rfl rfl rfl ?_
                refine ok_v (.dref [.int .i64 v417.Lo, .int .i64 v417.Hi] 1) rfl rfl ?_
                refine ok_v (.d (.int .i64 v417.Hi)) rfl rfl ?_
                refine ok_mv rfl rfl ?_
                refine ok_mv rfl rfl ?_
                obtain ⟨v419, h420, h403⟩ := bindE h403
                refine ok_ix (enc := enc_api_Span) h420 rfl rfl rfl rfl rfl rfl ?_
                refine ok_v (.dref [.int .i64 v419.Lo, .int .i64 v419.Hi] 0) rfl rfl ?_
                refine ok_v (.d (.int .i64 v419.Lo)) rfl rfl ?_
                refine ok_v (.d (.bool (decide (v417.Hi ≥ v419.Lo)))) rfl rfl ?_
                refine ok_v (.d (.bool (decide (v417.Hi ≥ v419.Lo)))) rfl rfl ?_
                refine ok_nil ?_
                obtain rfl := someE h403
                exact ⟨_, _, _, _, _, _, _, _, _, _, _, _, _, rfl⟩
              · refine ok_sg rfl ?_
                refine ok_sg rfl ?_
                refine ok_sg rfl ?_
                refine ok_sg rfl ?_
                refine ok_sg rfl ?_
                refine ok_sg rfl ?_
                refine ok_sg rfl ?_
                refine ok_sg rfl ?_
                refine ok_sg rfl ?_
                refine ok_sg rfl ?_
                refine ok_sg rfl ?_
                refine ok_sg rfl ?_
                refine ok_v (.d (.bool false)) rfl rfl ?_
                refine ok_nil ?_
                obtain rfl := someE h403
                exact ⟨_, _, _, _, _, _, _, _, _, _, _, _, _, rfl⟩
            · rintro _ ⟨j404, j405, j406, j407, j408, j409, j410, j411, j412, j413, j414, j415, j416, rfl⟩
              refine ok_v (.d (.bool c402)) rfl rfl ?_
              refine ok_nil ?_
              obtain rfl := someE h380
              exact ⟨_, _, _, _, _, _, _, _, _, _, _, _, _, _, _, _, _, rfl⟩
        · rintro _ ⟨j381, j382, j383, j384, j385, j386, j387, j388, j389, j390, j391, j392, j393, j394, j395, j396, j397, rfl⟩
          refine ok_nil ?_
          refine rk_condH rfl h278 (fun _ h278 => ?_) (fun _ h278 => ?_)
          · refine rk_seq ?_
            refine rk_region ?_
            refine ok_as rfl rfl ?_
            refine ok_nil ?_
            refine rk_ret ?_
            refine ⟨_, (Option.some.inj h278).symm, fun hm => ?_⟩
            subst hm
            obtain rfl := someE h0
            exact finD (.inr rfl) (v := .d (.int .i64 8)) rfl rfl (.refl _)
          · refine rk_skip ?_
            refine rk_nil ?_
            refine blk_nor ?_
            refine rk_region ?_
            refine ok_mv rfl rfl ?_
            refine ok_v (.d (.int .i64 (w64 (a279 + 1)))) rfl rfl ?_
            refine ok_as rfl rfl ?_
            refine ok_nil ?_
            refine rk_nil ?_
            exact ⟨_, (Option.some.inj h278).symm, wkE [] [] [] rfl ⟨⟨_, rfl, .d (.refl _)⟩, ⟨_, rfl, .d (.refl _)⟩, trivial⟩ trivial⟩
      · refine rk_exit ?_
        refine ⟨_, (Option.some.inj h278).symm, fun hm => ?_⟩
        subst hm
        exact ⟨_, rfl, wkE [] [] [] rfl trivial trivial⟩
    · intro b282 hb
      subst hb
      refine rk_seq ?_
      refine rk_region ?_
      refine ok_as rfl rfl ?_
      refine ok_nil ?_
      refine rk_ret ?_
      obtain rfl := someE h0
      exact finD (.inr rfl) (v := .d (.int .i64 0)) rfl rfl (.refl _)

theorem l11_fit_ok (p0 : List api_Span) (p1 : List api_Span) (r : Bool) (h0 : l11_fit p0 p1 = some r) : Pure Try.prog tab 32 [.sl 2 (p0.map enc_api_Span), .sl 2 (p1.map enc_api_Span)] (.bool r) := by
  unfold l11_fit at h0
  refine pure_of_run Try.func32 rfl (by kernel_rfl) (by kernel_rfl) rfl ?_
  refine rk_seq ?_
  refine rk_region ?_
  refine ok_as rfl rfl ?_
  refine ok_nil ?_
  refine rk_seq ?_
  refine rk_region ?_
  refine ok_mv rfl rfl ?_
  obtain ⟨r1, h2, h0⟩ := bindE h0
  refine ok_pc [.d (.sl 2 (p0.map enc_api_Span))] (r11_Check_ok p0 r1 h2) rfl rfl rfl (.inl rfl) ?_
  refine ok_v (.d (.bool (r1 == 0))) rfl rfl ?_
  obtain ⟨c5, h6, h0⟩ := bindE h0
  refine ok_cutQ 5 (fun A st => ∃ (j7 j8 j9 j10 : V), st = A [(12, .d (.bool c5)), (11, j10), (10, j9), (9, j8), (8, j7)]) ?_ ?_
  · refine ok_mvB rfl rfl h6 (fun h6 => ?_) (fun h6 => ?_)
    · refine ok_mv rfl rfl ?_
      obtain ⟨r11, h12, h6⟩ := bindE h6
      refine ok_pc [.d (.sl 2 (p1.map enc_api_Span))] (r11_Check_ok p1 r11 h12) rfl rfl rfl (.inl rfl) ?_
      refine ok_v (.d (.bool (r11 == 0))) rfl rfl ?_
      refine ok_v (.d (.bool (r11 == 0))) rfl rfl ?_
      refine ok_nil ?_
      obtain rfl := someE h6
      exact ⟨_, _, _, _, rfl⟩
    · refine ok_sg rfl ?_
      refine ok_sg rfl ?_
      refine ok_sg rfl ?_
      refine ok_v (.d (.bool false)) rfl rfl ?_
      refine ok_nil ?_
      obtain rfl := someE h6
      exact ⟨_, _, _, _, rfl⟩
  · rintro _ ⟨j7, j8, j9, j10, rfl⟩
    refine ok_as rfl rfl ?_
    refine ok_nil ?_
    refine rk_ret ?_
    obtain rfl := someE h0
    exact finD (.inr rfl) (v := .d (.bool c5)) rfl rfl (.refl _)

theorem span_Union_1_ok (p0 : Bool) (p1 : Bool) (r : Bool) (h0 : span_Union_1 p0 p1 = some r) : Pure Try.prog tab 38 [.bool p0, .bool p1] (.bool r) := by
  unfold span_Union_1 at h0
  refine pure_of_run Try.func38 rfl (by kernel_rfl) (by kernel_rfl) rfl ?_
  refine rk_seq ?_
  refine rk_region ?_
  refine ok_as rfl rfl ?_
  refine ok_nil ?_
  refine rk_seq ?_
  refine rk_region ?_
  refine ok_mv rfl rfl ?_
  obtain ⟨c1, h2, h0⟩ := bindE h0
  refine ok_cutQ 3 (fun A st => ∃ (j3 j4 : V), st = A [(8, .d (.bool c1)), (7, j4), (6, j3)]) ?_ ?_
  · refine ok_mvB rfl rfl h2 (fun h2 => ?_) (fun h2 => ?_)
    · refine ok_sg rfl ?_
      refine ok_v (.d (.bool true)) rfl rfl ?_
      refine ok_nil ?_
      obtain rfl := someE h2
      exact ⟨_, _, rfl⟩
    · refine ok_mv rfl rfl ?_
      refine ok_v (.d (.bool p1)) rfl rfl ?_
      refine ok_nil ?_
      obtain rfl := someE h2
      exact ⟨_, _, rfl⟩
  · rintro _ ⟨j3, j4, rfl⟩
    refine ok_as rfl rfl ?_
    refine ok_nil ?_
    refine rk_ret ?_
    obtain rfl := someE h0
    exact finD (.inr rfl) (v := .d (.bool c1)) rfl rfl (.refl _)

theorem span_Union_ok (p0 : List api_Span) (p1 : List api_Span) (r : List api_Span × Int) (h0 : span_Union p0 p1 = some r) : Pure Try.prog tab 18 [.sl 2 (p0.map enc_api_Span), .sl 2 (p1.map enc_api_Span)] (.tup [.sl 2 (r.1.map enc_api_Span), .int .i64 r.2]) := by
  unfold span_Union at h0
  refine pure_of_run Try.func18 rfl (by kernel_rfl) (by kernel_rfl) rfl ?_
  refine rk_seq ?_
  refine rk_region ?_
  refine ok_as rfl rfl ?_
  refine ok_as rfl rfl ?_
  refine ok_nil ?_
  refine rk_seq ?_
  refine rk_region ?_
  refine ok_mv rfl rfl ?_
  refine ok_mv rfl rfl ?_
  obtain ⟨r1, h2, h0⟩ := bindE h0
  refine ok_pc [.d (.sl 2 (p0.map enc_api_Span)), .d (.sl 2 (p1.map enc_api_Span)), .d (.fn 38 [])] (span_checked_ok p0 p1 (fun x0 x1 => span_Union_1 x0 x1) 38 [] (fun x0 x1 r hr => span_Union_1_ok x0 x1 r hr) r1 h2) rfl rfl rfl (.inl rfl) ?_
  refine ok_v (.d (.sl 2 (r1.1.map enc_api_Span))) rfl rfl ?_
  refine ok_v (.d (.int .i64 r1.2)) rfl rfl ?_
  refine ok_as rfl rfl ?_
  refine ok_as rfl rfl ?_
  refine ok_nil ?_
  refine rk_ret ?_
  obtain rfl := someE h0
  exact finD (.inr rfl) (v := .d (.tup [.sl 2 (r1.1.map enc_api_Span), .int .i64 r1.2])) rfl rfl (.refl _)

theorem span_Meet_1_ok (p0 : Bool) (p1 : Bool) (r : Bool) (h0 : span_Meet_1 p0 p1 = some r) : Pure Try.prog tab 39 [.bool p0, .bool p1] (.bool r) := by
  unfold span_Meet_1 at h0
  refine pure_of_run Try.func39 rfl (by kernel_rfl) (by kernel_rfl) rfl ?_
  refine rk_seq ?_
  refine rk_region ?_
  refine ok_as rfl rfl ?_
  refine ok_nil ?_
  refine rk_seq ?_
  refine rk_region ?_
  refine ok_mv rfl rfl ?_
  obtain ⟨c1, h2, h0⟩ := bindE h0
  refine ok_cutQ 3 (fun A st => ∃ (j3 j4 : V), st = A [(8, .d (.bool c1)), (7, j4), (6, j3)]) ?_ ?_
  · refine ok_mvB rfl rfl h2 (fun h2 => ?_) (fun h2 => ?_)
    · refine ok_mv rfl rfl ?_
      refine ok_v (.d (.bool p1)) rfl rfl ?_
      refine ok_nil ?_
      obtain rfl := someE h2
      exact ⟨_, _, rfl⟩
    · refine ok_sg rfl ?_
      refine ok_v (.d (.bool false)) rfl rfl ?_
      refine ok_nil ?_
      obtain rfl := someE h2
      exact ⟨_, _, rfl⟩
  · rintro _ ⟨j3, j4, rfl⟩
    refine ok_as rfl rfl ?_
    refine ok_nil ?_
    refine rk_ret ?_
    obtain rfl := someE h0
    exact finD (.inr rfl) (v := .d (.bool c1)) rfl rfl (.refl _)

theorem span_Meet_ok (p0 : List api_Span) (p1 : List api_Span) (r : List api_Span × Int) (h0 : span_Meet p0 p1 = some r) : Pure Try.prog tab 20 [.sl 2 (p0.map enc_api_Span), .sl 2 (p1.map enc_api_Span)] (.tup [.sl 2 (r.1.map enc_api_Span), .int .i64 r.2]) := by
  unfold span_Meet at h0
  refine pure_of_run Try.func20 rfl (by kernel_rfl) (by kernel_rfl) rfl ?_
  refine rk_seq ?_
  refine rk_region ?_
  refine ok_as rfl rfl ?_
  refine ok_as rfl rfl ?_
  refine ok_nil ?_
  refine rk_seq ?_
  refine rk_region ?_
  refine ok_mv rfl rfl ?_
  refine ok_mv rfl rfl ?_
  obtain ⟨r1, h2, h0⟩ := bindE h0
  refine ok_pc [.d (.sl 2 (p0.map enc_api_Span)), .d (.sl 2 (p1.map enc_api_Span)), .d (.fn 39 [])] (span_checked_ok p0 p1 (fun x0 x1 => span_Meet_1 x0 x1) 39 [] (fun x0 x1 r hr => span_Meet_1_ok x0 x1 r hr) r1 h2) rfl rfl rfl (.inl rfl) ?_
  refine ok_v (.d (.sl 2 (r1.1.map enc_api_Span))) rfl rfl ?_
  refine ok_v (.d (.int .i64 r1.2)) rfl rfl ?_
  refine ok_as rfl rfl ?_
  refine ok_as rfl rfl ?_
  refine ok_nil ?_
  refine rk_ret ?_
  obtain rfl := someE h0
  exact finD (.inr rfl) (v := .d (.tup [.sl 2 (r1.1.map enc_api_Span), .int .i64 r1.2])) rfl rfl (.refl _)

theorem l11_SpanPoints_ok (p0 : List api_Span) (p1 : List api_Span) (p2 : Int) (r : Bool) (h0 : l11_SpanPoints p0 p1 p2 = some r) : Pure Try.prog tab 7 [.sl 2 (p0.map enc_api_Span), .sl 2 (p1.map enc_api_Span), .int .i64 p2] (.bool r) := by
  unfold l11_SpanPoints at h0
  refine pure_of_run Try.func7 rfl (by kernel_rfl) (by kernel_rfl) rfl ?_
  refine rk_seq ?_
  refine rk_region ?_
  refine ok_as rfl rfl ?_
  refine ok_nil ?_
  refine rk_seq ?_
  refine rk_region ?_
  obtain ⟨r1, h2, h0⟩ := bindE h0
  refine ok_pc [] (l11_alive_ok r1 h2) rfl rfl rfl (.inl rfl) ?_
  refine ok_as rfl rfl ?_
  refine ok_nil ?_
  refine rk_seq ?_
  refine rk_seq ?_
  refine rk_region ?_
  refine ok_mv rfl rfl ?_
  refine ok_mv rfl rfl ?_
  obtain ⟨r3, h4, h0⟩ := bindE h0
  refine ok_pc [.d (.sl 2 (p0.map enc_api_Span)), .d (.sl 2 (p1.map enc_api_Span))] (l11_fit_ok p0 p1 r3 h4) rfl rfl rfl (.inl rfl) ?_
  refine ok_v (.d (.bool (!r3))) rfl rfl ?_
  obtain ⟨c5, h6, h0⟩ := bindE h0
  refine ok_cutQ 4 (fun A st => ∃ (j7 j8 j9 : V), st = A [(24, .d (.bool c5)), (23, j9), (22, j8), (21, j7)]) ?_ ?_
  · refine ok_mvB rfl rfl h6 (fun h6 => ?_) (fun h6 => ?_)
    · refine ok_sg rfl ?_
      refine ok_sg rfl ?_
      refine ok_v (.d (.bool true)) rfl rfl ?_
      refine ok_nil ?_
      obtain rfl := someE h6
      exact ⟨_, _, _, rfl⟩
    · refine ok_mv rfl rfl ?_
      refine ok_v (.d (.bool (!r1))) rfl rfl ?_
      refine ok_v (.d (.bool (!r1))) rfl rfl ?_
      refine ok_nil ?_
      obtain rfl := someE h6
      exact ⟨_, _, _, rfl⟩
  · rintro _ ⟨j7, j8, j9, rfl⟩
    refine ok_nil ?_
    refine rk_condH rfl h0 (fun _ h0 => ?_) (fun _ h0 => ?_)
    · refine rk_seq ?_
      refine rk_region ?_
      refine ok_mv rfl rfl ?_
      refine ok_as rfl rfl ?_
      refine ok_nil ?_
      refine rk_ret ?_
      obtain rfl := someE h0
      exact finD (.inr rfl) (v := .d (.bool r1)) rfl rfl (.refl _)
    · refine rk_skip ?_
      refine rk_seq ?_
      refine rk_region ?_
      refine ok_mv rfl rfl ?_
      refine ok_mv rfl rfl ?_
      obtain ⟨r10, h11, h0⟩ := bindE h0
      refine ok_pc [.d (.sl 2 (p0.map enc_api_Span)), .d (.sl 2 (p1.map enc_api_Span))] (span_Union_ok p0 p1 r10 h11) rfl rfl rfl (.inl rfl) ?_
      refine ok_mv rfl rfl ?_
      refine ok_v (.d (.sl 2 (r10.1.map enc_api_Span))) rfl rfl ?_
      refine ok_v (.d (.int .i64 r10.2)) rfl rfl ?_
      refine ok_as rfl rfl ?_
      refine ok_as rfl rfl ?_
      refine ok_nil ?_
      refine rk_seq ?_
      refine rk_region ?_
      refine ok_mv rfl rfl ?_
      refine ok_mv rfl rfl ?_
      obtain ⟨r12, h13, h0⟩ := bindE h0
      refine ok_pc [.d (.sl 2 (p0.map enc_api_Span)), .d (.sl 2 (p1.map enc_api_Span))] (span_Meet_ok p0 p1 r12 h13) rfl rfl rfl (.inl rfl) ?_
      refine ok_mv rfl rfl ?_
      refine ok_v (.d (.sl 2 (r12.1.map enc_api_Span))) rfl rfl ?_
      refine ok_v (.d (.int .i64 r12.2)) rfl rfl ?_
      refine ok_as rfl rfl ?_
      refine ok_as rfl rfl ?_
      refine ok_nil ?_
      refine rk_seq ?_
      refine rk_region ?_
      refine ok_mv rfl rfl ?_
      refine ok_mv rfl rfl ?_
      obtain ⟨r14, h15, h0⟩ := bindE h0
      refine ok_pc [.d (.sl 2 (p0.map enc_api_Span)), .d (.sl 2 (p1.map enc_api_Span))] (span_Minus_ok p0 p1 r14 h15) rfl rfl rfl (.inl rfl) ?_
      refine ok_mv rfl rfl ?_
      refine ok_v (.d (.sl 2 (r14.1.map enc_api_Span))) rfl rfl ?_
      refine ok_v (.d (.int .i64 r14.2)) rfl rfl ?_
      refine ok_as rfl rfl ?_
      refine ok_as rfl rfl ?_
      refine ok_nil ?_
      refine rk_seq ?_
      refine rk_region ?_
      refine ok_mv rfl rfl ?_
      refine ok_mv rfl rfl ?_
      obtain ⟨r16, h17, h0⟩ := bindE h0
      refine ok_pc [.d (.sl 2 (p0.map enc_api_Span)), .d (.int .i64 p2)] (span_Has_ok p0 p2 r16 h17) rfl rfl rfl (.inl rfl) ?_
      refine ok_mv rfl rfl ?_
      refine ok_mv rfl rfl ?_
      obtain ⟨r18, h19, h0⟩ := bindE h0
      refine ok_pc [.d (.sl 2 (p1.map enc_api_Span)), .d (.int .i64 p2)] (span_Has_ok p1 p2 r18 h19) rfl rfl rfl (.inl rfl) ?_
      refine ok_as rfl rfl ?_
      refine ok_as rfl rfl ?_
      refine ok_nil ?_
      refine rk_seq ?_
      refine rk_seq ?_
      refine rk_region ?_
      refine ok_mv rfl rfl ?_
      refine ok_v (.d (.bool (r10.2 == 0))) rfl rfl ?_
      obtain ⟨c45, h46, h0⟩ := bindE h0
      refine ok_cutQ 15 (fun A st => ∃ (j47 j48 j49 j50 j51 j52 j53 j54 j55 j56 j57 j58 j59 j60 : V), st = A [(66, .d (.bool c45)), (65, j60), (64, j59), (63, j58), (62, j57), (61, j56), (60, j55), (59, j54), (58, j53), (57, j52), (56, j51), (55, j50), (54, j49), (53, j48), (52, j47)]) ?_ ?_
      · refine ok_mvB rfl rfl h46 (fun h46 => ?_) (fun h46 => ?_)
        · refine ok_mv rfl rfl ?_
          obtain ⟨r61, h62, h46⟩ := bindE h46
          refine ok_pc [.d (.sl 2 (r10.1.map enc_api_Span))] (r11_Check_ok r10.1 r61 h62) rfl rfl rfl (.inl rfl) ?_
          refine ok_v (.d (.bool (r61 != 0))) rfl rfl ?_
          obtain ⟨c69, h70, h46⟩ := bindE h46
          refine ok_cutQ 10 (fun A st => ∃ (j71 j72 j73 j74 j75 j76 j77 j78 j79 : V), st = A [(65, .d (.bool c69)), (64, j79), (63, j78), (62, j77), (61, j76), (60, j75), (59, j74), (58, j73), (57, j72), (56, j71)]) ?_ ?_
          · refine ok_mvB rfl rfl h70 (fun h70 => ?_) (fun h70 => ?_)
            · refine ok_sg rfl ?_
              refine ok_sg rfl ?_
              refine ok_sg rfl ?_
              refine ok_sg rfl ?_
              refine ok_sg rfl ?_
              refine ok_sg rfl ?_
              refine ok_sg rfl ?_
              refine ok_sg rfl ?_
              refine ok_v (.d (.bool true)) rfl rfl ?_
              refine ok_nil ?_
              obtain rfl := someE h70
              exact ⟨_, _, _, _, _, _, _, _, _, rfl⟩
            · refine ok_mv rfl rfl ?_
              refine ok_mv rfl rfl ?_
              obtain ⟨r80, h81, h70⟩ := bindE h70
              refine ok_pc [.d (.sl 2 (r10.1.map enc_api_Span)), .d (.int .i64 p2)] (span_Has_ok r10.1 p2 r80 h81) rfl rfl rfl (.inl rfl) ?_
              refine ok_mv rfl rfl ?_
              obtain ⟨c82, h83, h70⟩ := bindE h70
              refine ok_cutQ 3 (fun A st => ∃ (j84 j85 : V), st = A [(63, .d (.bool c82)), (62, j85), (61, j84)]) ?_ ?_
              · refine ok_mvB rfl rfl h83 (fun h83 => ?_) (fun h83 => ?_)
                · refine ok_sg rfl ?_
                  refine ok_v (.d (.bool true)) rfl rfl ?_
                  refine ok_nil ?_
                  obtain rfl := someE h83
                  exact ⟨_, _, rfl⟩
                · refine ok_mv rfl rfl ?_
                  refine ok_v (.d (.bool r18)) rfl rfl ?_
                  refine ok_nil ?_
                  obtain rfl := someE h83
                  exact ⟨_, _, rfl⟩
              · rintro _ ⟨j84, j85, rfl⟩
                refine ok_v (.d (.bool (!(r80 == c82)))) rfl rfl ?_
                refine ok_v (.d (.bool (!(r80 == c82)))) rfl rfl ?_
                refine ok_nil ?_
                obtain rfl := someE h70
                exact ⟨_, _, _, _, _, _, _, _, _, rfl⟩
          · rintro _ ⟨j71, j72, j73, j74, j75, j76, j77, j78, j79, rfl⟩
            refine ok_v (.d (.bool c69)) rfl rfl ?_
            refine ok_nil ?_
            obtain rfl := someE h46
            exact ⟨_, _, _, _, _, _, _, _, _, _, _, _, _, _, rfl⟩
        · refine ok_sg rfl ?_
          refine ok_sg rfl ?_
          refine ok_sg rfl ?_
          refine ok_sg rfl ?_
          refine ok_sg rfl ?_
          refine ok_sg rfl ?_
          refine ok_sg rfl ?_
          refine ok_sg rfl ?_
          refine ok_sg rfl ?_
          refine ok_sg rfl ?_
          refine ok_sg rfl ?_
          refine ok_sg rfl ?_
          refine ok_sg rfl ?_
          refine ok_v (.d (.bool false)) rfl rfl ?_
          refine ok_nil ?_
          obtain rfl := someE h46
          exact ⟨_, _, _, _, _, _, _, _, _, _, _, _, _, _, rfl⟩
      · rintro _ ⟨j47, j48, j49, j50, j51, j52, j53, j54, j55, j56, j57, j58, j59, j60, rfl⟩
        refine ok_nil ?_
        refine rk_condH rfl h0 (fun _ h0 => ?_) (fun _ h0 => ?_)
        · refine rk_seq ?_
          refine rk_region ?_
          refine ok_as rfl rfl ?_
          refine ok_nil ?_
          refine rk_ret ?_
          obtain rfl := someE h0
          exact finD (.inr rfl) (v := .d (.bool false)) rfl rfl (.refl _)
        · refine rk_skip ?_
          refine rk_seq ?_
          refine rk_seq ?_
          refine rk_region ?_
          refine ok_mv rfl rfl ?_
          refine ok_v (.d (.bool (r12.2 == 0))) rfl rfl ?_
          obtain ⟨c111, h112, h0⟩ := bindE h0
          refine ok_cutQ 15 (fun A st => ∃ (j113 j114 j115 j116 j117 j118 j119 j120 j121 j122 j123 j124 j125 j126 : V), st = A [(83, .d (.bool c111)), (82, j126), (81, j125), (80, j124), (79, j123), (78, j122), (77, j121), (76, j120), (75, j119), (74, j118), (73, j117), (72, j116), (71, j115), (70, j114), (69, j113)]) ?_ ?_
          · refine ok_mvB rfl rfl h112 (fun h112 => ?_) (fun h112 => ?_)
            · refine ok_mv rfl rfl ?_
              obtain ⟨r127, h128, h112⟩ := bindE h112
              refine ok_pc [.d (.sl 2 (r12.1.map enc_api_Span))] (r11_Check_ok r12.1 r127 h128) rfl rfl rfl (.inl rfl) ?_
              refine ok_v (.d (.bool (r127 != 0))) rfl rfl ?_
              obtain ⟨c135, h136, h112⟩ := bindE h112
              refine ok_cutQ 10 (fun A st => ∃ (j137 j138 j139 j140 j141 j142 j143 j144 j145 : V), st = A [(82, .d (.bool c135)), (81, j145), (80, j144), (79, j143), (78, j142), (77, j141), (76, j140), (75, j139), (74, j138), (73, j137)]) ?_ ?_
              · refine ok_mvB rfl rfl h136 (fun h136 => ?_) (fun h136 => ?_)
                · refine ok_sg rfl ?_
                  refine ok_sg rfl ?_
                  refine ok_sg rfl ?_
                  refine ok_sg rfl ?_
                  refine ok_sg rfl ?_
                  refine ok_sg rfl ?_
                  refine ok_sg rfl ?_
                  refine ok_sg rfl ?_
                  refine ok_v (.d (.bool true)) rfl rfl ?_
                  refine ok_nil ?_
                  obtain rfl := someE h136
                  exact ⟨_, _, _, _, _, _, _, _, _, rfl⟩
                · refine ok_mv rfl rfl ?_
                  refine ok_mv rfl rfl ?_
                  obtain ⟨r146, h147, h136⟩ := bindE h136
                  refine ok_pc [.d (.sl 2 (r12.1.map enc_api_Span)), .d (.int .i64 p2)] (span_Has_ok r12.1 p2 r146 h147) rfl rfl rfl (.inl rfl) ?_
                  refine ok_mv rfl rfl ?_
                  obtain ⟨c148, h149, h136⟩ := bindE h136
                  refine ok_cutQ 3 (fun A st => ∃ (j150 j151 : V), st = A [(80, .d (.bool c148)), (79, j151), (78, j150)]) ?_ ?_
                  · refine ok_mvB rfl rfl h149 (fun h149 => ?_) (fun h149 => ?_)
                    · refine ok_mv rfl rfl ?_
                      refine ok_v (.d (.bool r18)) rfl rfl ?_
                      refine ok_nil ?_
                      obtain rfl := someE h149
                      exact ⟨_, _, rfl⟩
                    · refine ok_sg rfl ?_
                      refine ok_v (.d (.bool false)) rfl rfl ?_
                      refine ok_nil ?_
                      obtain rfl := someE h149
                      exact ⟨_, _, rfl⟩
                  · rintro _ ⟨j150, j151, rfl⟩
                    refine ok_v (.d (.bool (!(r146 == c148)))) rfl rfl ?_
                    refine ok_v (.d (.bool (!(r146 == c148)))) rfl rfl ?_
                    refine ok_nil ?_
                    obtain rfl := someE h136
                    exact ⟨_, _, _, _, _, _, _, _, _, rfl⟩
              · rintro _ ⟨j137, j138, j139, j140, j141, j142, j143, j144, j145, rfl⟩
                refine ok_v (.d (.bool c135)) rfl rfl ?_
                refine ok_nil ?_
                obtain rfl := someE h112
                exact ⟨_, _, _, _, _, _, _, _, _, _, _, _, _, _, rfl⟩
            · refine ok_sg rfl ?_
              refine ok_sg rfl ?_
              refine ok_sg rfl ?_
              refine ok_sg rfl ?_
              refine ok_sg rfl ?_
              refine ok_sg rfl ?_
              refine ok_sg rfl ?_
              refine ok_sg rfl ?_
              refine ok_sg rfl ?_
              refine ok_sg rfl ?_
              refine ok_sg rfl ?_
              refine ok_sg rfl ?_
              refine ok_sg rfl ?_
              refine ok_v (.d (.bool false)) rfl rfl ?_
              refine ok_nil ?_
              obtain rfl := someE h112
              exact ⟨_, _, _, _, _, _, _, _, _, _, _, _, _, _, rfl⟩
          · rintro _ ⟨j113, j114, j115, j116, j117, j118, j119, j120, j121, j122, j123, j124, j125, j126, rfl⟩
            refine ok_nil ?_
            refine rk_condH rfl h0 (fun _ h0 => ?_) (fun _ h0 => ?_)
            · refine rk_seq ?_
              refine rk_region ?_
              refine ok_as rfl rfl ?_
              refine ok_nil ?_
              refine rk_ret ?_
              obtain rfl := someE h0
              exact finD (.inr rfl) (v := .d (.bool false)) rfl rfl (.refl _)
            · refine rk_skip ?_
              refine rk_seq ?_
              refine rk_seq ?_
              refine rk_region ?_
              refine ok_mv rfl rfl ?_
              refine ok_v (.d (.bool (r14.2 == 0))) rfl rfl ?_
              obtain ⟨c180, h181, h0⟩ := bindE h0
              refine ok_cutQ 16 (fun A st => ∃ (j182 j183 j184 j185 j186 j187 j188 j189 j190 j191 j192 j193 j194 j195 j196 : V), st = A [(101, .d (.bool c180)), (100, j196), (99, j195), (98, j194), (97, j193), (96, j192), (95, j191), (94, j190), (93, j189), (92, j188), (91, j187), (90, j186), (89, j185), (88, j184), (87, j183), (86, j182)]) ?_ ?_
              · refine ok_mvB rfl rfl h181 (fun h181 => ?_) (fun h181 => ?_)
                · refine ok_mv rfl rfl ?_
                  obtain ⟨r197, h198, h181⟩ := bindE h181
                  refine ok_pc [.d (.sl 2 (r14.1.map enc_api_Span))] (r11_Check_ok r14.1 r197 h198) rfl rfl rfl (.inl rfl) ?_
                  refine ok_v (.d (.bool (r197 != 0))) rfl rfl ?_
                  obtain ⟨c206, h207, h181⟩ := bindE h181
                  refine ok_cutQ 11 (fun A st => ∃ (j208 j209 j210 j211 j212 j213 j214 j215 j216 j217 : V), st = A [(100, .d (.bool c206)), (99, j217), (98, j216), (97, j215), (96, j214), (95, j213), (94, j212), (93, j211), (92, j210), (91, j209), (90, j208)]) ?_ ?_
                  · refine ok_mvB rfl rfl h207 (fun h207 => ?_) (fun h207 => ?_)
                    · refine ok_sg rfl ?_
                      refine ok_sg rfl ?_
                      refine ok_sg rfl ?_
                      refine ok_sg rfl ?_
                      refine ok_sg rfl ?_
                      refine ok_sg rfl ?_
                      refine ok_sg rfl ?_
                      refine ok_sg rfl ?_
                      refine ok_sg rfl ?_
                      refine ok_v (.d (.bool true)) rfl rfl ?_
                      refine ok_nil ?_
                      obtain rfl := someE h207
                      exact ⟨_, _, _, _, _, _, _, _, _, _, rfl⟩
                    · refine ok_mv rfl rfl ?_
                      refine ok_mv rfl rfl ?_
                      obtain ⟨r218, h219, h207⟩ := bindE h207
                      refine ok_pc [.d (.sl 2 (r14.1.map enc_api_Span)), .d (.int .i64 p2)] (span_Has_ok r14.1 p2 r218 h219) rfl rfl rfl (.inl rfl) ?_
                      refine ok_mv rfl rfl ?_
                      obtain ⟨c220, h221, h207⟩ := bindE h207
                      refine ok_cutQ 4 (fun A st => ∃ (j222 j223 j224 : V), st = A [(98, .d (.bool c220)), (97, j224), (96, j223), (95, j222)]) ?_ ?_
                      · refine ok_mvB rfl rfl h221 (fun h221 => ?_) (fun h221 => ?_)
                        · refine ok_mv rfl rfl ?_
                          refine ok_v (.d (.bool (!r18))) rfl rfl ?_
                          refine ok_v (.d (.bool (!r18))) rfl rfl ?_
                          refine ok_nil ?_
                          obtain rfl := someE h221
                          exact ⟨_, _, _, rfl⟩
                        · refine ok_sg rfl ?_
                          refine ok_sg rfl ?_
                          refine ok_v (.d (.bool false)) rfl rfl ?_
                          refine ok_nil ?_
                          obtain rfl := someE h221
                          exact ⟨_, _, _, rfl⟩
                      · rintro _ ⟨j222, j223, j224, rfl⟩
                        refine ok_v (.d (.bool (!(r218 == c220)))) rfl rfl ?_
                        refine ok_v (.d (.bool (!(r218 == c220)))) rfl rfl ?_
                        refine ok_nil ?_
                        obtain rfl := someE h207
                        exact ⟨_, _, _, _, _, _, _, _, _, _, rfl⟩
                  · rintro _ ⟨j208, j209, j210, j211, j212, j213, j214, j215, j216, j217, rfl⟩
                    refine ok_v (.d (.bool c206)) rfl rfl ?_
                    refine ok_nil ?_
                    obtain rfl := someE h181
                    exact ⟨_, _, _, _, _, _, _, _, _, _, _, _, _, _, _, rfl⟩
                · refine ok_sg rfl ?_
                  refine ok_sg rfl ?_
                  refine ok_sg rfl ?_
                  refine ok_sg rfl ?_
                  refine ok_sg rfl ?_
                  refine ok_sg rfl ?_
                  refine ok_sg rfl ?_
                  refine ok_sg rfl ?_
                  refine ok_sg rfl ?_
                  refine ok_sg rfl ?_
                  refine ok_sg rfl ?_
                  refine ok_sg rfl ?_
                  refine ok_sg rfl ?_
                  refine ok_sg rfl ?_
                  refine ok_v (.d (.bool false)) rfl rfl ?_
                  refine ok_nil ?_
                  obtain rfl := someE h181
                  exact ⟨_, _, _, _, _, _, _, _, _, _, _, _, _, _, _, rfl⟩
              · rintro _ ⟨j182, j183, j184, j185, j186, j187, j188, j189, j190, j191, j192, j193, j194, j195, j196, rfl⟩
                refine ok_nil ?_
                refine rk_condH rfl h0 (fun _ h0 => ?_) (fun _ h0 => ?_)
                · refine rk_seq ?_
                  refine rk_region ?_
                  refine ok_as rfl rfl ?_
                  refine ok_nil ?_
                  refine rk_ret ?_
                  obtain rfl := someE h0
                  exact finD (.inr rfl) (v := .d (.bool false)) rfl rfl (.refl _)
                · refine rk_skip ?_
                  refine rk_seq ?_
                  refine rk_region ?_
                  refine ok_mv rfl rfl ?_
                  obtain ⟨c230, h231, h0⟩ := bindE h0
                  refine ok_cutQ 8 (fun A st => ∃ (j232 j233 j234 j235 j236 j237 j238 : V), st = A [(110, .d (.bool c230)), (109, j238), (108, j237), (107, j236), (106, j235), (105, j234), (104, j233), (103, j232)]) ?_ ?_
                  · refine ok_mvB rfl rfl h231 (fun h231 => ?_) (fun h231 => ?_)
                    · refine ok_mv rfl rfl ?_
                      refine ok_v (.d (.bool (r10.2 == 0))) rfl rfl ?_
                      obtain ⟨c239, h240, h231⟩ := bindE h231
                      refine ok_cutQ 4 (fun A st => ∃ (j241 j242 j243 : V), st = A [(109, .d (.bool c239)), (108, j243), (107, j242), (106, j241)]) ?_ ?_
                      · refine ok_mvB rfl rfl h240 (fun h240 => ?_) (fun h240 => ?_)
                        · refine ok_sg rfl ?_
                          refine ok_sg rfl ?_
                          refine ok_v (.d (.bool true)) rfl rfl ?_
                          refine ok_nil ?_
                          obtain rfl := someE h240
                          exact ⟨_, _, _, rfl⟩
                        · refine ok_mv rfl rfl ?_
                          refine ok_v (.d (.bool (r10.2 == 4))) rfl rfl ?_
                          refine ok_v (.d (.bool (r10.2 == 4))) rfl rfl ?_
                          refine ok_nil ?_
                          obtain rfl := someE h240
                          exact ⟨_, _, _, rfl⟩
                      · rintro _ ⟨j241, j242, j243, rfl⟩
                        refine ok_v (.d (.bool c239)) rfl rfl ?_
                        refine ok_nil ?_
                        obtain rfl := someE h231
                        exact ⟨_, _, _, _, _, _, _, rfl⟩
                    · refine ok_sg rfl ?_
                      refine ok_sg rfl ?_
                      refine ok_sg rfl ?_
                      refine ok_sg rfl ?_
                      refine ok_sg rfl ?_
                      refine ok_sg rfl ?_
                      refine ok_v (.d (.bool false)) rfl rfl ?_
                      refine ok_nil ?_
                      obtain rfl := someE h231
                      exact ⟨_, _, _, _, _, _, _, rfl⟩
                  · rintro _ ⟨j232, j233, j234, j235, j236, j237, j238, rfl⟩
                    obtain ⟨c249, h250, h0⟩ := bindE h0
                    refine ok_cutQ 8 (fun A st => ∃ (j251 j252 j253 j254 j255 j256 j257 : V), st = A [(118, .d (.bool c249)), (117, j257), (116, j256), (115, j255), (114, j254), (113, j253), (112, j252), (111, j251)]) ?_ ?_
                    · refine ok_mvB rfl rfl h250 (fun h250 => ?_) (fun h250 => ?_)
                      · refine ok_mv rfl rfl ?_
                        refine ok_v (.d (.bool (r12.2 == 0))) rfl rfl ?_
                        obtain ⟨c258, h259, h250⟩ := bindE h250
                        refine ok_cutQ 4 (fun A st => ∃ (j260 j261 j262 : V), st = A [(117, .d (.bool c258)), (116, j262), (115, j261), (114, j260)]) ?_ ?_
                        · refine ok_mvB rfl rfl h259 (fun h259 => ?_) (fun h259 => ?_)
                          · refine ok_sg rfl ?_
                            refine ok_sg rfl ?_
                            refine ok_v (.d (.bool true)) rfl rfl ?_
                            refine ok_nil ?_
                            obtain rfl := someE h259
                            exact ⟨_, _, _, rfl⟩
                          · refine ok_mv rfl rfl ?_
                            refine ok_v (.d (.bool (r12.2 == 4))) rfl rfl ?_
                            refine ok_v (.d (.bool (r12.2 == 4))) rfl rfl ?_
                            refine ok_nil ?_
                            obtain rfl := someE h259
                            exact ⟨_, _, _, rfl⟩
                        · rintro _ ⟨j260, j261, j262, rfl⟩
                          refine ok_v (.d (.bool c258)) rfl rfl ?_
                          refine ok_nil ?_
                          obtain rfl := someE h250
                          exact ⟨_, _, _, _, _, _, _, rfl⟩
                      · refine ok_sg rfl ?_
                        refine ok_sg rfl ?_
                        refine ok_sg rfl ?_
                        refine ok_sg rfl ?_
                        refine ok_sg rfl ?_
                        refine ok_sg rfl ?_
                        refine ok_v (.d (.bool false)) rfl rfl ?_
                        refine ok_nil ?_
                        obtain rfl := someE h250
                        exact ⟨_, _, _, _, _, _, _, rfl⟩
                    · rintro _ ⟨j251, j252, j253, j254, j255, j256, j257, rfl⟩
                      obtain ⟨c268, h269, h0⟩ := bindE h0
                      refine ok_cutQ 8 (fun A st => ∃ (j270 j271 j272 j273 j274 j275 j276 : V), st = A [(126, .d (.bool c268)), (125, j276), (124, j275), (123, j274), (122, j273), (121, j272), (120, j271), (119, j270)]) ?_ ?_
                      · refine ok_mvB rfl rfl h269 (fun h269 => ?_) (fun h269 => ?_)
                        · refine ok_mv rfl rfl ?_
                          refine ok_v (.d (.bool (r14.2 == 0))) rfl rfl ?_
                          obtain ⟨c277, h278, h269⟩ := bindE h269
                          refine ok_cutQ 4 (fun A st => ∃ (j279 j280 j281 : V), st = A [(125, .d (.bool c277)), (124, j281), (123, j280), (122, j279)]) ?_ ?_
                          · refine ok_mvB rfl rfl h278 (fun h278 => ?_) (fun h278 => ?_)
                            · refine ok_sg rfl ?_
                              refine ok_sg rfl ?_
                              refine ok_v (.d (.bool true)) rfl rfl ?_
                              refine ok_nil ?_
                              obtain rfl := someE h278
                              exact ⟨_, _, _, rfl⟩
                            · refine ok_mv rfl rfl ?_
                              refine ok_v (.d (.bool (r14.2 == 4))) rfl rfl ?_
                              refine ok_v (.d (.bool (r14.2 == 4))) rfl rfl ?_
                              refine ok_nil ?_
                              obtain rfl := someE h278
                              exact ⟨_, _, _, rfl⟩
                          · rintro _ ⟨j279, j280, j281, rfl⟩
                            refine ok_v (.d (.bool c277)) rfl rfl ?_
                            refine ok_nil ?_
                            obtain rfl := someE h269
                            exact ⟨_, _, _, _, _, _, _, rfl⟩
                        · refine ok_sg rfl ?_
                          refine ok_sg rfl ?_
                          refine ok_sg rfl ?_
                          refine ok_sg rfl ?_
                          refine ok_sg rfl ?_
                          refine ok_sg rfl ?_
                          refine ok_v (.d (.bool false)) rfl rfl ?_
                          refine ok_nil ?_
                          obtain rfl := someE h269
                          exact ⟨_, _, _, _, _, _, _, rfl⟩
                      · rintro _ ⟨j270, j271, j272, j273, j274, j275, j276, rfl⟩
                        refine ok_as rfl rfl ?_
                        refine ok_nil ?_
                        refine rk_ret ?_
                        obtain rfl := someE h0
                        exact finD (.inr rfl) (v := .d (.bool c268)) rfl rfl (.refl _)
end Go.Proofs.Ytcpogfjlehoabaa
