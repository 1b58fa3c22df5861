/- THE WALKS, lifted by program: on. -/
import Derived.Test.YtcpogfjlehoabaaWSpanLengthsa
namespace Go.Proofs.Ytcpogfjlehoabaa
open Go Go.Am Go.Sh
theorem span_Has_1_ok (p0 : api_Span) (p1 : Int) (r : Bool) (h0 : span_Has_1 p0 p1 = some r) : Pure Try.prog tab 45 [.agg [.int .i64 p0.Lo, .int .i64 p0.Hi], .box [.int .i64 p1]] (.bool r) := by
  unfold span_Has_1 at h0
  refine pure_of_run Try.func45 rfl (by kernel_rfl) (by kernel_rfl) rfl ?_
  refine rk_seq ?_
  refine rk_region ?_
  refine ok_new (.ref 0 2 0 0) (.dat 2 [[.int .i64 p0.Lo, .int .i64 p0.Hi]]) rfl rfl ?_
  refine ok_as rfl rfl ?_
  refine ok_nil ?_
  refine rk_seq ?_
  refine rk_region ?_
  refine ok_v (.ref 0 2 0 0) rfl rfl ?_
  refine ok_v (.d (.int .i64 p0.Lo)) rfl rfl ?_
  refine ok_v (.d (.int .i64 p1)) rfl rfl ?_
  refine ok_v (.d (.bool (decide (p0.Lo ≤ p1)))) rfl rfl ?_
  obtain ⟨c1, h2, h0⟩ := bindE h0
  refine ok_cutQ 6 (fun A st => ∃ (j3 j4 j5 j6 j7 : V), st = A [(13, .d (.bool c1)), (12, j7), (11, j6), (10, j5), (9, j4), (8, j3)]) ?_ ?_
  · refine ok_mvB rfl rfl h2 (fun h2 => ?_) (fun h2 => ?_)
    · refine ok_v (.d (.int .i64 p1)) rfl rfl ?_
      refine ok_v (.ref 0 2 0 1) rfl rfl ?_
      refine ok_v (.d (.int .i64 p0.Hi)) rfl rfl ?_
      refine ok_v (.d (.bool (decide (p1 < p0.Hi)))) rfl rfl ?_
      refine ok_v (.d (.bool (decide (p1 < p0.Hi)))) rfl rfl ?_
      refine ok_nil ?_
      obtain rfl := someE h2
      exact ⟨_, _, _, _, _, rfl⟩
    · refine ok_sg rfl ?_
      refine ok_sg rfl ?_
      refine ok_sg rfl ?_
      refine ok_sg rfl ?_
      refine ok_v (.d (.bool false)) rfl rfl ?_
      refine ok_nil ?_
      obtain rfl := someE h2
      exact ⟨_, _, _, _, _, rfl⟩
  · rintro _ ⟨j3, j4, j5, j6, j7, rfl⟩
    refine ok_as rfl rfl ?_
    refine ok_nil ?_
    refine rk_ret ?_
    obtain rfl := someE h0
    exact finD (.inr rfl) (v := .d (.bool c1)) rfl rfl (.refl _)

theorem span_Has_ok (p0 : List api_Span) (p1 : Int) (r : Bool) (h0 : span_Has p0 p1 = some r) : Pure Try.prog tab 29 [.sl 2 (p0.map enc_api_Span), .int .i64 p1] (.bool r) := by
  unfold span_Has at h0
  refine pure_of_run Try.func29 rfl (by kernel_rfl) (by kernel_rfl) rfl ?_
  refine rk_seq ?_
  refine rk_region ?_
  refine ok_new (.ref 0 1 0 0) (.dat 1 [[.int .i64 p1]]) rfl rfl ?_
  refine ok_as rfl rfl ?_
  refine ok_nil ?_
  refine rk_seq ?_
  refine rk_region ?_
  refine ok_mv rfl rfl ?_
  refine ok_v (.fn 45 [.ref 0 1 0 0]) rfl rfl ?_
  obtain ⟨r1, h2, h0⟩ := bindE h0
  refine ok_pc [.d (.sl 2 (p0.map enc_api_Span)), .fn 45 [.ref 0 1 0 0]] (slices_ContainsFunc_api_Span_api_Span_ok p0 (fun x0 => span_Has_1 x0 p1) 45 [.box [.int .i64 p1]] (fun x0 r hr => span_Has_1_ok x0 p1 r hr) r1 h2) rfl rfl (af_cons rfl (af_cons (td_fn (mm_cons rfl rfl)) rfl)) (.inr rfl) ?_
  refine ok_as rfl rfl ?_
  refine ok_nil ?_
  refine rk_ret ?_
  obtain rfl := someE h0
  exact finD (.inr rfl) (v := .d (.bool r1)) rfl rfl (.refl _)

theorem r11_Same_ok (p0 : List api_Span) (p1 : List api_Span) (r : Bool) (h0 : r11_Same p0 p1 = some r) : Pure Try.prog tab 17 [.sl 2 (p0.map enc_api_Span), .sl 2 (p1.map enc_api_Span)] (.bool r) := by
  unfold r11_Same at h0
  refine pure_of_run Try.func17 rfl (by kernel_rfl) (by kernel_rfl) rfl ?_
  refine rk_seq ?_
  refine rk_region ?_
  refine ok_as rfl rfl ?_
  refine ok_nil ?_
  refine rk_seq ?_
  refine rk_seq ?_
  refine rk_region ?_
  refine ok_mv rfl rfl ?_
  refine ok_ln rfl rfl rfl rfl ?_
  refine ok_mv rfl rfl ?_
  refine ok_ln rfl rfl rfl rfl ?_
  refine ok_v (.d (.bool ((p0.length : Int) != (p1.length : Int)))) rfl rfl ?_
  refine ok_nil ?_
  refine rk_condH rfl h0 (fun _ h0 => ?_) (fun _ h0 => ?_)
  · refine rk_seq ?_
    refine rk_region ?_
    refine ok_as rfl rfl ?_
    refine ok_nil ?_
    refine rk_ret ?_
    obtain rfl := someE h0
    exact finD (.inr rfl) (v := .d (.bool false)) rfl rfl (.refl _)
  · refine rk_skip ?_
    refine rk_seq ?_
    refine rk_seq ?_
    refine rk_region ?_
    refine ok_as rfl rfl ?_
    refine ok_nil ?_
    obtain ⟨m20, h21, h0⟩ := bindE h0
    refine rk_blockcut (fun b22 => .inl b22 = m20) (fun (b22 : Unit) => ⟨[], [], 0⟩) (by simp) ?_ ?_
    · refine rk_loopF (r11_Same_L1 p0 p1) (fun (a19 : Int) => ⟨[(0, .d (.sl 2 (p0.map enc_api_Span))), (1, .d (.sl 2 (p1.map enc_api_Span))), (5, .d (.int .i64 a19))], [], 0⟩) 0 m20 h21 (wkE [] [] [] rfl ⟨⟨_, rfl, .d (.refl _)⟩, ⟨_, rfl, .d (.refl _)⟩, ⟨_, rfl, .d (.refl _)⟩, trivial⟩ trivial) ?_
      intro a19 y17 h18
      unfold r11_Same_L1 at h18
      refine rk_seq ?_
      refine rk_seq ?_
      refine rk_region ?_
      refine ok_mv rfl rfl ?_
      refine ok_mv rfl rfl ?_
      refine ok_ln rfl rfl rfl rfl ?_
      refine ok_v (.d (.bool (decide (a19 < (p0.length : Int))))) rfl rfl ?_
      refine ok_nil ?_
      refine rk_condH rfl h18 (fun _ h18 => ?_) (fun _ h18 => ?_)
      · refine rk_skip ?_
        refine rk_seq ?_
        refine rk_block ?_
        refine rk_seq ?_
        refine rk_regionD (by kernel_rfl) ?_
        refine ok_mv rfl rfl ?_
        refine ok_mv rfl rfl ?_
        obtain ⟨v27, h28, h18⟩ := bindE h18
        refine ok_ix (enc := enc_api_Span) h28 rfl rfl rfl rfl rfl rfl ?_
        refine ok_v (.d (.agg [.int .i64 v27.Lo, .int .i64 v27.Hi])) rfl rfl ?_
        refine ok_mv rfl rfl ?_
        refine ok_mv rfl rfl ?_
        obtain ⟨v29, h30, h18⟩ := bindE h18
        refine ok_ix (enc := enc_api_Span) h30 rfl rfl rfl rfl rfl rfl ?_
        refine ok_v (.d (.agg [.int .i64 v29.Lo, .int .i64 v29.Hi])) rfl rfl ?_
        refine ok_v (.d (.bool (!((v27.Lo == v29.Lo) && ((v27.Hi == v29.Hi) && true))))) rfl rfl ?_
        refine ok_nil ?_
        refine rk_condH rfl h18 (fun _ h18 => ?_) (fun _ h18 => ?_)
        · refine rk_seq ?_
          refine rk_region ?_
          refine ok_as rfl rfl ?_
          refine ok_nil ?_
          refine rk_ret ?_
          refine ⟨_, (Option.some.inj h18).symm, fun hm => ?_⟩
          subst hm
          obtain rfl := someE h0
          exact finD (.inr rfl) (v := .d (.bool false)) rfl rfl (.refl _)
        · refine rk_skip ?_
          refine rk_nil ?_
          refine blk_nor ?_
          refine rk_region ?_
          refine ok_mv rfl rfl ?_
          refine ok_v (.d (.int .i64 (w64 (a19 + 1)))) rfl rfl ?_
          refine ok_as rfl rfl ?_
          refine ok_nil ?_
          refine rk_nil ?_
          exact ⟨_, (Option.some.inj h18).symm, wkE [] [] [] rfl ⟨⟨_, rfl, .d (.refl _)⟩, ⟨_, rfl, .d (.refl _)⟩, ⟨_, rfl, .d (.refl _)⟩, trivial⟩ trivial⟩
      · refine rk_exit ?_
        refine ⟨_, (Option.some.inj h18).symm, fun hm => ?_⟩
        subst hm
        exact ⟨_, rfl, wkE [] [] [] rfl trivial trivial⟩
    · intro b22 hb
      subst hb
      refine rk_seq ?_
      refine rk_region ?_
      refine ok_as rfl rfl ?_
      refine ok_nil ?_
      refine rk_ret ?_
      obtain rfl := someE h0
      exact finD (.inr rfl) (v := .d (.bool true)) rfl rfl (.refl _)

theorem l11_alive_ok (r : Bool) (h0 : l11_alive = some r) : Pure Try.prog tab 31 [] (.bool r) := by
  unfold l11_alive at h0
  refine pure_of_run Try.func31 rfl (by kernel_rfl) (by kernel_rfl) rfl ?_
  refine rk_seq ?_
  refine rk_region ?_
  refine ok_as rfl rfl ?_
  refine ok_nil ?_
  refine rk_seq ?_
  refine rk_region ?_
  refine ok_v (.d (.agg [.int .i64 0, .int .i64 3])) rfl rfl ?_
  refine ok_v (.d (.agg [.int .i64 5, .int .i64 6])) rfl rfl ?_
  refine ok_v (.d (.agg [.int .i64 2, .int .i64 5])) rfl rfl ?_
  refine ok_fzn (es := 2) ([({ Lo := 0, Hi := 3 } : api_Span), ({ Lo := 5, Hi := 6 } : api_Span), ({ Lo := 2, Hi := 5 } : api_Span)].map enc_api_Span) rfl rfl rfl rfl rfl ?_
  obtain ⟨r1, h2, h0⟩ := bindE h0
  refine ok_pc [.d (.sl 2 ([({ Lo := 0, Hi := 3 } : api_Span), ({ Lo := 5, Hi := 6 } : api_Span), ({ Lo := 2, Hi := 5 } : api_Span)].map enc_api_Span))] (span_Make_ok [({ Lo := 0, Hi := 3 } : api_Span), ({ Lo := 5, Hi := 6 } : api_Span), ({ Lo := 2, Hi := 5 } : api_Span)] r1 h2) rfl rfl rfl (.inl rfl) ?_
  refine ok_mv rfl rfl ?_
  refine ok_v (.d (.sl 2 (r1.1.map enc_api_Span))) rfl rfl ?_
  refine ok_v (.d (.int .i64 r1.2)) rfl rfl ?_
  refine ok_as rfl rfl ?_
  refine ok_as rfl rfl ?_
  refine ok_nil ?_
  refine rk_seq ?_
  refine rk_region ?_
  obtain ⟨r3, h4, h0⟩ := bindE h0
  refine ok_pc [] (l11_pair_ok r3 h4) rfl rfl rfl (.inl rfl) ?_
  obtain ⟨r5, h6, h0⟩ := bindE h0
  refine ok_pc [.d (.sl 2 (r3.map enc_api_Span))] (span_Length_ok r3 r5 h6) rfl rfl rfl (.inl rfl) ?_
  refine ok_mv rfl rfl ?_
  refine ok_v (.d (.int .i64 r5.1)) rfl rfl ?_
  refine ok_v (.d (.int .i64 r5.2)) rfl rfl ?_
  refine ok_as rfl rfl ?_
  refine ok_as rfl rfl ?_
  refine ok_nil ?_
  refine rk_seq ?_
  refine rk_region ?_
  obtain ⟨r7, h8, h0⟩ := bindE h0
  refine ok_pc [] (l11_pair_ok r7 h8) rfl rfl rfl (.inl rfl) ?_
  obtain ⟨r9, h10, h0⟩ := bindE h0
  refine ok_pc [.d (.sl 2 (r7.map enc_api_Span))] (span_Gaps_ok r7 r9 h10) rfl rfl rfl (.inl rfl) ?_
  refine ok_mv rfl rfl ?_
  refine ok_v (.d (.sl 2 (r9.1.map enc_api_Span))) rfl rfl ?_
  refine ok_v (.d (.int .i64 r9.2)) rfl rfl ?_
  refine ok_as rfl rfl ?_
  refine ok_as rfl rfl ?_
  refine ok_nil ?_
  refine rk_seq ?_
  refine rk_region ?_
  obtain ⟨r11, h12, h0⟩ := bindE h0
  refine ok_pc [] (l11_pair_ok r11 h12) rfl rfl rfl (.inl rfl) ?_
  refine ok_v (.d (.agg [.int .i64 1, .int .i64 5])) rfl rfl ?_
  refine ok_fzn (es := 2) ([({ Lo := 1, Hi := 5 } : api_Span)].map enc_api_Span) rfl rfl rfl rfl rfl ?_
  obtain ⟨r13, h14, h0⟩ := bindE h0
  refine ok_pc [.d (.sl 2 (r11.map enc_api_Span)), .d (.sl 2 ([({ Lo := 1, Hi := 5 } : api_Span)].map enc_api_Span))] (span_Minus_ok r11 [({ Lo := 1, Hi := 5 } : api_Span)] r13 h14) rfl rfl rfl (.inl rfl) ?_
  refine ok_mv rfl rfl ?_
  refine ok_v (.d (.sl 2 (r13.1.map enc_api_Span))) rfl rfl ?_
  refine ok_v (.d (.int .i64 r13.2)) rfl rfl ?_
  refine ok_as rfl rfl ?_
  refine ok_as rfl rfl ?_
  refine ok_nil ?_
  refine rk_seq ?_
  refine rk_region ?_
  obtain ⟨r15, h16, h0⟩ := bindE h0
  refine ok_pc [] (l11_pair_ok r15 h16) rfl rfl rfl (.inl rfl) ?_
  obtain ⟨r17, h18, h0⟩ := bindE h0
  refine ok_pc [.d (.sl 2 (r15.map enc_api_Span)), .d (.int .i64 3)] (span_Near_ok r15 3 r17 h18) rfl rfl rfl (.inl rfl) ?_
  refine ok_mv rfl rfl ?_
  refine ok_v (.d (.int .i64 r17.1)) rfl rfl ?_
  refine ok_v (.d (.int .i64 r17.2)) rfl rfl ?_
  refine ok_as rfl rfl ?_
  refine ok_as rfl rfl ?_
  refine ok_nil ?_
  refine rk_seq ?_
  refine rk_region ?_
  refine ok_mv rfl rfl ?_
  refine ok_v (.d (.bool (r1.2 == 0))) rfl rfl ?_
  obtain ⟨c19, h20, h0⟩ := bindE h0
  refine ok_cutQ 4 (fun A st => ∃ (j21 j22 j23 : V), st = A [(47, .d (.bool c19)), (46, j23), (45, j22), (44, j21)]) ?_ ?_
  · refine ok_mvB rfl rfl h20 (fun h20 => ?_) (fun h20 => ?_)
    · refine ok_mv rfl rfl ?_
      refine ok_v (.d (.bool (r5.2 == 0))) rfl rfl ?_
      refine ok_v (.d (.bool (r5.2 == 0))) rfl rfl ?_
      refine ok_nil ?_
      obtain rfl := someE h20
      exact ⟨_, _, _, rfl⟩
    · refine ok_sg rfl ?_
      refine ok_sg rfl ?_
      refine ok_v (.d (.bool false)) rfl rfl ?_
      refine ok_nil ?_
      obtain rfl := someE h20
      exact ⟨_, _, _, rfl⟩
  · rintro _ ⟨j21, j22, j23, rfl⟩
    obtain ⟨c24, h25, h0⟩ := bindE h0
    refine ok_cutQ 4 (fun A st => ∃ (j26 j27 j28 : V), st = A [(51, .d (.bool c24)), (50, j28), (49, j27), (48, j26)]) ?_ ?_
    · refine ok_mvB rfl rfl h25 (fun h25 => ?_) (fun h25 => ?_)
      · refine ok_mv rfl rfl ?_
        refine ok_v (.d (.bool (r9.2 == 0))) rfl rfl ?_
        refine ok_v (.d (.bool (r9.2 == 0))) rfl rfl ?_
        refine ok_nil ?_
        obtain rfl := someE h25
        exact ⟨_, _, _, rfl⟩
      · refine ok_sg rfl ?_
        refine ok_sg rfl ?_
        refine ok_v (.d (.bool false)) rfl rfl ?_
        refine ok_nil ?_
        obtain rfl := someE h25
        exact ⟨_, _, _, rfl⟩
    · rintro _ ⟨j26, j27, j28, rfl⟩
      obtain ⟨c29, h30, h0⟩ := bindE h0
      refine ok_cutQ 4 (fun A st => ∃ (j31 j32 j33 : V), st = A [(55, .d (.bool c29)), (54, j33), (53, j32), (52, j31)]) ?_ ?_
      · refine ok_mvB rfl rfl h30 (fun h30 => ?_) (fun h30 => ?_)
        · refine ok_mv rfl rfl ?_
          refine ok_v (.d (.bool (r13.2 == 0))) rfl rfl ?_
          refine ok_v (.d (.bool (r13.2 == 0))) rfl rfl ?_
          refine ok_nil ?_
          obtain rfl := someE h30
          exact ⟨_, _, _, rfl⟩
        · refine ok_sg rfl ?_
          refine ok_sg rfl ?_
          refine ok_v (.d (.bool false)) rfl rfl ?_
          refine ok_nil ?_
          obtain rfl := someE h30
          exact ⟨_, _, _, rfl⟩
      · rintro _ ⟨j31, j32, j33, rfl⟩
        obtain ⟨c34, h35, h0⟩ := bindE h0
        refine ok_cutQ 4 (fun A st => ∃ (j36 j37 j38 : V), st = A [(59, .d (.bool c34)), (58, j38), (57, j37), (56, j36)]) ?_ ?_
        · refine ok_mvB rfl rfl h35 (fun h35 => ?_) (fun h35 => ?_)
          · refine ok_mv rfl rfl ?_
            refine ok_v (.d (.bool (r17.2 == 0))) rfl rfl ?_
            refine ok_v (.d (.bool (r17.2 == 0))) rfl rfl ?_
            refine ok_nil ?_
            obtain rfl := someE h35
            exact ⟨_, _, _, rfl⟩
          · refine ok_sg rfl ?_
            refine ok_sg rfl ?_
            refine ok_v (.d (.bool false)) rfl rfl ?_
            refine ok_nil ?_
            obtain rfl := someE h35
            exact ⟨_, _, _, rfl⟩
        · rintro _ ⟨j36, j37, j38, rfl⟩
          obtain ⟨c39, h40, h0⟩ := bindE h0
          refine ok_cutQ 4 (fun A st => ∃ (j41 j42 j43 : V), st = A [(63, .d (.bool c39)), (62, j43), (61, j42), (60, j41)]) ?_ ?_
          · refine ok_mvB rfl rfl h40 (fun h40 => ?_) (fun h40 => ?_)
            · refine ok_mv rfl rfl ?_
              refine ok_v (.d (.bool (r5.1 == 5))) rfl rfl ?_
              refine ok_v (.d (.bool (r5.1 == 5))) rfl rfl ?_
              refine ok_nil ?_
              obtain rfl := someE h40
              exact ⟨_, _, _, rfl⟩
            · refine ok_sg rfl ?_
              refine ok_sg rfl ?_
              refine ok_v (.d (.bool false)) rfl rfl ?_
              refine ok_nil ?_
              obtain rfl := someE h40
              exact ⟨_, _, _, rfl⟩
          · rintro _ ⟨j41, j42, j43, rfl⟩
            obtain ⟨c44, h45, h0⟩ := bindE h0
            refine ok_cutQ 4 (fun A st => ∃ (j46 j47 j48 : V), st = A [(67, .d (.bool c44)), (66, j48), (65, j47), (64, j46)]) ?_ ?_
            · refine ok_mvB rfl rfl h45 (fun h45 => ?_) (fun h45 => ?_)
              · refine ok_mv rfl rfl ?_
                refine ok_v (.d (.bool (r17.1 == 1))) rfl rfl ?_
                refine ok_v (.d (.bool (r17.1 == 1))) rfl rfl ?_
                refine ok_nil ?_
                obtain rfl := someE h45
                exact ⟨_, _, _, rfl⟩
              · refine ok_sg rfl ?_
                refine ok_sg rfl ?_
                refine ok_v (.d (.bool false)) rfl rfl ?_
                refine ok_nil ?_
                obtain rfl := someE h45
                exact ⟨_, _, _, rfl⟩
            · rintro _ ⟨j46, j47, j48, rfl⟩
              obtain ⟨c53, h54, h0⟩ := bindE h0
              refine ok_cutQ 4 (fun A st => ∃ (j55 j56 j57 : V), st = A [(71, .d (.bool c53)), (70, j57), (69, j56), (68, j55)]) ?_ ?_
              · refine ok_mvB rfl rfl h54 (fun h54 => ?_) (fun h54 => ?_)
                · obtain ⟨r58, h59, h54⟩ := bindE h54
                  refine ok_pc [] (l11_pair_ok r58 h59) rfl rfl rfl (.inl rfl) ?_
                  obtain ⟨r60, h61, h54⟩ := bindE h54
                  refine ok_pc [.d (.sl 2 (r58.map enc_api_Span)), .d (.int .i64 6)] (span_Has_ok r58 6 r60 h61) rfl rfl rfl (.inl rfl) ?_
                  refine ok_v (.d (.bool r60)) rfl rfl ?_
                  refine ok_nil ?_
                  obtain rfl := someE h54
                  exact ⟨_, _, _, rfl⟩
                · refine ok_sg rfl ?_
                  refine ok_sg rfl ?_
                  refine ok_v (.d (.bool false)) rfl rfl ?_
                  refine ok_nil ?_
                  obtain rfl := someE h54
                  exact ⟨_, _, _, rfl⟩
              · rintro _ ⟨j55, j56, j57, rfl⟩
                obtain ⟨c66, h67, h0⟩ := bindE h0
                refine ok_cutQ 5 (fun A st => ∃ (j68 j69 j70 j71 : V), st = A [(76, .d (.bool c66)), (75, j71), (74, j70), (73, j69), (72, j68)]) ?_ ?_
                · refine ok_mvB rfl rfl h67 (fun h67 => ?_) (fun h67 => ?_)
                  · obtain ⟨r72, h73, h67⟩ := bindE h67
                    refine ok_pc [] (l11_pair_ok r72 h73) rfl rfl rfl (.inl rfl) ?_
                    obtain ⟨r74, h75, h67⟩ := bindE h67
                    refine ok_pc [.d (.sl 2 (r72.map enc_api_Span)), .d (.int .i64 7)] (span_Has_ok r72 7 r74 h75) rfl rfl rfl (.inl rfl) ?_
                    refine ok_v (.d (.bool (!r74))) rfl rfl ?_
                    refine ok_v (.d (.bool (!r74))) rfl rfl ?_
                    refine ok_nil ?_
                    obtain rfl := someE h67
                    exact ⟨_, _, _, _, rfl⟩
                  · refine ok_sg rfl ?_
                    refine ok_sg rfl ?_
                    refine ok_sg rfl ?_
                    refine ok_v (.d (.bool false)) rfl rfl ?_
                    refine ok_nil ?_
                    obtain rfl := someE h67
                    exact ⟨_, _, _, _, rfl⟩
                · rintro _ ⟨j68, j69, j70, j71, rfl⟩
                  refine ok_as rfl rfl ?_
                  refine ok_nil ?_
                  refine rk_seq ?_
                  refine rk_region ?_
                  refine ok_mv rfl rfl ?_
                  refine ok_mvB rfl rfl h0 (fun h0 => ?_) (fun h0 => ?_)
                  · refine ok_mv rfl rfl ?_
                    refine ok_v (.d (.agg [.int .i64 0, .int .i64 6])) rfl rfl ?_
                    refine ok_new (.hs 2 2 0 [({ Lo := 0, Hi := 6 } : api_Span)].length) (.dat 2 ([({ Lo := 0, Hi := 6 } : api_Span)].map enc_api_Span)) rfl rfl ?_
                    obtain ⟨r78, h79, h0⟩ := bindE h0
                    refine ok_pc [.d (.sl 2 (r1.1.map enc_api_Span)), .hs 2 2 0 [({ Lo := 0, Hi := 6 } : api_Span)].length] (r11_Same_ok r1.1 [({ Lo := 0, Hi := 6 } : api_Span)] r78 h79) rfl rfl (af_cons rfl (af_cons (td_hs rfl rfl) rfl)) (.inr rfl) ?_
                    refine ok_v (.d (.bool r78)) rfl rfl ?_
                    refine ok_mvB rfl rfl h0 (fun h0 => ?_) (fun h0 => ?_)
                    · refine ok_mv rfl rfl ?_
                      refine ok_v (.d (.agg [.int .i64 2, .int .i64 4])) rfl rfl ?_
                      refine ok_new (.hs 3 2 0 [({ Lo := 2, Hi := 4 } : api_Span)].length) (.dat 2 ([({ Lo := 2, Hi := 4 } : api_Span)].map enc_api_Span)) rfl rfl ?_
                      obtain ⟨r82, h83, h0⟩ := bindE h0
                      refine ok_pc [.d (.sl 2 (r9.1.map enc_api_Span)), .hs 3 2 0 [({ Lo := 2, Hi := 4 } : api_Span)].length] (r11_Same_ok r9.1 [({ Lo := 2, Hi := 4 } : api_Span)] r82 h83) rfl rfl (af_cons rfl (af_cons (td_hs rfl rfl) rfl)) (.inr rfl) ?_
                      refine ok_v (.d (.bool r82)) rfl rfl ?_
                      refine ok_mvB rfl rfl h0 (fun h0 => ?_) (fun h0 => ?_)
                      · refine ok_mv rfl rfl ?_
                        refine ok_v (.d (.agg [.int .i64 0, .int .i64 1])) rfl rfl ?_
                        refine ok_v (.d (.agg [.int .i64 5, .int .i64 7])) rfl rfl ?_
                        refine ok_new (.hs 4 2 0 [({ Lo := 0, Hi := 1 } : api_Span), ({ Lo := 5, Hi := 7 } : api_Span)].length) (.dat 2 ([({ Lo := 0, Hi := 1 } : api_Span), ({ Lo := 5, Hi := 7 } : api_Span)].map enc_api_Span)) rfl rfl ?_
                        obtain ⟨r86, h87, h0⟩ := bindE h0
                        refine ok_pc [.d (.sl 2 (r13.1.map enc_api_Span)), .hs 4 2 0 [({ Lo := 0, Hi := 1 } : api_Span), ({ Lo := 5, Hi := 7 } : api_Span)].length] (r11_Same_ok r13.1 [({ Lo := 0, Hi := 1 } : api_Span), ({ Lo := 5, Hi := 7 } : api_Span)] r86 h87) rfl rfl (af_cons rfl (af_cons (td_hs rfl rfl) rfl)) (.inr rfl) ?_
                        refine ok_v (.d (.bool r86)) rfl rfl ?_
                        refine ok_as rfl rfl ?_
                        refine ok_nil ?_
                        refine rk_ret ?_
                        obtain rfl := someE h0
                        exact finD (.inr rfl) (v := .d (.bool r86)) rfl rfl (.refl _)
                      · refine ok_sg rfl ?_
                        refine ok_sg rfl ?_
                        refine ok_sg rfl ?_
                        refine ok_sg rfl ?_
                        refine ok_sg rfl ?_
                        refine ok_v (.d (.bool false)) rfl rfl ?_
                        refine ok_as rfl rfl ?_
                        refine ok_nil ?_
                        refine rk_ret ?_
                        obtain rfl := someE h0
                        exact finD (.inr rfl) (v := .d (.bool false)) rfl rfl (.refl _)
                    · refine ok_sg rfl ?_
                      refine ok_sg rfl ?_
                      refine ok_sg rfl ?_
                      refine ok_sg rfl ?_
                      refine ok_v (.d (.bool false)) rfl rfl ?_
                      refine ok_mv rfl rfl ?_
                      refine ok_sg rfl ?_
                      refine ok_sg rfl ?_
                      refine ok_sg rfl ?_
                      refine ok_sg rfl ?_
                      refine ok_sg rfl ?_
                      refine ok_v (.d (.bool false)) rfl rfl ?_
                      refine ok_as rfl rfl ?_
                      refine ok_nil ?_
                      refine rk_ret ?_
                      obtain rfl := someE h0
                      exact finD (.inr rfl) (v := .d (.bool false)) rfl rfl (.refl _)
                  · refine ok_sg rfl ?_
                    refine ok_sg rfl ?_
                    refine ok_sg rfl ?_
                    refine ok_sg rfl ?_
                    refine ok_v (.d (.bool false)) rfl rfl ?_
                    refine ok_mv rfl rfl ?_
                    refine ok_sg rfl ?_
                    refine ok_sg rfl ?_
                    refine ok_sg rfl ?_
                    refine ok_sg rfl ?_
                    refine ok_v (.d (.bool false)) rfl rfl ?_
                    refine ok_mv rfl rfl ?_
                    refine ok_sg rfl ?_
                    refine ok_sg rfl ?_
                    refine ok_sg rfl ?_
                    refine ok_sg rfl ?_
                    refine ok_sg rfl ?_
                    refine ok_v (.d (.bool false)) rfl rfl ?_
                    refine ok_as rfl rfl ?_
                    refine ok_nil ?_
                    refine rk_ret ?_
                    obtain rfl := someE h0
                    exact finD (.inr rfl) (v := .d (.bool false)) rfl rfl (.refl _)

theorem r11_Valid_ok (p0 : api_Span) (r : Bool) (h0 : r11_Valid p0 = some r) : Pure Try.prog tab 36 [.agg [.int .i64 p0.Lo, .int .i64 p0.Hi]] (.bool r) := by
  unfold r11_Valid at h0
  refine pure_of_run Try.func36 rfl (by kernel_rfl) (by kernel_rfl) rfl ?_
  refine rk_seq ?_
  refine rk_region ?_
  refine ok_new (.ref 0 2 0 0) (.dat 2 [[.int .i64 p0.Lo, .int .i64 p0.Hi]]) rfl rfl ?_
  refine ok_as rfl rfl ?_
  refine ok_nil ?_
  refine rk_seq ?_
  refine rk_region ?_
  refine ok_v (.ref 0 2 0 0) rfl rfl ?_
  refine ok_v (.d (.int .i64 p0.Lo)) rfl rfl ?_
  refine ok_v (.ref 0 2 0 1) rfl rfl ?_
  refine ok_v (.d (.int .i64 p0.Hi)) rfl rfl ?_
  refine ok_v (.d (.bool (decide (p0.Lo < p0.Hi)))) rfl rfl ?_
  obtain ⟨c1, h2, h0⟩ := bindE h0
  refine ok_cutQ 5 (fun A st => ∃ (j3 j4 j5 j6 : V), st = A [(12, .d (.bool c1)), (11, j6), (10, j5), (9, j4), (8, j3)]) ?_ ?_
  · refine ok_mvB rfl rfl h2 (fun h2 => ?_) (fun h2 => ?_)
    · refine ok_v (.ref 0 2 0 0) rfl rfl ?_
      refine ok_v (.d (.int .i64 p0.Lo)) rfl rfl ?_
      refine ok_v (.d (.bool (decide (p0.Lo ≥ (-1000000))))) rfl rfl ?_
      refine ok_v (.d (.bool (decide (p0.Lo ≥ (-1000000))))) rfl rfl ?_
      refine ok_nil ?_
      obtain rfl := someE h2
      exact ⟨_, _, _, _, rfl⟩
    · refine ok_sg rfl ?_
      refine ok_sg rfl ?_
      refine ok_sg rfl ?_
      refine ok_v (.d (.bool false)) rfl rfl ?_
      refine ok_nil ?_
      obtain rfl := someE h2
      exact ⟨_, _, _, _, rfl⟩
  · rintro _ ⟨j3, j4, j5, j6, rfl⟩
    obtain ⟨c7, h8, h0⟩ := bindE h0
    refine ok_cutQ 5 (fun A st => ∃ (j9 j10 j11 j12 : V), st = A [(17, .d (.bool c7)), (16, j12), (15, j11), (14, j10), (13, j9)]) ?_ ?_
    · refine ok_mvB rfl rfl h8 (fun h8 => ?_) (fun h8 => ?_)
      · refine ok_v (.ref 0 2 0 1) rfl rfl ?_
        refine ok_v (.d (.int .i64 p0.Hi)) rfl rfl ?_
        refine ok_v (.d (.bool (decide (p0.Hi ≤ 1000000)))) rfl rfl ?_
        refine ok_v (.d (.bool (decide (p0.Hi ≤ 1000000)))) rfl rfl ?_
        refine ok_nil ?_
        obtain rfl := someE h8
        exact ⟨_, _, _, _, rfl⟩
      · refine ok_sg rfl ?_
        refine ok_sg rfl ?_
        refine ok_sg rfl ?_
        refine ok_v (.d (.bool false)) rfl rfl ?_
        refine ok_nil ?_
        obtain rfl := someE h8
        exact ⟨_, _, _, _, rfl⟩
    · rintro _ ⟨j9, j10, j11, j12, rfl⟩
      refine ok_as rfl rfl ?_
      refine ok_nil ?_
      refine rk_ret ?_
      obtain rfl := someE h0
      exact finD (.inr rfl) (v := .d (.bool c7)) rfl rfl (.refl _)

theorem r11_Check_ok (p0 : List api_Span) (r : Int) (h0 : r11_Check p0 = some r) : Pure Try.prog tab 28 [.sl 2 (p0.map enc_api_Span)] (.int .i64 r) := by
  unfold r11_Check at h0
  refine pure_of_run Try.func28 rfl (by kernel_rfl) (by kernel_rfl) rfl ?_
  refine rk_seq ?_
  refine rk_region ?_
  refine ok_as rfl rfl ?_
  refine ok_nil ?_
  refine rk_seq ?_
  refine rk_seq ?_
  refine rk_region ?_
  refine ok_mv rfl rfl ?_
  refine ok_ln rfl rfl rfl rfl ?_
  refine ok_v (.d (.bool (decide ((p0.length : Int) > 400)))) rfl rfl ?_
  refine ok_nil ?_
  refine rk_condH rfl h0 (fun _ h0 => ?_) (fun _ h0 => ?_)
  · refine rk_seq ?_
    refine rk_region ?_
    refine ok_as rfl rfl ?_
    refine ok_nil ?_
    refine rk_ret ?_
    obtain rfl := someE h0
    exact finD (.inr rfl) (v := .d (.int .i64 4)) rfl rfl (.refl _)
  · refine rk_skip ?_
    refine rk_seq ?_
    refine rk_seq ?_
    refine rk_region ?_
    refine ok_as rfl rfl ?_
    refine ok_nil ?_
    obtain ⟨m280, h281, h0⟩ := bindE h0
    refine rk_blockcut (fun b282 => .inl b282 = m280) (fun (b282 : Unit) => ⟨[], [], 0⟩) (by simp) ?_ ?_
    · refine rk_loopF (r11_Check_L1 p0) (fun (a279 : Int) => ⟨[(0, .d (.sl 2 (p0.map enc_api_Span))), (3, .d (.int .i64 a279))], [], 0⟩) 0 m280 h281 (wkE [] [] [] rfl ⟨⟨_, rfl, .d (.refl _)⟩, ⟨_, rfl, .d (.refl _)⟩, trivial⟩ trivial) ?_
      intro a279 y277 h278
      unfold r11_Check_L1 at h278
      refine rk_seq ?_
      refine rk_seq ?_
      refine rk_region ?_
      refine ok_mv rfl rfl ?_
      refine ok_mv rfl rfl ?_
      refine ok_ln rfl rfl rfl rfl ?_
      refine ok_v (.d (.bool (decide (a279 < (p0.length : Int))))) rfl rfl ?_
      refine ok_nil ?_
      refine rk_condH rfl h278 (fun _ h278 => ?_) (fun _ h278 => ?_)
      · refine rk_skip ?_
        refine rk_seq ?_
        refine rk_block ?_
        refine rk_seq ?_
        refine rk_regionD (by kernel_rfl) ?_
        refine ok_mv rfl rfl ?_
        refine ok_mv rfl rfl ?_
        obtain ⟨v352, h353, h278⟩ := bindE h278
        refine ok_ix (enc := enc_api_Span) h353 rfl rfl rfl rfl rfl rfl ?_
        refine ok_v (.d (.agg [.int .i64 v352.Lo, .int .i64 v352.Hi])) rfl rfl ?_
        obtain ⟨r354, h355, h278⟩ := bindE h278
        refine ok_pc [.d (.agg [.int .i64 v352.Lo, .int .i64 v352.Hi])] (r11_Valid_ok v352 r354 h355) rfl rfl rfl (.inl rfl) ?_
        refine ok_v (.d (.bool (!r354))) rfl rfl ?_
        obtain ⟨c379, h380, h278⟩ := bindE h278
        refine ok_cutQ 18 (fun A st => ∃ (j381 j382 j383 j384 j385 j386 j387 j388 j389 j390 j391 j392 j393 j394 j395 j396 j397 : V), st = A [(36, .d (.bool c379)), (35, j397), (34, j396), (33, j395), (32, j394), (31, j393), (30, j392), (29, j391), (28, j390), (27, j389), (26, j388), (25, j387), (24, j386), (23, j385), (22, j384), (21, j383), (20, j382), (19, j381)]) ?_ ?_
        · refine ok_mvB rfl rfl h380 (fun h380 => ?_) (fun h380 => ?_)
          · refine ok_sg rfl ?_
            refine ok_sg rfl ?_
            refine ok_sg rfl ?_
            refine ok_sg rfl ?_
            refine ok_sg rfl ?_
            refine ok_sg rfl ?_
            refine ok_sg rfl ?_
            refine ok_sg rfl ?_
            refine ok_sg rfl ?_
            refine ok_sg rfl ?_
            refine ok_sg rfl ?_
            refine ok_sg rfl ?_
            refine ok_sg rfl ?_
            refine ok_sg rfl ?_
            refine ok_sg rfl ?_
            refine ok_sg rfl ?_
            refine ok_v (.d (.bool true)) rfl rfl ?_
            refine ok_nil ?_
            obtain rfl := someE h380
            exact ⟨_, _, _, _, _, _, _, _, _, _, _, _, _, _, _, _, _, rfl⟩
          · refine ok_mv rfl rfl ?_
            refine ok_v (.d (.bool (decide (a279 > 0)))) rfl rfl ?_
            obtain ⟨c402, h403, h380⟩ := bindE h380
            refine ok_cutQ 14 (fun A st => ∃ (j404 j405 j406 j407 j408 j409 j410 j411 j412 j413 j414 j415 j416 : V), st = A [(35, .d (.bool c402)), (34, j416), (33, j415), (32, j414), (31, j413), (30, j412), (29, j411), (28, j410), (27, j409), (26, j408), (25, j407), (24, j406), (23, j405), (22, j404)]) ?_ ?_
            · refine ok_mvB rfl rfl h403 (fun h403 => ?_) (fun h403 => ?_)
              · refine ok_mv rfl rfl ?_
                refine ok_mv rfl rfl ?_
                refine ok_v (.d (.int .i64 (w64 (a279 - 1)))) rfl rfl ?_
                obtain ⟨v417, h418, h403⟩ := bindE h403
                refine ok_ix (enc := enc_api_Span) h418 rfl rfl rfl rfl rfl rfl ?_
                refine ok_v (.dref [.int .i64 v417.Lo, .int .i64 v417.Hi] 1) rfl rfl ?_
                refine ok_v (.d (.int .i64 v417.Hi)) rfl rfl ?_
                refine ok_mv rfl rfl ?_
                refine ok_mv rfl rfl ?_
                obtain ⟨v419, h420, h403⟩ := bindE h403
                refine ok_ix (enc := enc_api_Span) h420 rfl rfl rfl rfl rfl rfl ?_
                refine ok_v (.dref [.int .i64 v419.Lo, .int .i64 v419.Hi] 0) rfl rfl ?_
                refine ok_v (.d (.int .i64 v419.Lo)) rfl rfl ?_
                refine ok_v (.d (.bool (decide (v417.Hi ≥ v419.Lo)))) rfl rfl ?_
                refine ok_v (.d (.bool (decide (v417.Hi ≥ v419.Lo)))) rfl rfl ?_
                refine ok_nil ?_
                obtain rfl := someE h403
                exact ⟨_, _, _, _, _, _, _, _, _, _, _, _, _, rfl⟩
              · refine ok_sg rfl ?_
                refine ok_sg rfl ?_
                refine ok_sg rfl ?_
                refine ok_sg rfl ?_
                refine ok_sg rfl ?_
                refine ok_sg rfl ?_
                refine ok_sg rfl ?_
                refine ok_sg rfl ?_
                refine ok_sg rfl ?_
                refine ok_sg rfl ?_
                refine ok_sg rfl ?_
                refine ok_sg rfl ?_
                refine ok_v (.d (.bool false)) rfl rfl ?_
                refine ok_nil ?_
                obtain rfl := someE h403
                exact ⟨_, _, _, _, _, _, _, _, _, _, _, _, _, rfl⟩
            · rintro _ ⟨j404, j405, j406, j407, j408, j409, j410, j411, j412, j413, j414, j415, j416, rfl⟩
              refine ok_v (.d (.bool c402)) rfl rfl ?_
              refine ok_nil ?_
              obtain rfl := someE h380
              exact ⟨_, _, _, _, _, _, _, _, _, _, _, _, _, _, _, _, _, rfl⟩
        · rintro _ ⟨j381, j382, j383, j384, j385, j386, j387, j388, j389, j390, j391, j392, j393, j394, j395, j396, j397, rfl⟩
          refine ok_nil ?_
          refine rk_condH rfl h278 (fun _ h278 => ?_) (fun _ h278 => ?_)
          · refine rk_seq ?_
            refine rk_region ?_
            refine ok_as rfl rfl ?_
            refine ok_nil ?_
            refine rk_ret ?_
            refine ⟨_, (Option.some.inj h278).symm, fun hm => ?_⟩
            subst hm
            obtain rfl := someE h0
            exact finD (.inr rfl) (v := .d (.int .i64 8)) rfl rfl (.refl _)
          · refine rk_skip ?_
            refine rk_nil ?_
            refine blk_nor ?_
            refine rk_region ?_
            refine ok_mv rfl rfl ?_
            refine ok_v (.d (.int .i64 (w64 (a279 + 1)))) rfl rfl ?_
            refine ok_as rfl rfl ?_
            refine ok_nil ?_
            refine rk_nil ?_
            exact ⟨_, (Option.some.inj h278).symm, wkE [] [] [] rfl ⟨⟨_, rfl, .d (.refl _)⟩, ⟨_, rfl, .d (.refl _)⟩, trivial⟩ trivial⟩
      · refine rk_exit ?_
        refine ⟨_, (Option.some.inj h278).symm, fun hm => ?_⟩
        subst hm
        exact ⟨_, rfl, wkE [] [] [] rfl trivial trivial⟩
    · intro b282 hb
      subst hb
      refine rk_seq ?_
      refine rk_region ?_
      refine ok_as rfl rfl ?_
      refine ok_nil ?_
      refine rk_ret ?_
      obtain rfl := someE h0
      exact finD (.inr rfl) (v := .d (.int .i64 0)) rfl rfl (.refl _)

theorem l11_fit_ok (p0 : List api_Span) (p1 : List api_Span) (r : Bool) (h0 : l11_fit p0 p1 = some r) : Pure Try.prog tab 32 [.sl 2 (p0.map enc_api_Span), .sl 2 (p1.map enc_api_Span)] (.bool r) := by
  unfold l11_fit at h0
  refine pure_of_run Try.func32 rfl (by kernel_rfl) (by kernel_rfl) rfl ?_
  refine rk_seq ?_
  refine rk_region ?_
  refine ok_as rfl rfl ?_
  refine ok_nil ?_
  refine rk_seq ?_
  refine rk_region ?_
  refine ok_mv rfl rfl ?_
  obtain ⟨r1, h2, h0⟩ := bindE h0
  refine ok_pc [.d (.sl 2 (p0.map enc_api_Span))] (r11_Check_ok p0 r1 h2) rfl rfl rfl (.inl rfl) ?_
  refine ok_v (.d (.bool (r1 == 0))) rfl rfl ?_
  obtain ⟨c5, h6, h0⟩ := bindE h0
  refine ok_cutQ 5 (fun A st => ∃ (j7 j8 j9 j10 : V), st = A [(12, .d (.bool c5)), (11, j10), (10, j9), (9, j8), (8, j7)]) ?_ ?_
  · refine ok_mvB rfl rfl h6 (fun h6 => ?_) (fun h6 => ?_)
    · refine ok_mv rfl rfl ?_
      obtain ⟨r11, h12, h6⟩ := bindE h6
      refine ok_pc [.d (.sl 2 (p1.map enc_api_Span))] (r11_Check_ok p1 r11 h12) rfl rfl rfl (.inl rfl) ?_
      refine ok_v (.d (.bool (r11 == 0))) rfl rfl ?_
      refine ok_v (.d (.bool (r11 == 0))) rfl rfl ?_
      refine ok_nil ?_
      obtain rfl := someE h6
      exact ⟨_, _, _, _, rfl⟩
    · refine ok_sg rfl ?_
      refine ok_sg rfl ?_
      refine ok_sg rfl ?_
      refine ok_v (.d (.bool false)) rfl rfl ?_
      refine ok_nil ?_
      obtain rfl := someE h6
      exact ⟨_, _, _, _, rfl⟩
  · rintro _ ⟨j7, j8, j9, j10, rfl⟩
    refine ok_as rfl rfl ?_
    refine ok_nil ?_
    refine rk_ret ?_
    obtain rfl := someE h0
    exact finD (.inr rfl) (v := .d (.bool c5)) rfl rfl (.refl _)

theorem span_Union_1_ok (p0 : Bool) (p1 : Bool) (r : Bool) (h0 : span_Union_1 p0 p1 = some r) : Pure Try.prog tab 38 [.bool p0, .bool p1] (.bool r) := by
  unfold span_Union_1 at h0
  refine pure_of_run Try.func38 rfl (by kernel_rfl) (by kernel_rfl) rfl ?_
  refine rk_seq ?_
  refine rk_region ?_
  refine ok_as rfl rfl ?_
  refine ok_nil ?_
  refine rk_seq ?_
  refine rk_region ?_
  refine ok_mv rfl rfl ?_
  obtain ⟨c1, h2, h0⟩ := bindE h0
  refine ok_cutQ 3 (fun A st => ∃ (j3 j4 : V), st = A [(8, .d (.bool c1)), (7, j4), (6, j3)]) ?_ ?_
  · refine ok_mvB rfl rfl h2 (fun h2 => ?_) (fun h2 => ?_)
    · refine ok_sg rfl ?_
      refine ok_v (.d (.bool true)) rfl rfl ?_
      refine ok_nil ?_
      obtain rfl := someE h2
      exact ⟨_, _, rfl⟩
    · refine ok_mv rfl rfl ?_
      refine ok_v (.d (.bool p1)) rfl rfl ?_
      refine ok_nil ?_
      obtain rfl := someE h2
      exact ⟨_, _, rfl⟩
  · rintro _ ⟨j3, j4, rfl⟩
    refine ok_as rfl rfl ?_
    refine ok_nil ?_
    refine rk_ret ?_
    obtain rfl := someE h0
    exact finD (.inr rfl) (v := .d (.bool c1)) rfl rfl (.refl _)

theorem span_Union_ok (p0 : List api_Span) (p1 : List api_Span) (r : List api_Span × Int) (h0 : span_Union p0 p1 = some r) : Pure Try.prog tab 18 [.sl 2 (p0.map enc_api_Span), .sl 2 (p1.map enc_api_Span)] (.tup [.sl 2 (r.1.map enc_api_Span), .int .i64 r.2]) := by
  unfold span_Union at h0
  refine pure_of_run Try.func18 rfl (by kernel_rfl) (by kernel_rfl) rfl ?_
  refine rk_seq ?_
  refine rk_region ?_
  refine ok_as rfl rfl ?_
  refine ok_as rfl rfl ?_
  refine ok_nil ?_
  refine rk_seq ?_
  refine rk_region ?_
  refine ok_mv rfl rfl ?_
  refine ok_mv rfl rfl ?_
  obtain ⟨r1, h2, h0⟩ := bindE h0
  refine ok_pc [.d (.sl 2 (p0.map enc_api_Span)), .d (.sl 2 (p1.map enc_api_Span)), .d (.fn 38 [])] (span_checked_ok p0 p1 (fun x0 x1 => span_Union_1 x0 x1) 38 [] (fun x0 x1 r hr => span_Union_1_ok x0 x1 r hr) r1 h2) rfl rfl rfl (.inl rfl) ?_
  refine ok_v (.d (.sl 2 (r1.1.map enc_api_Span))) rfl rfl ?_
  refine ok_v (.d (.int .i64 r1.2)) rfl rfl ?_
  refine ok_as rfl rfl ?_
  refine ok_as rfl rfl ?_
  refine ok_nil ?_
  refine rk_ret ?_
  obtain rfl := someE h0
  exact finD (.inr rfl) (v := .d (.tup [.sl 2 (r1.1.map enc_api_Span), .int .i64 r1.2])) rfl rfl (.refl _)

theorem span_Meet_1_ok (p0 : Bool) (p1 : Bool) (r : Bool) (h0 : span_Meet_1 p0 p1 = some r) : Pure Try.prog tab 39 [.bool p0, .bool p1] (.bool r) := by
  unfold span_Meet_1 at h0
  refine pure_of_run Try.func39 rfl (by kernel_rfl) (by kernel_rfl) rfl ?_
  refine rk_seq ?_
  refine rk_region ?_
  refine ok_as rfl rfl ?_
  refine ok_nil ?_
  refine rk_seq ?_
  refine rk_region ?_
  refine ok_mv rfl rfl ?_
  obtain ⟨c1, h2, h0⟩ := bindE h0
  refine ok_cutQ 3 (fun A st => ∃ (j3 j4 : V), st = A [(8, .d (.bool c1)), (7, j4), (6, j3)]) ?_ ?_
  · refine ok_mvB rfl rfl h2 (fun h2 => ?_) (fun h2 => ?_)
    · refine ok_mv rfl rfl ?_
      refine ok_v (.d (.bool p1)) rfl rfl ?_
      refine ok_nil ?_
      obtain rfl := someE h2
      exact ⟨_, _, rfl⟩
    · refine ok_sg rfl ?_
      refine ok_v (.d (.bool false)) rfl rfl ?_
      refine ok_nil ?_
      obtain rfl := someE h2
      exact ⟨_, _, rfl⟩
  · rintro _ ⟨j3, j4, rfl⟩
    refine ok_as rfl rfl ?_
    refine ok_nil ?_
    refine rk_ret ?_
    obtain rfl := someE h0
    exact finD (.inr rfl) (v := .d (.bool c1)) rfl rfl (.refl _)

theorem span_Meet_ok (p0 : List api_Span) (p1 : List api_Span) (r : List api_Span × Int) (h0 : span_Meet p0 p1 = some r) : Pure Try.prog tab 20 [.sl 2 (p0.map enc_api_Span), .sl 2 (p1.map enc_api_Span)] (.tup [.sl 2 (r.1.map enc_api_Span), .int .i64 r.2]) := by
  unfold span_Meet at h0
  refine pure_of_run Try.func20 rfl (by kernel_rfl) (by kernel_rfl) rfl ?_
  refine rk_seq ?_
  refine rk_region ?_
  refine ok_as rfl rfl ?_
  refine ok_as rfl rfl ?_
  refine ok_nil ?_
  refine rk_seq ?_
  refine rk_region ?_
  refine ok_mv rfl rfl ?_
  refine ok_mv rfl rfl ?_
  obtain ⟨r1, h2, h0⟩ := bindE h0
  refine ok_pc [.d (.sl 2 (p0.map enc_api_Span)), .d (.sl 2 (p1.map enc_api_Span)), .d (.fn 39 [])] (span_checked_ok p0 p1 (fun x0 x1 => span_Meet_1 x0 x1) 39 [] (fun x0 x1 r hr => span_Meet_1_ok x0 x1 r hr) r1 h2) rfl rfl rfl (.inl rfl) ?_
  refine ok_v (.d (.sl 2 (r1.1.map enc_api_Span))) rfl rfl ?_
  refine ok_v (.d (.int .i64 r1.2)) rfl rfl ?_
  refine ok_as rfl rfl ?_
  refine ok_as rfl rfl ?_
  refine ok_nil ?_
  refine rk_ret ?_
  obtain rfl := someE h0
  exact finD (.inr rfl) (v := .d (.tup [.sl 2 (r1.1.map enc_api_Span), .int .i64 r1.2])) rfl rfl (.refl _)

theorem l11_SpanLengths_ok (p0 : List api_Span) (p1 : List api_Span) (r : Bool) (h0 : l11_SpanLengths p0 p1 = some r) : Pure Try.prog tab 8 [.sl 2 (p0.map enc_api_Span), .sl 2 (p1.map enc_api_Span)] (.bool r) := by
  unfold l11_SpanLengths at h0
  refine pure_of_run Try.func8 rfl (by kernel_rfl) (by kernel_rfl) rfl ?_
  refine rk_seq ?_
  refine rk_region ?_
  refine ok_as rfl rfl ?_
  refine ok_nil ?_
  refine rk_seq ?_
  refine rk_region ?_
  obtain ⟨r1, h2, h0⟩ := bindE h0
  refine ok_pc [] (l11_alive_ok r1 h2) rfl rfl rfl (.inl rfl) ?_
  refine ok_as rfl rfl ?_
  refine ok_nil ?_
  refine rk_seq ?_
  refine rk_seq ?_
  refine rk_region ?_
  refine ok_mv rfl rfl ?_
  refine ok_mv rfl rfl ?_
  obtain ⟨r3, h4, h0⟩ := bindE h0
  refine ok_pc [.d (.sl 2 (p0.map enc_api_Span)), .d (.sl 2 (p1.map enc_api_Span))] (l11_fit_ok p0 p1 r3 h4) rfl rfl rfl (.inl rfl) ?_
  refine ok_v (.d (.bool (!r3))) rfl rfl ?_
  obtain ⟨c5, h6, h0⟩ := bindE h0
  refine ok_cutQ 4 (fun A st => ∃ (j7 j8 j9 : V), st = A [(32, .d (.bool c5)), (31, j9), (30, j8), (29, j7)]) ?_ ?_
  · refine ok_mvB rfl rfl h6 (fun h6 => ?_) (fun h6 => ?_)
    · refine ok_sg rfl ?_
      refine ok_sg rfl ?_
      refine ok_v (.d (.bool true)) rfl rfl ?_
      refine ok_nil ?_
      obtain rfl := someE h6
      exact ⟨_, _, _, rfl⟩
    · refine ok_mv rfl rfl ?_
      refine ok_v (.d (.bool (!r1))) rfl rfl ?_
      refine ok_v (.d (.bool (!r1))) rfl rfl ?_
      refine ok_nil ?_
      obtain rfl := someE h6
      exact ⟨_, _, _, rfl⟩
  · rintro _ ⟨j7, j8, j9, rfl⟩
    refine ok_nil ?_
    refine rk_condH rfl h0 (fun _ h0 => ?_) (fun _ h0 => ?_)
    · refine rk_seq ?_
      refine rk_region ?_
      refine ok_mv rfl rfl ?_
      refine ok_as rfl rfl ?_
      refine ok_nil ?_
      refine rk_ret ?_
      obtain rfl := someE h0
      exact finD (.inr rfl) (v := .d (.bool r1)) rfl rfl (.refl _)
    · refine rk_skip ?_
      refine rk_seq ?_
      refine rk_region ?_
      refine ok_mv rfl rfl ?_
      refine ok_mv rfl rfl ?_
      obtain ⟨r10, h11, h0⟩ := bindE h0
      refine ok_pc [.d (.sl 2 (p0.map enc_api_Span)), .d (.sl 2 (p1.map enc_api_Span))] (span_Union_ok p0 p1 r10 h11) rfl rfl rfl (.inl rfl) ?_
      refine ok_mv rfl rfl ?_
      refine ok_v (.d (.sl 2 (r10.1.map enc_api_Span))) rfl rfl ?_
      refine ok_v (.d (.int .i64 r10.2)) rfl rfl ?_
      refine ok_as rfl rfl ?_
      refine ok_as rfl rfl ?_
      refine ok_nil ?_
      refine rk_seq ?_
      refine rk_region ?_
      refine ok_mv rfl rfl ?_
      refine ok_mv rfl rfl ?_
      obtain ⟨r12, h13, h0⟩ := bindE h0
      refine ok_pc [.d (.sl 2 (p0.map enc_api_Span)), .d (.sl 2 (p1.map enc_api_Span))] (span_Meet_ok p0 p1 r12 h13) rfl rfl rfl (.inl rfl) ?_
      refine ok_mv rfl rfl ?_
      refine ok_v (.d (.sl 2 (r12.1.map enc_api_Span))) rfl rfl ?_
      refine ok_v (.d (.int .i64 r12.2)) rfl rfl ?_
      refine ok_as rfl rfl ?_
      refine ok_as rfl rfl ?_
      refine ok_nil ?_
      refine rk_seq ?_
      refine rk_region ?_
      refine ok_mv rfl rfl ?_
      refine ok_mv rfl rfl ?_
      obtain ⟨r14, h15, h0⟩ := bindE h0
      refine ok_pc [.d (.sl 2 (p0.map enc_api_Span)), .d (.sl 2 (p1.map enc_api_Span))] (span_Minus_ok p0 p1 r14 h15) rfl rfl rfl (.inl rfl) ?_
      refine ok_mv rfl rfl ?_
      refine ok_v (.d (.sl 2 (r14.1.map enc_api_Span))) rfl rfl ?_
      refine ok_v (.d (.int .i64 r14.2)) rfl rfl ?_
      refine ok_as rfl rfl ?_
      refine ok_as rfl rfl ?_
      refine ok_nil ?_
      refine rk_seq ?_
      refine rk_seq ?_
      refine rk_region ?_
      refine ok_mv rfl rfl ?_
      refine ok_v (.d (.bool (r10.2 != 0))) rfl rfl ?_
      obtain ⟨c16, h17, h0⟩ := bindE h0
      refine ok_cutQ 4 (fun A st => ∃ (j18 j19 j20 : V), st = A [(57, .d (.bool c16)), (56, j20), (55, j19), (54, j18)]) ?_ ?_
      · refine ok_mvB rfl rfl h17 (fun h17 => ?_) (fun h17 => ?_)
        · refine ok_sg rfl ?_
          refine ok_sg rfl ?_
          refine ok_v (.d (.bool true)) rfl rfl ?_
          refine ok_nil ?_
          obtain rfl := someE h17
          exact ⟨_, _, _, rfl⟩
        · refine ok_mv rfl rfl ?_
          refine ok_v (.d (.bool (r12.2 != 0))) rfl rfl ?_
          refine ok_v (.d (.bool (r12.2 != 0))) rfl rfl ?_
          refine ok_nil ?_
          obtain rfl := someE h17
          exact ⟨_, _, _, rfl⟩
      · rintro _ ⟨j18, j19, j20, rfl⟩
        obtain ⟨c21, h22, h0⟩ := bindE h0
        refine ok_cutQ 4 (fun A st => ∃ (j23 j24 j25 : V), st = A [(61, .d (.bool c21)), (60, j25), (59, j24), (58, j23)]) ?_ ?_
        · refine ok_mvB rfl rfl h22 (fun h22 => ?_) (fun h22 => ?_)
          · refine ok_sg rfl ?_
            refine ok_sg rfl ?_
            refine ok_v (.d (.bool true)) rfl rfl ?_
            refine ok_nil ?_
            obtain rfl := someE h22
            exact ⟨_, _, _, rfl⟩
          · refine ok_mv rfl rfl ?_
            refine ok_v (.d (.bool (r14.2 != 0))) rfl rfl ?_
            refine ok_v (.d (.bool (r14.2 != 0))) rfl rfl ?_
            refine ok_nil ?_
            obtain rfl := someE h22
            exact ⟨_, _, _, rfl⟩
        · rintro _ ⟨j23, j24, j25, rfl⟩
          refine ok_nil ?_
          refine rk_condH rfl h0 (fun _ h0 => ?_) (fun _ h0 => ?_)
          · refine rk_seq ?_
            refine rk_region ?_
            refine ok_mv rfl rfl ?_
            obtain ⟨c69, h70, h0⟩ := bindE h0
            refine ok_cutQ 12 (fun A st => ∃ (j71 j72 j73 j74 j75 j76 j77 j78 j79 j80 j81 : V), st = A [(74, .d (.bool c69)), (73, j81), (72, j80), (71, j79), (70, j78), (69, j77), (68, j76), (67, j75), (66, j74), (65, j73), (64, j72), (63, j71)]) ?_ ?_
            · refine ok_mvB rfl rfl h70 (fun h70 => ?_) (fun h70 => ?_)
              · refine ok_mv rfl rfl ?_
                refine ok_v (.d (.bool (r10.2 == 4))) rfl rfl ?_
                obtain ⟨c82, h83, h70⟩ := bindE h70
                refine ok_cutQ 4 (fun A st => ∃ (j84 j85 j86 : V), st = A [(69, .d (.bool c82)), (68, j86), (67, j85), (66, j84)]) ?_ ?_
                · refine ok_mvB rfl rfl h83 (fun h83 => ?_) (fun h83 => ?_)
                  · refine ok_sg rfl ?_
                    refine ok_sg rfl ?_
                    refine ok_v (.d (.bool true)) rfl rfl ?_
                    refine ok_nil ?_
                    obtain rfl := someE h83
                    exact ⟨_, _, _, rfl⟩
                  · refine ok_mv rfl rfl ?_
                    refine ok_v (.d (.bool (r12.2 == 4))) rfl rfl ?_
                    refine ok_v (.d (.bool (r12.2 == 4))) rfl rfl ?_
                    refine ok_nil ?_
                    obtain rfl := someE h83
                    exact ⟨_, _, _, rfl⟩
                · rintro _ ⟨j84, j85, j86, rfl⟩
                  obtain ⟨c87, h88, h70⟩ := bindE h70
                  refine ok_cutQ 4 (fun A st => ∃ (j89 j90 j91 : V), st = A [(73, .d (.bool c87)), (72, j91), (71, j90), (70, j89)]) ?_ ?_
                  · refine ok_mvB rfl rfl h88 (fun h88 => ?_) (fun h88 => ?_)
                    · refine ok_sg rfl ?_
                      refine ok_sg rfl ?_
                      refine ok_v (.d (.bool true)) rfl rfl ?_
                      refine ok_nil ?_
                      obtain rfl := someE h88
                      exact ⟨_, _, _, rfl⟩
                    · refine ok_mv rfl rfl ?_
                      refine ok_v (.d (.bool (r14.2 == 4))) rfl rfl ?_
                      refine ok_v (.d (.bool (r14.2 == 4))) rfl rfl ?_
                      refine ok_nil ?_
                      obtain rfl := someE h88
                      exact ⟨_, _, _, rfl⟩
                  · rintro _ ⟨j89, j90, j91, rfl⟩
                    refine ok_v (.d (.bool c87)) rfl rfl ?_
                    refine ok_nil ?_
                    obtain rfl := someE h70
                    exact ⟨_, _, _, _, _, _, _, _, _, _, _, rfl⟩
              · refine ok_sg rfl ?_
                refine ok_sg rfl ?_
                refine ok_sg rfl ?_
                refine ok_sg rfl ?_
                refine ok_sg rfl ?_
                refine ok_sg rfl ?_
                refine ok_sg rfl ?_
                refine ok_sg rfl ?_
                refine ok_sg rfl ?_
                refine ok_sg rfl ?_
                refine ok_v (.d (.bool false)) rfl rfl ?_
                refine ok_nil ?_
                obtain rfl := someE h70
                exact ⟨_, _, _, _, _, _, _, _, _, _, _, rfl⟩
            · rintro _ ⟨j71, j72, j73, j74, j75, j76, j77, j78, j79, j80, j81, rfl⟩
              refine ok_as rfl rfl ?_
              refine ok_nil ?_
              refine rk_ret ?_
              obtain rfl := someE h0
              exact finD (.inr rfl) (v := .d (.bool c69)) rfl rfl (.refl _)
          · refine rk_skip ?_
            refine rk_seq ?_
            refine rk_region ?_
            refine ok_mv rfl rfl ?_
            obtain ⟨r92, h93, h0⟩ := bindE h0
            refine ok_pc [.d (.sl 2 (r10.1.map enc_api_Span))] (span_Length_ok r10.1 r92 h93) rfl rfl rfl (.inl rfl) ?_
            refine ok_mv rfl rfl ?_
            refine ok_v (.d (.int .i64 r92.1)) rfl rfl ?_
            refine ok_v (.d (.int .i64 r92.2)) rfl rfl ?_
            refine ok_as rfl rfl ?_
            refine ok_as rfl rfl ?_
            refine ok_nil ?_
            refine rk_seq ?_
            refine rk_region ?_
            refine ok_mv rfl rfl ?_
            obtain ⟨r94, h95, h0⟩ := bindE h0
            refine ok_pc [.d (.sl 2 (r12.1.map enc_api_Span))] (span_Length_ok r12.1 r94 h95) rfl rfl rfl (.inl rfl) ?_
            refine ok_mv rfl rfl ?_
            refine ok_v (.d (.int .i64 r94.1)) rfl rfl ?_
            refine ok_v (.d (.int .i64 r94.2)) rfl rfl ?_
            refine ok_as rfl rfl ?_
            refine ok_as rfl rfl ?_
            refine ok_nil ?_
            refine rk_seq ?_
            refine rk_region ?_
            refine ok_mv rfl rfl ?_
            obtain ⟨r96, h97, h0⟩ := bindE h0
            refine ok_pc [.d (.sl 2 (p0.map enc_api_Span))] (span_Length_ok p0 r96 h97) rfl rfl rfl (.inl rfl) ?_
            refine ok_mv rfl rfl ?_
            refine ok_v (.d (.int .i64 r96.1)) rfl rfl ?_
            refine ok_v (.d (.int .i64 r96.2)) rfl rfl ?_
            refine ok_as rfl rfl ?_
            refine ok_as rfl rfl ?_
            refine ok_nil ?_
            refine rk_seq ?_
            refine rk_region ?_
            refine ok_mv rfl rfl ?_
            obtain ⟨r98, h99, h0⟩ := bindE h0
            refine ok_pc [.d (.sl 2 (p1.map enc_api_Span))] (span_Length_ok p1 r98 h99) rfl rfl rfl (.inl rfl) ?_
            refine ok_mv rfl rfl ?_
            refine ok_v (.d (.int .i64 r98.1)) rfl rfl ?_
            refine ok_v (.d (.int .i64 r98.2)) rfl rfl ?_
            refine ok_as rfl rfl ?_
            refine ok_as rfl rfl ?_
            refine ok_nil ?_
            refine rk_seq ?_
            refine rk_region ?_
            refine ok_mv rfl rfl ?_
            refine ok_mv rfl rfl ?_
            obtain ⟨r100, h101, h0⟩ := bindE h0
            refine ok_pc [.d (.sl 2 (r12.1.map enc_api_Span)), .d (.sl 2 (r14.1.map enc_api_Span))] (span_Union_ok r12.1 r14.1 r100 h101) rfl rfl rfl (.inl rfl) ?_
            refine ok_mv rfl rfl ?_
            refine ok_v (.d (.sl 2 (r100.1.map enc_api_Span))) rfl rfl ?_
            refine ok_v (.d (.int .i64 r100.2)) rfl rfl ?_
            refine ok_as rfl rfl ?_
            refine ok_as rfl rfl ?_
            refine ok_nil ?_
            refine rk_seq ?_
            refine rk_region ?_
            refine ok_mv rfl rfl ?_
            refine ok_mv rfl rfl ?_
            obtain ⟨r102, h103, h0⟩ := bindE h0
            refine ok_pc [.d (.sl 2 (r12.1.map enc_api_Span)), .d (.sl 2 (r14.1.map enc_api_Span))] (span_Meet_ok r12.1 r14.1 r102 h103) rfl rfl rfl (.inl rfl) ?_
            refine ok_mv rfl rfl ?_
            refine ok_v (.d (.sl 2 (r102.1.map enc_api_Span))) rfl rfl ?_
            refine ok_v (.d (.int .i64 r102.2)) rfl rfl ?_
            refine ok_as rfl rfl ?_
            refine ok_as rfl rfl ?_
            refine ok_nil ?_
            refine rk_seq ?_
            refine rk_region ?_
            refine ok_mv rfl rfl ?_
            obtain ⟨c104, h105, h0⟩ := bindE h0
            refine ok_cutQ 4 (fun A st => ∃ (j106 j107 j108 : V), st = A [(111, .d (.bool c104)), (110, j108), (109, j107), (108, j106)]) ?_ ?_
            · refine ok_mvB rfl rfl h105 (fun h105 => ?_) (fun h105 => ?_)
              · refine ok_mv rfl rfl ?_
                refine ok_v (.d (.bool (r92.2 == 0))) rfl rfl ?_
                refine ok_v (.d (.bool (r92.2 == 0))) rfl rfl ?_
                refine ok_nil ?_
                obtain rfl := someE h105
                exact ⟨_, _, _, rfl⟩
              · refine ok_sg rfl ?_
                refine ok_sg rfl ?_
                refine ok_v (.d (.bool false)) rfl rfl ?_
                refine ok_nil ?_
                obtain rfl := someE h105
                exact ⟨_, _, _, rfl⟩
            · rintro _ ⟨j106, j107, j108, rfl⟩
              obtain ⟨c109, h110, h0⟩ := bindE h0
              refine ok_cutQ 4 (fun A st => ∃ (j111 j112 j113 : V), st = A [(115, .d (.bool c109)), (114, j113), (113, j112), (112, j111)]) ?_ ?_
              · refine ok_mvB rfl rfl h110 (fun h110 => ?_) (fun h110 => ?_)
                · refine ok_mv rfl rfl ?_
                  refine ok_v (.d (.bool (r94.2 == 0))) rfl rfl ?_
                  refine ok_v (.d (.bool (r94.2 == 0))) rfl rfl ?_
                  refine ok_nil ?_
                  obtain rfl := someE h110
                  exact ⟨_, _, _, rfl⟩
                · refine ok_sg rfl ?_
                  refine ok_sg rfl ?_
                  refine ok_v (.d (.bool false)) rfl rfl ?_
                  refine ok_nil ?_
                  obtain rfl := someE h110
                  exact ⟨_, _, _, rfl⟩
              · rintro _ ⟨j111, j112, j113, rfl⟩
                obtain ⟨c114, h115, h0⟩ := bindE h0
                refine ok_cutQ 4 (fun A st => ∃ (j116 j117 j118 : V), st = A [(119, .d (.bool c114)), (118, j118), (117, j117), (116, j116)]) ?_ ?_
                · refine ok_mvB rfl rfl h115 (fun h115 => ?_) (fun h115 => ?_)
                  · refine ok_mv rfl rfl ?_
                    refine ok_v (.d (.bool (r96.2 == 0))) rfl rfl ?_
                    refine ok_v (.d (.bool (r96.2 == 0))) rfl rfl ?_
                    refine ok_nil ?_
                    obtain rfl := someE h115
                    exact ⟨_, _, _, rfl⟩
                  · refine ok_sg rfl ?_
                    refine ok_sg rfl ?_
                    refine ok_v (.d (.bool false)) rfl rfl ?_
                    refine ok_nil ?_
                    obtain rfl := someE h115
                    exact ⟨_, _, _, rfl⟩
                · rintro _ ⟨j116, j117, j118, rfl⟩
                  obtain ⟨c119, h120, h0⟩ := bindE h0
                  refine ok_cutQ 4 (fun A st => ∃ (j121 j122 j123 : V), st = A [(123, .d (.bool c119)), (122, j123), (121, j122), (120, j121)]) ?_ ?_
                  · refine ok_mvB rfl rfl h120 (fun h120 => ?_) (fun h120 => ?_)
                    · refine ok_mv rfl rfl ?_
                      refine ok_v (.d (.bool (r98.2 == 0))) rfl rfl ?_
                      refine ok_v (.d (.bool (r98.2 == 0))) rfl rfl ?_
                      refine ok_nil ?_
                      obtain rfl := someE h120
                      exact ⟨_, _, _, rfl⟩
                    · refine ok_sg rfl ?_
                      refine ok_sg rfl ?_
                      refine ok_v (.d (.bool false)) rfl rfl ?_
                      refine ok_nil ?_
                      obtain rfl := someE h120
                      exact ⟨_, _, _, rfl⟩
                  · rintro _ ⟨j121, j122, j123, rfl⟩
                    obtain ⟨c124, h125, h0⟩ := bindE h0
                    refine ok_cutQ 9 (fun A st => ∃ (j126 j127 j128 j129 j130 j131 j132 j133 : V), st = A [(132, .d (.bool c124)), (131, j133), (130, j132), (129, j131), (128, j130), (127, j129), (126, j128), (125, j127), (124, j126)]) ?_ ?_
                    · refine ok_mvB rfl rfl h125 (fun h125 => ?_) (fun h125 => ?_)
                      · refine ok_mv rfl rfl ?_
                        refine ok_mv rfl rfl ?_
                        refine ok_v (.d (.int .i64 (w64 (r92.1 + r94.1)))) rfl rfl ?_
                        refine ok_mv rfl rfl ?_
                        refine ok_mv rfl rfl ?_
                        refine ok_v (.d (.int .i64 (w64 (r96.1 + r98.1)))) rfl rfl ?_
                        refine ok_v (.d (.bool ((w64 (r92.1 + r94.1)) == (w64 (r96.1 + r98.1))))) rfl rfl ?_
                        refine ok_v (.d (.bool ((w64 (r92.1 + r94.1)) == (w64 (r96.1 + r98.1))))) rfl rfl ?_
                        refine ok_nil ?_
                        obtain rfl := someE h125
                        exact ⟨_, _, _, _, _, _, _, _, rfl⟩
                      · refine ok_sg rfl ?_
                        refine ok_sg rfl ?_
                        refine ok_sg rfl ?_
                        refine ok_sg rfl ?_
                        refine ok_sg rfl ?_
                        refine ok_sg rfl ?_
                        refine ok_sg rfl ?_
                        refine ok_v (.d (.bool false)) rfl rfl ?_
                        refine ok_nil ?_
                        obtain rfl := someE h125
                        exact ⟨_, _, _, _, _, _, _, _, rfl⟩
                    · rintro _ ⟨j126, j127, j128, j129, j130, j131, j132, j133, rfl⟩
                      obtain ⟨c134, h135, h0⟩ := bindE h0
                      refine ok_cutQ 4 (fun A st => ∃ (j136 j137 j138 : V), st = A [(136, .d (.bool c134)), (135, j138), (134, j137), (133, j136)]) ?_ ?_
                      · refine ok_mvB rfl rfl h135 (fun h135 => ?_) (fun h135 => ?_)
                        · refine ok_mv rfl rfl ?_
                          refine ok_v (.d (.bool (r100.2 == 0))) rfl rfl ?_
                          refine ok_v (.d (.bool (r100.2 == 0))) rfl rfl ?_
                          refine ok_nil ?_
                          obtain rfl := someE h135
                          exact ⟨_, _, _, rfl⟩
                        · refine ok_sg rfl ?_
                          refine ok_sg rfl ?_
                          refine ok_v (.d (.bool false)) rfl rfl ?_
                          refine ok_nil ?_
                          obtain rfl := someE h135
                          exact ⟨_, _, _, rfl⟩
                      · rintro _ ⟨j136, j137, j138, rfl⟩
                        obtain ⟨c141, h142, h0⟩ := bindE h0
                        refine ok_cutQ 5 (fun A st => ∃ (j143 j144 j145 j146 : V), st = A [(141, .d (.bool c141)), (140, j146), (139, j145), (138, j144), (137, j143)]) ?_ ?_
                        · refine ok_mvB rfl rfl h142 (fun h142 => ?_) (fun h142 => ?_)
                          · refine ok_mv rfl rfl ?_
                            refine ok_mv rfl rfl ?_
                            obtain ⟨r147, h148, h142⟩ := bindE h142
                            refine ok_pc [.d (.sl 2 (r100.1.map enc_api_Span)), .d (.sl 2 (p0.map enc_api_Span))] (r11_Same_ok r100.1 p0 r147 h148) rfl rfl rfl (.inl rfl) ?_
                            refine ok_v (.d (.bool r147)) rfl rfl ?_
                            refine ok_nil ?_
                            obtain rfl := someE h142
                            exact ⟨_, _, _, _, rfl⟩
                          · refine ok_sg rfl ?_
                            refine ok_sg rfl ?_
                            refine ok_sg rfl ?_
                            refine ok_v (.d (.bool false)) rfl rfl ?_
                            refine ok_nil ?_
                            obtain rfl := someE h142
                            exact ⟨_, _, _, _, rfl⟩
                        · rintro _ ⟨j143, j144, j145, j146, rfl⟩
                          obtain ⟨c149, h150, h0⟩ := bindE h0
                          refine ok_cutQ 4 (fun A st => ∃ (j151 j152 j153 : V), st = A [(145, .d (.bool c149)), (144, j153), (143, j152), (142, j151)]) ?_ ?_
                          · refine ok_mvB rfl rfl h150 (fun h150 => ?_) (fun h150 => ?_)
                            · refine ok_mv rfl rfl ?_
                              refine ok_v (.d (.bool (r102.2 == 0))) rfl rfl ?_
                              refine ok_v (.d (.bool (r102.2 == 0))) rfl rfl ?_
                              refine ok_nil ?_
                              obtain rfl := someE h150
                              exact ⟨_, _, _, rfl⟩
                            · refine ok_sg rfl ?_
                              refine ok_sg rfl ?_
                              refine ok_v (.d (.bool false)) rfl rfl ?_
                              refine ok_nil ?_
                              obtain rfl := someE h150
                              exact ⟨_, _, _, rfl⟩
                          · rintro _ ⟨j151, j152, j153, rfl⟩
                            obtain ⟨c154, h155, h0⟩ := bindE h0
                            refine ok_cutQ 5 (fun A st => ∃ (j156 j157 j158 j159 : V), st = A [(150, .d (.bool c154)), (149, j159), (148, j158), (147, j157), (146, j156)]) ?_ ?_
                            · refine ok_mvB rfl rfl h155 (fun h155 => ?_) (fun h155 => ?_)
                              · refine ok_mv rfl rfl ?_
                                refine ok_ln rfl rfl rfl rfl ?_
                                refine ok_v (.d (.bool ((r102.1.length : Int) == 0))) rfl rfl ?_
                                refine ok_v (.d (.bool ((r102.1.length : Int) == 0))) rfl rfl ?_
                                refine ok_nil ?_
                                obtain rfl := someE h155
                                exact ⟨_, _, _, _, rfl⟩
                              · refine ok_sg rfl ?_
                                refine ok_sg rfl ?_
                                refine ok_sg rfl ?_
                                refine ok_v (.d (.bool false)) rfl rfl ?_
                                refine ok_nil ?_
                                obtain rfl := someE h155
                                exact ⟨_, _, _, _, rfl⟩
                            · rintro _ ⟨j156, j157, j158, j159, rfl⟩
                              refine ok_as rfl rfl ?_
                              refine ok_nil ?_
                              refine rk_ret ?_
                              obtain rfl := someE h0
                              exact finD (.inr rfl) (v := .d (.bool c154)) rfl rfl (.refl _)
end Go.Proofs.Ytcpogfjlehoabaa
