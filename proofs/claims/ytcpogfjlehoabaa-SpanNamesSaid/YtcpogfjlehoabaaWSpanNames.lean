/- THE WALKS, lifted by program: on. -/
import Derived.Test.YtcpogfjlehoabaaWSpanNamesa
namespace Go.Proofs.Ytcpogfjlehoabaa
open Go Go.Am Go.Sh
theorem span_Length_ok (p0 : List api_Span) (r : Int × Int) (h0 : span_Length p0 = some r) : Pure Try.prog tab 25 [.sl 2 (p0.map enc_api_Span)] (.tup [.int .i64 r.1, .int .i64 r.2]) := by
  unfold span_Length at h0
  refine pure_of_run Try.func25 rfl (by kernel_rfl) (by kernel_rfl) rfl ?_
  refine rk_seq ?_
  refine rk_region ?_
  refine ok_as rfl rfl ?_
  refine ok_as rfl rfl ?_
  refine ok_nil ?_
  refine rk_seq ?_
  refine rk_seq ?_
  refine rk_region ?_
  refine ok_mv rfl rfl ?_
  obtain ⟨r1, h2, h0⟩ := bindE h0
  refine ok_pc [.d (.sl 2 (p0.map enc_api_Span))] (span_Check_ok p0 r1 h2) rfl rfl rfl (.inl rfl) ?_
  refine ok_as rfl rfl ?_
  refine ok_nil ?_
  refine rk_seq ?_
  refine rk_region ?_
  refine ok_mv rfl rfl ?_
  refine ok_v (.d (.bool (r1 != 0))) rfl rfl ?_
  refine ok_nil ?_
  refine rk_condH rfl h0 (fun _ h0 => ?_) (fun _ h0 => ?_)
  · refine rk_seq ?_
    refine rk_region ?_
    refine ok_mv rfl rfl ?_
    refine ok_as rfl rfl ?_
    refine ok_as rfl rfl ?_
    refine ok_nil ?_
    refine rk_ret ?_
    obtain rfl := someE h0
    exact finD (.inr rfl) (v := .d (.tup [.int .i64 0, .int .i64 r1])) rfl rfl (.refl _)
  · refine rk_skip ?_
    refine rk_seq ?_
    refine rk_region ?_
    refine ok_as rfl rfl ?_
    refine ok_nil ?_
    refine rk_seq ?_
    refine rk_seq ?_
    refine rk_region ?_
    refine ok_mv rfl rfl ?_
    refine ok_ln rfl rfl rfl rfl ?_
    refine ok_mv rfl rfl ?_
    refine ok_nil ?_
    obtain ⟨m14, h15, h0⟩ := bindE h0
    refine rk_blockcut (fun b16 => b16 = m14) (fun (b16 : Int) => ⟨[(5, .d (.int .i64 b16))], [], 0⟩) (by simp) ?_ ?_
    · refine rk_loopF (span_Length_L1 p0) (fun (a13 : Int × Int) => ⟨[(5, .d (.int .i64 a13.1)), (13, .d (.sl 2 (p0.map enc_api_Span))), (14, .d (.int .i64 (p0.length : Int))), (15, .d (.int .i64 a13.2))], [], 0⟩) (0, 0) m14 h15 (wkE [] [] [] rfl ⟨⟨_, rfl, .d (.refl _)⟩, ⟨_, rfl, .d (.refl _)⟩, ⟨_, rfl, .d (.refl _)⟩, ⟨_, rfl, .d (.refl _)⟩, trivial⟩ trivial) ?_
      intro a13 y11 h12
      unfold span_Length_L1 at h12
      refine rk_seq ?_
      refine rk_region ?_
      refine ok_v (.d (.bool (decide (a13.2 < (p0.length : Int))))) rfl rfl ?_
      refine ok_nil ?_
      refine rk_seq ?_
      refine rk_condH rfl h12 (fun _ h12 => ?_) (fun _ h12 => ?_)
      · refine rk_skip ?_
        refine rk_seq ?_
        refine rk_block ?_
        refine rk_seq ?_
        refine rk_region ?_
        obtain ⟨v19, h20, h12⟩ := bindE h12
        refine ok_ix (enc := enc_api_Span) h20 rfl rfl rfl rfl rfl rfl ?_
        refine ok_v (.d (.agg [.int .i64 v19.Lo, .int .i64 v19.Hi])) rfl rfl ?_
        refine ok_alloc rfl rfl ?_
        refine ok_sto 0 (.dat 2 [[.int .i64 v19.Lo, .int .i64 v19.Hi]]) rfl rfl ?_
        refine ok_nil ?_
        refine rk_region ?_
        refine ok_mv rfl rfl ?_
        refine ok_v (.ref 0 2 0 1) rfl rfl ?_
        refine ok_v (.d (.int .i64 v19.Hi)) rfl rfl ?_
        refine ok_v (.ref 0 2 0 0) rfl rfl ?_
        refine ok_v (.d (.int .i64 v19.Lo)) rfl rfl ?_
        refine ok_v (.d (.int .i64 (w64 (v19.Hi - v19.Lo)))) rfl rfl ?_
        refine ok_v (.d (.int .i64 (w64 (a13.1 + (w64 (v19.Hi - v19.Lo)))))) rfl rfl ?_
        refine ok_as rfl rfl ?_
        refine ok_nil ?_
        refine rk_nil ?_
        refine blk_nor ?_
        refine rk_region ?_
        refine ok_v (.d (.int .i64 (w64 (a13.2 + 1)))) rfl rfl ?_
        refine ok_mv rfl rfl ?_
        refine ok_nil ?_
        refine rk_nil ?_
        exact ⟨_, (Option.some.inj h12).symm, wkE [] [] [] rfl ⟨⟨_, rfl, .d (.refl _)⟩, ⟨_, rfl, .d (.refl _)⟩, ⟨_, rfl, .d (.refl _)⟩, ⟨_, rfl, .d (.refl _)⟩, trivial⟩ trivial⟩
      · refine rk_exit ?_
        refine ⟨_, (Option.some.inj h12).symm, fun hm => ?_⟩
        subst hm
        exact ⟨_, rfl, wkE [] [] [] rfl ⟨⟨_, rfl, .d (.refl _)⟩, trivial⟩ trivial⟩
    · intro b16 hb
      subst hb
      refine rk_seq ?_
      refine rk_region ?_
      refine ok_mv rfl rfl ?_
      refine ok_as rfl rfl ?_
      refine ok_as rfl rfl ?_
      refine ok_nil ?_
      refine rk_ret ?_
      obtain rfl := someE h0
      exact finD (.inr rfl) (v := .d (.tup [.int .i64 b16, .int .i64 0])) rfl rfl (.refl _)

theorem span_Gaps_ok (p0 : List api_Span) (r : List api_Span × Int) (h0 : span_Gaps p0 = some r) : Pure Try.prog tab 11 [.sl 2 (p0.map enc_api_Span)] (.tup [.sl 2 (r.1.map enc_api_Span), .int .i64 r.2]) := by
  unfold span_Gaps at h0
  refine pure_of_run Try.func11 rfl (by kernel_rfl) (by kernel_rfl) rfl ?_
  refine rk_seq ?_
  refine rk_region ?_
  refine ok_as rfl rfl ?_
  refine ok_as rfl rfl ?_
  refine ok_nil ?_
  refine rk_seq ?_
  refine rk_seq ?_
  refine rk_region ?_
  refine ok_mv rfl rfl ?_
  obtain ⟨r1, h2, h0⟩ := bindE h0
  refine ok_pc [.d (.sl 2 (p0.map enc_api_Span))] (span_Check_ok p0 r1 h2) rfl rfl rfl (.inl rfl) ?_
  refine ok_as rfl rfl ?_
  refine ok_nil ?_
  refine rk_seq ?_
  refine rk_region ?_
  refine ok_mv rfl rfl ?_
  refine ok_v (.d (.bool (r1 != 0))) rfl rfl ?_
  refine ok_nil ?_
  refine rk_condH rfl h0 (fun _ h0 => ?_) (fun _ h0 => ?_)
  · refine rk_seq ?_
    refine rk_region ?_
    refine ok_mv rfl rfl ?_
    refine ok_as rfl rfl ?_
    refine ok_as rfl rfl ?_
    refine ok_nil ?_
    refine rk_ret ?_
    obtain rfl := someE h0
    exact finD (.inr rfl) (v := .d (.tup [.nilsl, .int .i64 r1])) rfl rfl (dle_tup (.cons (.nil _) (.cons (.refl _) .nil)))
  · refine rk_skip ?_
    refine rk_seq ?_
    refine rk_region ?_
    refine ok_as rfl rfl ?_
    refine ok_nil ?_
    refine rk_seq ?_
    refine rk_seq ?_
    refine rk_region ?_
    refine ok_as rfl rfl ?_
    refine ok_nil ?_
    obtain ⟨m30, h31, h0⟩ := bindE h0
    refine rk_blockcut (fun b32 => b32 = m30) (fun (b32 : List api_Span) => ⟨[(5, .hs 0 2 0 b32.length)], [(0, .dat 2 (b32.map enc_api_Span))], 1⟩) (by simp) ?_ ?_
    · refine rk_loopF (span_Gaps_L1 p0) (fun (a29 : Int × List api_Span) => ⟨[(0, .d (.sl 2 (p0.map enc_api_Span))), (5, .hs 0 2 0 a29.2.length), (6, .d (.int .i64 a29.1))], [(0, .dat 2 (a29.2.map enc_api_Span))], 1⟩) (1, []) m30 h31 (wkE [] [] [0] rfl ⟨⟨_, rfl, .d (.refl _)⟩, ⟨_, rfl, .nil (by decide) (ltd rfl)⟩, ⟨_, rfl, .d (.refl _)⟩, trivial⟩ ⟨⟨ltd rfl, .inl ⟨by decide, _, by decide, rfl⟩⟩, trivial⟩) ?_
      intro a29 y27 h28
      unfold span_Gaps_L1 at h28
      refine rk_seq ?_
      refine rk_seq ?_
      refine rk_region ?_
      refine ok_mv rfl rfl ?_
      refine ok_mv rfl rfl ?_
      refine ok_ln rfl rfl rfl rfl ?_
      refine ok_v (.d (.bool (decide (a29.1 < (p0.length : Int))))) rfl rfl ?_
      refine ok_nil ?_
      refine rk_condH rfl h28 (fun _ h28 => ?_) (fun _ h28 => ?_)
      · refine rk_skip ?_
        refine rk_seq ?_
        refine rk_block ?_
        refine rk_regionD (by kernel_rfl) ?_
        refine ok_mv rfl rfl ?_
        refine ok_mv rfl rfl ?_
        refine ok_mv rfl rfl ?_
        refine ok_v (.d (.int .i64 (w64 (a29.1 - 1)))) rfl rfl ?_
        obtain ⟨v39, h40, h28⟩ := bindE h28
        refine ok_ix (enc := enc_api_Span) h40 rfl rfl rfl rfl rfl rfl ?_
        refine ok_v (.dref [.int .i64 v39.Lo, .int .i64 v39.Hi] 1) rfl rfl ?_
        refine ok_v (.d (.int .i64 v39.Hi)) rfl rfl ?_
        refine ok_mv rfl rfl ?_
        refine ok_mv rfl rfl ?_
        obtain ⟨v41, h42, h28⟩ := bindE h28
        refine ok_ix (enc := enc_api_Span) h42 rfl rfl rfl rfl rfl rfl ?_
        refine ok_v (.dref [.int .i64 v41.Lo, .int .i64 v41.Hi] 0) rfl rfl ?_
        refine ok_v (.d (.int .i64 v41.Lo)) rfl rfl ?_
        refine ok_v (.d (.agg [.int .i64 v39.Hi, .int .i64 v41.Lo])) rfl rfl ?_
        refine ok_new (.hs 1 2 0 [({ Lo := v39.Hi, Hi := v41.Lo } : api_Span)].length) (.dat 2 ([({ Lo := v39.Hi, Hi := v41.Lo } : api_Span)].map enc_api_Span)) rfl rfl ?_
        obtain ⟨z43, h44, h28⟩ := bindE h28
        refine ok_ap (xs := a29.2) (ys := [({ Lo := v39.Hi, Hi := v41.Lo } : api_Span)]) (enc := enc_api_Span) (.hs 1 2 0 [({ Lo := v39.Hi, Hi := v41.Lo } : api_Span)].length) h44 rfl rfl rfl rfl rfl rfl rfl (conts_hs rfl rfl) rfl rfl rfl rfl ?_
        refine ok_as rfl rfl ?_
        refine ok_nil ?_
        refine rk_nil ?_
        refine blk_nor ?_
        refine rk_region ?_
        refine ok_mv rfl rfl ?_
        refine ok_v (.d (.int .i64 (w64 (a29.1 + 1)))) rfl rfl ?_
        refine ok_as rfl rfl ?_
        refine ok_nil ?_
        refine rk_nil ?_
        exact ⟨_, (Option.some.inj h28).symm, wkE [(0, 2)] [] [] rfl ⟨⟨_, rfl, .d (.refl _)⟩, ⟨_, rfl, .hs rfl (by decide) (ltd rfl)⟩, ⟨_, rfl, .d (.refl _)⟩, trivial⟩ ⟨⟨ltd rfl, .inr ⟨by decide, _, rfl, .dat _ _⟩⟩, trivial⟩⟩
      · refine rk_exit ?_
        refine ⟨_, (Option.some.inj h28).symm, fun hm => ?_⟩
        subst hm
        exact ⟨_, rfl, wkE [(0, 0)] [] [] rfl ⟨⟨_, rfl, .hs rfl (by decide) (ltd rfl)⟩, trivial⟩ ⟨⟨ltd rfl, .inr ⟨by decide, _, rfl, .dat _ _⟩⟩, trivial⟩⟩
    · intro b32 hb
      subst hb
      refine rk_seq ?_
      refine rk_region ?_
      refine ok_mv rfl rfl ?_
      refine ok_as rfl rfl ?_
      refine ok_as rfl rfl ?_
      refine ok_nil ?_
      refine rk_ret ?_
      obtain rfl := someE h0
      exact finD (.inr rfl) (v := .tup [.hs 0 2 0 b32.length, .d (.int .i64 0)]) rfl (td_tup (mm_cons (td_hs rfl rfl) (mm_cons rfl rfl))) (.refl _)

theorem span_Minus_1_ok (p0 : Bool) (p1 : Bool) (r : Bool) (h0 : span_Minus_1 p0 p1 = some r) : Pure Try.prog tab 40 [.bool p0, .bool p1] (.bool r) := by
  unfold span_Minus_1 at h0
  refine pure_of_run Try.func40 rfl (by kernel_rfl) (by kernel_rfl) rfl ?_
  refine rk_seq ?_
  refine rk_region ?_
  refine ok_as rfl rfl ?_
  refine ok_nil ?_
  refine rk_seq ?_
  refine rk_region ?_
  refine ok_mv rfl rfl ?_
  obtain ⟨c1, h2, h0⟩ := bindE h0
  refine ok_cutQ 4 (fun A st => ∃ (j3 j4 j5 : V), st = A [(9, .d (.bool c1)), (8, j5), (7, j4), (6, j3)]) ?_ ?_
  · refine ok_mvB rfl rfl h2 (fun h2 => ?_) (fun h2 => ?_)
    · refine ok_mv rfl rfl ?_
      refine ok_v (.d (.bool (!p1))) rfl rfl ?_
      refine ok_v (.d (.bool (!p1))) rfl rfl ?_
      refine ok_nil ?_
      obtain rfl := someE h2
      exact ⟨_, _, _, rfl⟩
    · refine ok_sg rfl ?_
      refine ok_sg rfl ?_
      refine ok_v (.d (.bool false)) rfl rfl ?_
      refine ok_nil ?_
      obtain rfl := someE h2
      exact ⟨_, _, _, rfl⟩
  · rintro _ ⟨j3, j4, j5, rfl⟩
    refine ok_as rfl rfl ?_
    refine ok_nil ?_
    refine rk_ret ?_
    obtain rfl := someE h0
    exact finD (.inr rfl) (v := .d (.bool c1)) rfl rfl (.refl _)

theorem span_Minus_ok (p0 : List api_Span) (p1 : List api_Span) (r : List api_Span × Int) (h0 : span_Minus p0 p1 = some r) : Pure Try.prog tab 21 [.sl 2 (p0.map enc_api_Span), .sl 2 (p1.map enc_api_Span)] (.tup [.sl 2 (r.1.map enc_api_Span), .int .i64 r.2]) := by
  unfold span_Minus at h0
  refine pure_of_run Try.func21 rfl (by kernel_rfl) (by kernel_rfl) rfl ?_
  refine rk_seq ?_
  refine rk_region ?_
  refine ok_as rfl rfl ?_
  refine ok_as rfl rfl ?_
  refine ok_nil ?_
  refine rk_seq ?_
  refine rk_region ?_
  refine ok_mv rfl rfl ?_
  refine ok_mv rfl rfl ?_
  obtain ⟨r1, h2, h0⟩ := bindE h0
  refine ok_pc [.d (.sl 2 (p0.map enc_api_Span)), .d (.sl 2 (p1.map enc_api_Span)), .d (.fn 40 [])] (span_checked_ok p0 p1 (fun x0 x1 => span_Minus_1 x0 x1) 40 [] (fun x0 x1 r hr => span_Minus_1_ok x0 x1 r hr) r1 h2) rfl rfl rfl (.inl rfl) ?_
  refine ok_v (.d (.sl 2 (r1.1.map enc_api_Span))) rfl rfl ?_
  refine ok_v (.d (.int .i64 r1.2)) rfl rfl ?_
  refine ok_as rfl rfl ?_
  refine ok_as rfl rfl ?_
  refine ok_nil ?_
  refine rk_ret ?_
  obtain rfl := someE h0
  exact finD (.inr rfl) (v := .d (.tup [.sl 2 (r1.1.map enc_api_Span), .int .i64 r1.2])) rfl rfl (.refl _)

theorem span_Has_1_ok (p0 : api_Span) (p1 : Int) (r : Bool) (h0 : span_Has_1 p0 p1 = some r) : Pure Try.prog tab 45 [.agg [.int .i64 p0.Lo, .int .i64 p0.Hi], .box [.int .i64 p1]] (.bool r) := by
  unfold span_Has_1 at h0
  refine pure_of_run Try.func45 rfl (by kernel_rfl) (by kernel_rfl) rfl ?_
  refine rk_seq ?_
  refine rk_region ?_
  refine ok_new (.ref 0 2 0 0) (.dat 2 [[.int .i64 p0.Lo, .int .i64 p0.Hi]]) rfl rfl ?_
  refine ok_as rfl rfl ?_
  refine ok_nil ?_
  refine rk_seq ?_
  refine rk_region ?_
  refine ok_v (.ref 0 2 0 0) rfl rfl ?_
  refine ok_v (.d (.int .i64 p0.Lo)) rfl rfl ?_
  refine ok_v (.d (.int .i64 p1)) rfl rfl ?_
  refine ok_v (.d (.bool (decide (p0.Lo ≤ p1)))) rfl rfl ?_
  obtain ⟨c1, h2, h0⟩ := bindE h0
  refine ok_cutQ 6 (fun A st => ∃ (j3 j4 j5 j6 j7 : V), st = A [(13, .d (.bool c1)), (12, j7), (11, j6), (10, j5), (9, j4), (8, j3)]) ?_ ?_
  · refine ok_mvB rfl rfl h2 (fun h2 => ?_) (fun h2 => ?_)
    · refine ok_v (.d (.int .i64 p1)) rfl rfl ?_
      refine ok_v (.ref 0 2 0 1) rfl rfl ?_
      refine ok_v (.d (.int .i64 p0.Hi)) rfl rfl ?_
      refine ok_v (.d (.bool (decide (p1 < p0.Hi)))) rfl rfl ?_
      refine ok_v (.d (.bool (decide (p1 < p0.Hi)))) rfl rfl ?_
      refine ok_nil ?_
      obtain rfl := someE h2
      exact ⟨_, _, _, _, _, rfl⟩
    · refine ok_sg rfl ?_
      refine ok_sg rfl ?_
      refine ok_sg rfl ?_
      refine ok_sg rfl ?_
      refine ok_v (.d (.bool false)) rfl rfl ?_
      refine ok_nil ?_
      obtain rfl := someE h2
      exact ⟨_, _, _, _, _, rfl⟩
  · rintro _ ⟨j3, j4, j5, j6, j7, rfl⟩
    refine ok_as rfl rfl ?_
    refine ok_nil ?_
    refine rk_ret ?_
    obtain rfl := someE h0
    exact finD (.inr rfl) (v := .d (.bool c1)) rfl rfl (.refl _)

theorem span_Has_ok (p0 : List api_Span) (p1 : Int) (r : Bool) (h0 : span_Has p0 p1 = some r) : Pure Try.prog tab 29 [.sl 2 (p0.map enc_api_Span), .int .i64 p1] (.bool r) := by
  unfold span_Has at h0
  refine pure_of_run Try.func29 rfl (by kernel_rfl) (by kernel_rfl) rfl ?_
  refine rk_seq ?_
  refine rk_region ?_
  refine ok_new (.ref 0 1 0 0) (.dat 1 [[.int .i64 p1]]) rfl rfl ?_
  refine ok_as rfl rfl ?_
  refine ok_nil ?_
  refine rk_seq ?_
  refine rk_region ?_
  refine ok_mv rfl rfl ?_
  refine ok_v (.fn 45 [.ref 0 1 0 0]) rfl rfl ?_
  obtain ⟨r1, h2, h0⟩ := bindE h0
  refine ok_pc [.d (.sl 2 (p0.map enc_api_Span)), .fn 45 [.ref 0 1 0 0]] (slices_ContainsFunc_api_Span_api_Span_ok p0 (fun x0 => span_Has_1 x0 p1) 45 [.box [.int .i64 p1]] (fun x0 r hr => span_Has_1_ok x0 p1 r hr) r1 h2) rfl rfl (af_cons rfl (af_cons (td_fn (mm_cons rfl rfl)) rfl)) (.inr rfl) ?_
  refine ok_as rfl rfl ?_
  refine ok_nil ?_
  refine rk_ret ?_
  obtain rfl := someE h0
  exact finD (.inr rfl) (v := .d (.bool r1)) rfl rfl (.refl _)

theorem r11_Same_ok (p0 : List api_Span) (p1 : List api_Span) (r : Bool) (h0 : r11_Same p0 p1 = some r) : Pure Try.prog tab 17 [.sl 2 (p0.map enc_api_Span), .sl 2 (p1.map enc_api_Span)] (.bool r) := by
  unfold r11_Same at h0
  refine pure_of_run Try.func17 rfl (by kernel_rfl) (by kernel_rfl) rfl ?_
  refine rk_seq ?_
  refine rk_region ?_
  refine ok_as rfl rfl ?_
  refine ok_nil ?_
  refine rk_seq ?_
  refine rk_seq ?_
  refine rk_region ?_
  refine ok_mv rfl rfl ?_
  refine ok_ln rfl rfl rfl rfl ?_
  refine ok_mv rfl rfl ?_
  refine ok_ln rfl rfl rfl rfl ?_
  refine ok_v (.d (.bool ((p0.length : Int) != (p1.length : Int)))) rfl rfl ?_
  refine ok_nil ?_
  refine rk_condH rfl h0 (fun _ h0 => ?_) (fun _ h0 => ?_)
  · refine rk_seq ?_
    refine rk_region ?_
    refine ok_as rfl rfl ?_
    refine ok_nil ?_
    refine rk_ret ?_
    obtain rfl := someE h0
    exact finD (.inr rfl) (v := .d (.bool false)) rfl rfl (.refl _)
  · refine rk_skip ?_
    refine rk_seq ?_
    refine rk_seq ?_
    refine rk_region ?_
    refine ok_as rfl rfl ?_
    refine ok_nil ?_
    obtain ⟨m20, h21, h0⟩ := bindE h0
    refine rk_blockcut (fun b22 => .inl b22 = m20) (fun (b22 : Unit) => ⟨[], [], 0⟩) (by simp) ?_ ?_
    · refine rk_loopF (r11_Same_L1 p0 p1) (fun (a19 : Int) => ⟨[(0, .d (.sl 2 (p0.map enc_api_Span))), (1, .d (.sl 2 (p1.map enc_api_Span))), (5, .d (.int .i64 a19))], [], 0⟩) 0 m20 h21 (wkE [] [] [] rfl ⟨⟨_, rfl, .d (.refl _)⟩, ⟨_, rfl, .d (.refl _)⟩, ⟨_, rfl, .d (.refl _)⟩, trivial⟩ trivial) ?_
      intro a19 y17 h18
      unfold r11_Same_L1 at h18
      refine rk_seq ?_
      refine rk_seq ?_
      refine rk_region ?_
      refine ok_mv rfl rfl ?_
      refine ok_mv rfl rfl ?_
      refine ok_ln rfl rfl rfl rfl ?_
      refine ok_v (.d (.bool (decide (a19 < (p0.length : Int))))) rfl rfl ?_
      refine ok_nil ?_
      refine rk_condH rfl h18 (fun _ h18 => ?_) (fun _ h18 => ?_)
      · refine rk_skip ?_
        refine rk_seq ?_
        refine rk_block ?_
        refine rk_seq ?_
        refine rk_regionD (by kernel_rfl) ?_
        refine ok_mv rfl rfl ?_
        refine ok_mv rfl rfl ?_
        obtain ⟨v27, h28, h18⟩ := bindE h18
        refine ok_ix (enc := enc_api_Span) h28 rfl rfl rfl rfl rfl rfl ?_
        refine ok_v (.d (.agg [.int .i64 v27.Lo, .int .i64 v27.Hi])) rfl rfl ?_
        refine ok_mv rfl rfl ?_
        refine ok_mv rfl rfl ?_
        obtain ⟨v29, h30, h18⟩ := bindE h18
        refine ok_ix (enc := enc_api_Span) h30 rfl rfl rfl rfl rfl rfl ?_
        refine ok_v (.d (.agg [.int .i64 v29.Lo, .int .i64 v29.Hi])) rfl rfl ?_
        refine ok_v (.d (.bool (!((v27.Lo == v29.Lo) && ((v27.Hi == v29.Hi) && true))))) rfl rfl ?_
        refine ok_nil ?_
        refine rk_condH rfl h18 (fun _ h18 => ?_) (fun _ h18 => ?_)
        · refine rk_seq ?_
          refine rk_region ?_
          refine ok_as rfl rfl ?_
          refine ok_nil ?_
          refine rk_ret ?_
          refine ⟨_, (Option.some.inj h18).symm, fun hm => ?_⟩
          subst hm
          obtain rfl := someE h0
          exact finD (.inr rfl) (v := .d (.bool false)) rfl rfl (.refl _)
        · refine rk_skip ?_
          refine rk_nil ?_
          refine blk_nor ?_
          refine rk_region ?_
          refine ok_mv rfl rfl ?_
          refine ok_v (.d (.int .i64 (w64 (a19 + 1)))) rfl rfl ?_
          refine ok_as rfl rfl ?_
          refine ok_nil ?_
          refine rk_nil ?_
          exact ⟨_, (Option.some.inj h18).symm, wkE [] [] [] rfl ⟨⟨_, rfl, .d (.refl _)⟩, ⟨_, rfl, .d (.refl _)⟩, ⟨_, rfl, .d (.refl _)⟩, trivial⟩ trivial⟩
      · refine rk_exit ?_
        refine ⟨_, (Option.some.inj h18).symm, fun hm => ?_⟩
        subst hm
        exact ⟨_, rfl, wkE [] [] [] rfl trivial trivial⟩
    · intro b22 hb
      subst hb
      refine rk_seq ?_
      refine rk_region ?_
      refine ok_as rfl rfl ?_
      refine ok_nil ?_
      refine rk_ret ?_
      obtain rfl := someE h0
      exact finD (.inr rfl) (v := .d (.bool true)) rfl rfl (.refl _)

theorem l11_alive_ok (r : Bool) (h0 : l11_alive = some r) : Pure Try.prog tab 31 [] (.bool r) := by
  unfold l11_alive at h0
  refine pure_of_run Try.func31 rfl (by kernel_rfl) (by kernel_rfl) rfl ?_
  refine rk_seq ?_
  refine rk_region ?_
  refine ok_as rfl rfl ?_
  refine ok_nil ?_
  refine rk_seq ?_
  refine rk_region ?_
  refine ok_v (.d (.agg [.int .i64 0, .int .i64 3])) rfl rfl ?_
  refine ok_v (.d (.agg [.int .i64 5, .int .i64 6])) rfl rfl ?_
  refine ok_v (.d (.agg [.int .i64 2, .int .i64 5])) rfl rfl ?_
  refine ok_fzn (es := 2) ([({ Lo := 0, Hi := 3 } : api_Span), ({ Lo := 5, Hi := 6 } : api_Span), ({ Lo := 2, Hi := 5 } : api_Span)].map enc_api_Span) rfl rfl rfl rfl rfl ?_
  obtain ⟨r1, h2, h0⟩ := bindE h0
  refine ok_pc [.d (.sl 2 ([({ Lo := 0, Hi := 3 } : api_Span), ({ Lo := 5, Hi := 6 } : api_Span), ({ Lo := 2, Hi := 5 } : api_Span)].map enc_api_Span))] (span_Make_ok [({ Lo := 0, Hi := 3 } : api_Span), ({ Lo := 5, Hi := 6 } : api_Span), ({ Lo := 2, Hi := 5 } : api_Span)] r1 h2) rfl rfl rfl (.inl rfl) ?_
  refine ok_mv rfl rfl ?_
  refine ok_v (.d (.sl 2 (r1.1.map enc_api_Span))) rfl rfl ?_
  refine ok_v (.d (.int .i64 r1.2)) rfl rfl ?_
  refine ok_as rfl rfl ?_
  refine ok_as rfl rfl ?_
  refine ok_nil ?_
  refine rk_seq ?_
  refine rk_region ?_
  obtain ⟨r3, h4, h0⟩ := bindE h0
  refine ok_pc [] (l11_pair_ok r3 h4) rfl rfl rfl (.inl rfl) ?_
  obtain ⟨r5, h6, h0⟩ := bindE h0
  refine ok_pc [.d (.sl 2 (r3.map enc_api_Span))] (span_Length_ok r3 r5 h6) rfl rfl rfl (.inl rfl) ?_
  refine ok_mv rfl rfl ?_
  refine ok_v (.d (.int .i64 r5.1)) rfl rfl ?_
  refine ok_v (.d (.int .i64 r5.2)) rfl rfl ?_
  refine ok_as rfl rfl ?_
  refine ok_as rfl rfl ?_
  refine ok_nil ?_
  refine rk_seq ?_
  refine rk_region ?_
  obtain ⟨r7, h8, h0⟩ := bindE h0
  refine ok_pc [] (l11_pair_ok r7 h8) rfl rfl rfl (.inl rfl) ?_
  obtain ⟨r9, h10, h0⟩ := bindE h0
  refine ok_pc [.d (.sl 2 (r7.map enc_api_Span))] (span_Gaps_ok r7 r9 h10) rfl rfl rfl (.inl rfl) ?_
  refine ok_mv rfl rfl ?_
  refine ok_v (.d (.sl 2 (r9.1.map enc_api_Span))) rfl rfl ?_
  refine ok_v (.d (.int .i64 r9.2)) rfl rfl ?_
  refine ok_as rfl rfl ?_
  refine ok_as rfl rfl ?_
  refine ok_nil ?_
  refine rk_seq ?_
  refine rk_region ?_
  obtain ⟨r11, h12, h0⟩ := bindE h0
  refine ok_pc [] (l11_pair_ok r11 h12) rfl rfl rfl (.inl rfl) ?_
  refine ok_v (.d (.agg [.int .i64 1, .int .i64 5])) rfl rfl ?_
  refine ok_fzn (es := 2) ([({ Lo := 1, Hi := 5 } : api_Span)].map enc_api_Span) rfl rfl rfl rfl rfl ?_
  obtain ⟨r13, h14, h0⟩ := bindE h0
  refine ok_pc [.d (.sl 2 (r11.map enc_api_Span)), .d (.sl 2 ([({ Lo := 1, Hi := 5 } : api_Span)].map enc_api_Span))] (span_Minus_ok r11 [({ Lo := 1, Hi := 5 } : api_Span)] r13 h14) rfl rfl rfl (.inl rfl) ?_
  refine ok_mv rfl rfl ?_
  refine ok_v (.d (.sl 2 (r13.1.map enc_api_Span))) rfl rfl ?_
  refine ok_v (.d (.int .i64 r13.2)) rfl rfl ?_
  refine ok_as rfl rfl ?_
  refine ok_as rfl rfl ?_
  refine ok_nil ?_
  refine rk_seq ?_
  refine rk_region ?_
  obtain ⟨r15, h16, h0⟩ := bindE h0
  refine ok_pc [] (l11_pair_ok r15 h16) rfl rfl rfl (.inl rfl) ?_
  obtain ⟨r17, h18, h0⟩ := bindE h0
  refine ok_pc [.d (.sl 2 (r15.map enc_api_Span)), .d (.int .i64 3)] (span_Near_ok r15 3 r17 h18) rfl rfl rfl (.inl rfl) ?_
  refine ok_mv rfl rfl ?_
  refine ok_v (.d (.int .i64 r17.1)) rfl rfl ?_
  refine ok_v (.d (.int .i64 r17.2)) rfl rfl ?_
  refine ok_as rfl rfl ?_
  refine ok_as rfl rfl ?_
  refine ok_nil ?_
  refine rk_seq ?_
  refine rk_region ?_
  refine ok_mv rfl rfl ?_
  refine ok_v (.d (.bool (r1.2 == 0))) rfl rfl ?_
  obtain ⟨c19, h20, h0⟩ := bindE h0
  refine ok_cutQ 4 (fun A st => ∃ (j21 j22 j23 : V), st = A [(47, .d (.bool c19)), (46, j23), (45, j22), (44, j21)]) ?_ ?_
  · refine ok_mvB rfl rfl h20 (fun h20 => ?_) (fun h20 => ?_)
    · refine ok_mv rfl rfl ?_
      refine ok_v (.d (.bool (r5.2 == 0))) rfl rfl ?_
      refine ok_v (.d (.bool (r5.2 == 0))) rfl rfl ?_
      refine ok_nil ?_
      obtain rfl := someE h20
      exact ⟨_, _, _, rfl⟩
    · refine ok_sg rfl ?_
      refine ok_sg rfl ?_
      refine ok_v (.d (.bool false)) rfl rfl ?_
      refine ok_nil ?_
      obtain rfl := someE h20
      exact ⟨_, _, _, rfl⟩
  · rintro _ ⟨j21, j22, j23, rfl⟩
    obtain ⟨c24, h25, h0⟩ := bindE h0
    refine ok_cutQ 4 (fun A st => ∃ (j26 j27 j28 : V), st = A [(51, .d (.bool c24)), (50, j28), (49, j27), (48, j26)]) ?_ ?_
    · refine ok_mvB rfl rfl h25 (fun h25 => ?_) (fun h25 => ?_)
      · refine ok_mv rfl rfl ?_
        refine ok_v (.d (.bool (r9.2 == 0))) rfl rfl ?_
        refine ok_v (.d (.bool (r9.2 == 0))) rfl rfl ?_
        refine ok_nil ?_
        obtain rfl := someE h25
        exact ⟨_, _, _, rfl⟩
      · refine ok_sg rfl ?_
        refine ok_sg rfl ?_
        refine ok_v (.d (.bool false)) rfl rfl ?_
        refine ok_nil ?_
        obtain rfl := someE h25
        exact ⟨_, _, _, rfl⟩
    · rintro _ ⟨j26, j27, j28, rfl⟩
      obtain ⟨c29, h30, h0⟩ := bindE h0
      refine ok_cutQ 4 (fun A st => ∃ (j31 j32 j33 : V), st = A [(55, .d (.bool c29)), (54, j33), (53, j32), (52, j31)]) ?_ ?_
      · refine ok_mvB rfl rfl h30 (fun h30 => ?_) (fun h30 => ?_)
        · refine ok_mv rfl rfl ?_
          refine ok_v (.d (.bool (r13.2 == 0))) rfl rfl ?_
          refine ok_v (.d (.bool (r13.2 == 0))) rfl rfl ?_
          refine ok_nil ?_
          obtain rfl := someE h30
          exact ⟨_, _, _, rfl⟩
        · refine ok_sg rfl ?_
          refine ok_sg rfl ?_
          refine ok_v (.d (.bool false)) rfl rfl ?_
          refine ok_nil ?_
          obtain rfl := someE h30
          exact ⟨_, _, _, rfl⟩
      · rintro _ ⟨j31, j32, j33, rfl⟩
        obtain ⟨c34, h35, h0⟩ := bindE h0
        refine ok_cutQ 4 (fun A st => ∃ (j36 j37 j38 : V), st = A [(59, .d (.bool c34)), (58, j38), (57, j37), (56, j36)]) ?_ ?_
        · refine ok_mvB rfl rfl h35 (fun h35 => ?_) (fun h35 => ?_)
          · refine ok_mv rfl rfl ?_
            refine ok_v (.d (.bool (r17.2 == 0))) rfl rfl ?_
            refine ok_v (.d (.bool (r17.2 == 0))) rfl rfl ?_
            refine ok_nil ?_
            obtain rfl := someE h35
            exact ⟨_, _, _, rfl⟩
          · refine ok_sg rfl ?_
            refine ok_sg rfl ?_
            refine ok_v (.d (.bool false)) rfl rfl ?_
            refine ok_nil ?_
            obtain rfl := someE h35
            exact ⟨_, _, _, rfl⟩
        · rintro _ ⟨j36, j37, j38, rfl⟩
          obtain ⟨c39, h40, h0⟩ := bindE h0
          refine ok_cutQ 4 (fun A st => ∃ (j41 j42 j43 : V), st = A [(63, .d (.bool c39)), (62, j43), (61, j42), (60, j41)]) ?_ ?_
          · refine ok_mvB rfl rfl h40 (fun h40 => ?_) (fun h40 => ?_)
            · refine ok_mv rfl rfl ?_
              refine ok_v (.d (.bool (r5.1 == 5))) rfl rfl ?_
              refine ok_v (.d (.bool (r5.1 == 5))) rfl rfl ?_
              refine ok_nil ?_
              obtain rfl := someE h40
              exact ⟨_, _, _, rfl⟩
            · refine ok_sg rfl ?_
              refine ok_sg rfl ?_
              refine ok_v (.d (.bool false)) rfl rfl ?_
              refine ok_nil ?_
              obtain rfl := someE h40
              exact ⟨_, _, _, rfl⟩
          · rintro _ ⟨j41, j42, j43, rfl⟩
            obtain ⟨c44, h45, h0⟩ := bindE h0
            refine ok_cutQ 4 (fun A st => ∃ (j46 j47 j48 : V), st = A [(67, .d (.bool c44)), (66, j48), (65, j47), (64, j46)]) ?_ ?_
            · refine ok_mvB rfl rfl h45 (fun h45 => ?_) (fun h45 => ?_)
              · refine ok_mv rfl rfl ?_
                refine ok_v (.d (.bool (r17.1 == 1))) rfl rfl ?_
                refine ok_v (.d (.bool (r17.1 == 1))) rfl rfl ?_
                refine ok_nil ?_
                obtain rfl := someE h45
                exact ⟨_, _, _, rfl⟩
              · refine ok_sg rfl ?_
                refine ok_sg rfl ?_
                refine ok_v (.d (.bool false)) rfl rfl ?_
                refine ok_nil ?_
                obtain rfl := someE h45
                exact ⟨_, _, _, rfl⟩
            · rintro _ ⟨j46, j47, j48, rfl⟩
              obtain ⟨c53, h54, h0⟩ := bindE h0
              refine ok_cutQ 4 (fun A st => ∃ (j55 j56 j57 : V), st = A [(71, .d (.bool c53)), (70, j57), (69, j56), (68, j55)]) ?_ ?_
              · refine ok_mvB rfl rfl h54 (fun h54 => ?_) (fun h54 => ?_)
                · obtain ⟨r58, h59, h54⟩ := bindE h54
                  refine ok_pc [] (l11_pair_ok r58 h59) rfl rfl rfl (.inl rfl) ?_
                  obtain ⟨r60, h61, h54⟩ := bindE h54
                  refine ok_pc [.d (.sl 2 (r58.map enc_api_Span)), .d (.int .i64 6)] (span_Has_ok r58 6 r60 h61) rfl rfl rfl (.inl rfl) ?_
                  refine ok_v (.d (.bool r60)) rfl rfl ?_
                  refine ok_nil ?_
                  obtain rfl := someE h54
                  exact ⟨_, _, _, rfl⟩
                · refine ok_sg rfl ?_
                  refine ok_sg rfl ?_
                  refine ok_v (.d (.bool false)) rfl rfl ?_
                  refine ok_nil ?_
                  obtain rfl := someE h54
                  exact ⟨_, _, _, rfl⟩
              · rintro _ ⟨j55, j56, j57, rfl⟩
                obtain ⟨c66, h67, h0⟩ := bindE h0
                refine ok_cutQ 5 (fun A st => ∃ (j68 j69 j70 j71 : V), st = A [(76, .d (.bool c66)), (75, j71), (74, j70), (73, j69), (72, j68)]) ?_ ?_
                · refine ok_mvB rfl rfl h67 (fun h67 => ?_) (fun h67 => ?_)
                  · obtain ⟨r72, h73, h67⟩ := bindE h67
                    refine ok_pc [] (l11_pair_ok r72 h73) rfl rfl rfl (.inl rfl) ?_
                    obtain ⟨r74, h75, h67⟩ := bindE h67
                    refine ok_pc [.d (.sl 2 (r72.map enc_api_Span)), .d (.int .i64 7)] (span_Has_ok r72 7 r74 h75) rfl rfl rfl (.inl rfl) ?_
                    refine ok_v (.d (.bool (!r74))) rfl rfl ?_
                    refine ok_v (.d (.bool (!r74))) rfl rfl ?_
                    refine ok_nil ?_
                    obtain rfl := someE h67
                    exact ⟨_, _, _, _, rfl⟩
                  · refine ok_sg rfl ?_
                    refine ok_sg rfl ?_
                    refine ok_sg rfl ?_
                    refine ok_v (.d (.bool false)) rfl rfl ?_
                    refine ok_nil ?_
                    obtain rfl := someE h67
                    exact ⟨_, _, _, _, rfl⟩
                · rintro _ ⟨j68, j69, j70, j71, rfl⟩
                  refine ok_as rfl rfl ?_
                  refine ok_nil ?_
                  refine rk_seq ?_
                  refine rk_region ?_
                  refine ok_mv rfl rfl ?_
                  refine ok_mvB rfl rfl h0 (fun h0 => ?_) (fun h0 => ?_)
                  · refine ok_mv rfl rfl ?_
                    refine ok_v (.d (.agg [.int .i64 0, .int .i64 6])) rfl rfl ?_
                    refine ok_new (.hs 2 2 0 [({ Lo := 0, Hi := 6 } : api_Span)].length) (.dat 2 ([({ Lo := 0, Hi := 6 } : api_Span)].map enc_api_Span)) rfl rfl ?_
                    obtain ⟨r78, h79, h0⟩ := bindE h0
                    refine ok_pc [.d (.sl 2 (r1.1.map enc_api_Span)), .hs 2 2 0 [({ Lo := 0, Hi := 6 } : api_Span)].length] (r11_Same_ok r1.1 [({ Lo := 0, Hi := 6 } : api_Span)] r78 h79) rfl rfl (af_cons rfl (af_cons (td_hs rfl rfl) rfl)) (.inr rfl) ?_
                    refine ok_v (.d (.bool r78)) rfl rfl ?_
                    refine ok_mvB rfl rfl h0 (fun h0 => ?_) (fun h0 => ?_)
                    · refine ok_mv rfl rfl ?_
                      refine ok_v (.d (.agg [.int .i64 2, .int .i64 4])) rfl rfl ?_
                      refine ok_new (.hs 3 2 0 [({ Lo := 2, Hi := 4 } : api_Span)].length) (.dat 2 ([({ Lo := 2, Hi := 4 } : api_Span)].map enc_api_Span)) rfl rfl ?_
                      obtain ⟨r82, h83, h0⟩ := bindE h0
                      refine ok_pc [.d (.sl 2 (r9.1.map enc_api_Span)), .hs 3 2 0 [({ Lo := 2, Hi := 4 } : api_Span)].length] (r11_Same_ok r9.1 [({ Lo := 2, Hi := 4 } : api_Span)] r82 h83) rfl rfl (af_cons rfl (af_cons (td_hs rfl rfl) rfl)) (.inr rfl) ?_
                      refine ok_v (.d (.bool r82)) rfl rfl ?_
                      refine ok_mvB rfl rfl h0 (fun h0 => ?_) (fun h0 => ?_)
                      · refine ok_mv rfl rfl ?_
                        refine ok_v (.d (.agg [.int .i64 0, .int .i64 1])) rfl rfl ?_
                        refine ok_v (.d (.agg [.int .i64 5, .int .i64 7])) rfl rfl ?_
                        refine ok_new (.hs 4 2 0 [({ Lo := 0, Hi := 1 } : api_Span), ({ Lo := 5, Hi := 7 } : api_Span)].length) (.dat 2 ([({ Lo := 0, Hi := 1 } : api_Span), ({ Lo := 5, Hi := 7 } : api_Span)].map enc_api_Span)) rfl rfl ?_
                        obtain ⟨r86, h87, h0⟩ := bindE h0
                        refine ok_pc [.d (.sl 2 (r13.1.map enc_api_Span)), .hs 4 2 0 [({ Lo := 0, Hi := 1 } : api_Span), ({ Lo := 5, Hi := 7 } : api_Span)].length] (r11_Same_ok r13.1 [({ Lo := 0, Hi := 1 } : api_Span), ({ Lo := 5, Hi := 7 } : api_Span)] r86 h87) rfl rfl (af_cons rfl (af_cons (td_hs rfl rfl) rfl)) (.inr rfl) ?_
                        refine ok_v (.d (.bool r86)) rfl rfl ?_
                        refine ok_as rfl rfl ?_
                        refine ok_nil ?_
                        refine rk_ret ?_
                        obtain rfl := someE h0
                        exact finD (.inr rfl) (v := .d (.bool r86)) rfl rfl (.refl _)
                      · refine ok_sg rfl ?_
                        refine ok_sg rfl ?_
                        refine ok_sg rfl ?_
                        refine ok_sg rfl ?_
                        refine ok_sg rfl ?_
                        refine ok_v (.d (.bool false)) rfl rfl ?_
                        refine ok_as rfl rfl ?_
                        refine ok_nil ?_
                        refine rk_ret ?_
                        obtain rfl := someE h0
                        exact finD (.inr rfl) (v := .d (.bool false)) rfl rfl (.refl _)
                    · refine ok_sg rfl ?_
                      refine ok_sg rfl ?_
                      refine ok_sg rfl ?_
                      refine ok_sg rfl ?_
                      refine ok_v (.d (.bool false)) rfl rfl ?_
                      refine ok_mv rfl rfl ?_
                      refine ok_sg rfl ?_
                      refine ok_sg rfl ?_
                      refine ok_sg rfl ?_
                      refine ok_sg rfl ?_
                      refine ok_sg rfl ?_
                      refine ok_v (.d (.bool false)) rfl rfl ?_
                      refine ok_as rfl rfl ?_
                      refine ok_nil ?_
                      refine rk_ret ?_
                      obtain rfl := someE h0
                      exact finD (.inr rfl) (v := .d (.bool false)) rfl rfl (.refl _)
                  · refine ok_sg rfl ?_
                    refine ok_sg rfl ?_
                    refine ok_sg rfl ?_
                    refine ok_sg rfl ?_
                    refine ok_v (.d (.bool false)) rfl rfl ?_
                    refine ok_mv rfl rfl ?_
                    refine ok_sg rfl ?_
                    refine ok_sg rfl ?_
                    refine ok_sg rfl ?_
                    refine ok_sg rfl ?_
                    refine ok_v (.d (.bool false)) rfl rfl ?_
                    refine ok_mv rfl rfl ?_
                    refine ok_sg rfl ?_
                    refine ok_sg rfl ?_
                    refine ok_sg rfl ?_
                    refine ok_sg rfl ?_
                    refine ok_sg rfl ?_
                    refine ok_v (.d (.bool false)) rfl rfl ?_
                    refine ok_as rfl rfl ?_
                    refine ok_nil ?_
                    refine rk_ret ?_
                    obtain rfl := someE h0
                    exact finD (.inr rfl) (v := .d (.bool false)) rfl rfl (.refl _)

theorem l11_SpanNames_ok (r : Bool) (h0 : l11_SpanNames = some r) : Pure Try.prog tab 9 [] (.bool r) := by
  unfold l11_SpanNames at h0
  refine pure_of_run Try.func9 rfl (by kernel_rfl) (by kernel_rfl) rfl ?_
  refine rk_seq ?_
  refine rk_region ?_
  refine ok_as rfl rfl ?_
  refine ok_nil ?_
  refine rk_seq ?_
  refine rk_region ?_
  refine ok_as rfl rfl ?_
  refine ok_as rfl rfl ?_
  refine ok_nil ?_
  refine rk_seq ?_
  refine rk_seq ?_
  refine rk_region ?_
  refine ok_as rfl rfl ?_
  refine ok_nil ?_
  obtain ⟨m20, h21, h0⟩ := bindE h0
  refine rk_blockcut (fun b22 => b22 = m20) (fun (b22 : List api_Span × List api_Span) => ⟨[(1, .hs 0 2 0 b22.1.length), (2, .hs 1 2 0 b22.2.length)], [(0, .dat 2 (b22.1.map enc_api_Span)), (1, .dat 2 (b22.2.map enc_api_Span))], 2⟩) (by simp) ?_ ?_
  · refine rk_loopF (l11_SpanNames_L1) (fun (a19 : Int × List api_Span × List api_Span) => ⟨[(1, .hs 0 2 0 a19.2.1.length), (2, .hs 1 2 0 a19.2.2.length), (3, .d (.int .i64 a19.1))], [(0, .dat 2 (a19.2.1.map enc_api_Span)), (1, .dat 2 (a19.2.2.map enc_api_Span))], 2⟩) (0, [], []) m20 h21 (wkE [] [] [0, 1] rfl ⟨⟨_, rfl, .nil (by decide) (ltd rfl)⟩, ⟨_, rfl, .nil (by decide) (ltd rfl)⟩, ⟨_, rfl, .d (.refl _)⟩, trivial⟩ ⟨⟨ltd rfl, .inl ⟨by decide, _, by decide, rfl⟩⟩, ⟨ltd rfl, .inl ⟨by decide, _, by decide, rfl⟩⟩, trivial⟩) ?_
    intro a19 y17 h18
    unfold l11_SpanNames_L1 at h18
    refine rk_seq ?_
    refine rk_seq ?_
    refine rk_region ?_
    refine ok_mv rfl rfl ?_
    refine ok_v (.d (.bool (decide (a19.1 < 401)))) rfl rfl ?_
    refine ok_nil ?_
    refine rk_condH rfl h18 (fun _ h18 => ?_) (fun _ h18 => ?_)
    · refine rk_skip ?_
      refine rk_seq ?_
      refine rk_block ?_
      refine rk_seq ?_
      refine rk_region ?_
      refine ok_mv rfl rfl ?_
      refine ok_mv rfl rfl ?_
      refine ok_v (.d (.int .i64 (w64 (4 * a19.1)))) rfl rfl ?_
      refine ok_mv rfl rfl ?_
      refine ok_v (.d (.int .i64 (w64 (4 * a19.1)))) rfl rfl ?_
      refine ok_v (.d (.int .i64 (w64 ((w64 (4 * a19.1)) + 1)))) rfl rfl ?_
      refine ok_v (.d (.agg [.int .i64 (w64 (4 * a19.1)), .int .i64 (w64 ((w64 (4 * a19.1)) + 1))])) rfl rfl ?_
      refine ok_new (.hs 2 2 0 [({ Lo := w64 (4 * a19.1), Hi := w64 ((w64 (4 * a19.1)) + 1) } : api_Span)].length) (.dat 2 ([({ Lo := w64 (4 * a19.1), Hi := w64 ((w64 (4 * a19.1)) + 1) } : api_Span)].map enc_api_Span)) rfl rfl ?_
      obtain ⟨z27, h28, h18⟩ := bindE h18
      refine ok_ap (xs := a19.2.1) (ys := [({ Lo := w64 (4 * a19.1), Hi := w64 ((w64 (4 * a19.1)) + 1) } : api_Span)]) (enc := enc_api_Span) (.hs 2 2 0 [({ Lo := w64 (4 * a19.1), Hi := w64 ((w64 (4 * a19.1)) + 1) } : api_Span)].length) h28 rfl rfl rfl rfl rfl rfl rfl (conts_hs rfl rfl) rfl rfl rfl rfl ?_
      refine ok_as rfl rfl ?_
      refine ok_nil ?_
      refine rk_region ?_
      refine ok_mv rfl rfl ?_
      refine ok_mv rfl rfl ?_
      refine ok_v (.d (.int .i64 (w64 (4 * a19.1)))) rfl rfl ?_
      refine ok_v (.d (.int .i64 (w64 ((w64 (4 * a19.1)) + 2)))) rfl rfl ?_
      refine ok_mv rfl rfl ?_
      refine ok_v (.d (.int .i64 (w64 (4 * a19.1)))) rfl rfl ?_
      refine ok_v (.d (.int .i64 (w64 ((w64 (4 * a19.1)) + 3)))) rfl rfl ?_
      refine ok_v (.d (.agg [.int .i64 (w64 ((w64 (4 * a19.1)) + 2)), .int .i64 (w64 ((w64 (4 * a19.1)) + 3))])) rfl rfl ?_
      refine ok_new (.hs 4 2 0 [({ Lo := w64 ((w64 (4 * a19.1)) + 2), Hi := w64 ((w64 (4 * a19.1)) + 3) } : api_Span)].length) (.dat 2 ([({ Lo := w64 ((w64 (4 * a19.1)) + 2), Hi := w64 ((w64 (4 * a19.1)) + 3) } : api_Span)].map enc_api_Span)) rfl rfl ?_
      obtain ⟨z29, h30, h18⟩ := bindE h18
      refine ok_ap (xs := a19.2.2) (ys := [({ Lo := w64 ((w64 (4 * a19.1)) + 2), Hi := w64 ((w64 (4 * a19.1)) + 3) } : api_Span)]) (enc := enc_api_Span) (.hs 4 2 0 [({ Lo := w64 ((w64 (4 * a19.1)) + 2), Hi := w64 ((w64 (4 * a19.1)) + 3) } : api_Span)].length) h30 rfl rfl rfl rfl rfl rfl rfl (conts_hs rfl rfl) rfl rfl rfl rfl ?_
      refine ok_as rfl rfl ?_
      refine ok_nil ?_
      refine rk_nil ?_
      refine blk_nor ?_
      refine rk_region ?_
      refine ok_mv rfl rfl ?_
      refine ok_v (.d (.int .i64 (w64 (a19.1 + 1)))) rfl rfl ?_
      refine ok_as rfl rfl ?_
      refine ok_nil ?_
      refine rk_nil ?_
      exact ⟨_, (Option.some.inj h18).symm, wkE [(0, 3), (1, 5)] [] [] rfl ⟨⟨_, rfl, .hs rfl (by decide) (ltd rfl)⟩, ⟨_, rfl, .hs rfl (by decide) (ltd rfl)⟩, ⟨_, rfl, .d (.refl _)⟩, trivial⟩ ⟨⟨ltd rfl, .inr ⟨by decide, _, rfl, .dat _ _⟩⟩, ⟨ltd rfl, .inr ⟨by decide, _, rfl, .dat _ _⟩⟩, trivial⟩⟩
    · refine rk_exit ?_
      refine ⟨_, (Option.some.inj h18).symm, fun hm => ?_⟩
      subst hm
      exact ⟨_, rfl, wkE [(0, 0), (1, 1)] [] [] rfl ⟨⟨_, rfl, .hs rfl (by decide) (ltd rfl)⟩, ⟨_, rfl, .hs rfl (by decide) (ltd rfl)⟩, trivial⟩ ⟨⟨ltd rfl, .inr ⟨by decide, _, rfl, .dat _ _⟩⟩, ⟨ltd rfl, .inr ⟨by decide, _, rfl, .dat _ _⟩⟩, trivial⟩⟩
  · intro b22 hb
    subst hb
    refine rk_seq ?_
    refine rk_wk (st' := ⟨[(1, .d (.sl 2 (b22.1.map enc_api_Span))), (2, .hs 0 2 0 b22.2.length)], [(0, .dat 2 (b22.2.map enc_api_Span))], 1⟩) (wkE [(0, 1)] [0] [] rfl ⟨⟨_, rfl, wv_frz rfl rfl (by decide)⟩, ⟨_, rfl, .hs rfl (by decide) (ltd rfl)⟩, trivial⟩ ⟨⟨ltd rfl, .inr ⟨by decide, _, rfl, .dat _ _⟩⟩, trivial⟩) ?_ (by simp)
    refine rk_region ?_
    refine ok_mv rfl rfl ?_
    obtain ⟨r31, h32, h0⟩ := bindE h0
    refine ok_pc [.d (.sl 2 (b22.1.map enc_api_Span))] (span_Make_ok b22.1 r31 h32) rfl rfl rfl (.inl rfl) ?_
    refine ok_mv rfl rfl ?_
    refine ok_v (.d (.sl 2 (r31.1.map enc_api_Span))) rfl rfl ?_
    refine ok_v (.d (.int .i64 r31.2)) rfl rfl ?_
    refine ok_as rfl rfl ?_
    refine ok_as rfl rfl ?_
    refine ok_nil ?_
    refine rk_seq ?_
    refine rk_wk (st' := ⟨[(1, .d (.sl 2 (b22.1.map enc_api_Span))), (2, .d (.sl 2 (b22.2.map enc_api_Span))), (5, .d (.int .i64 r31.2))], [], 0⟩) (wkE [] [0] [] rfl ⟨⟨_, rfl, .d (.refl _)⟩, ⟨_, rfl, wv_frz rfl rfl (by decide)⟩, ⟨_, rfl, .d (.refl _)⟩, trivial⟩ trivial) ?_ (by simp)
    refine rk_regionD (by kernel_rfl) ?_
    refine ok_mv rfl rfl ?_
    obtain ⟨z33, h34, h0⟩ := bindE h0
    refine ok_slc (enc := enc_api_Span) h34 rfl rfl rfl rfl rfl (fun _ => rfl) (bound_v rfl) ?_
    refine ok_mv rfl rfl ?_
    obtain ⟨z35, h36, h0⟩ := bindE h0
    refine ok_slc (enc := enc_api_Span) h36 rfl rfl rfl rfl rfl (fun _ => rfl) (bound_v rfl) ?_
    obtain ⟨r37, h38, h0⟩ := bindE h0
    refine ok_pc [.d (.sl 2 (z33.map enc_api_Span)), .d (.sl 2 (z35.map enc_api_Span))] (span_Union_ok z33 z35 r37 h38) rfl rfl rfl (.inl rfl) ?_
    refine ok_mv rfl rfl ?_
    refine ok_v (.d (.sl 2 (r37.1.map enc_api_Span))) rfl rfl ?_
    refine ok_v (.d (.int .i64 r37.2)) rfl rfl ?_
    refine ok_as rfl rfl ?_
    refine ok_as rfl rfl ?_
    refine ok_nil ?_
    refine rk_seq ?_
    refine rk_region ?_
    refine ok_mv rfl rfl ?_
    obtain ⟨r39, h40, h0⟩ := bindE h0
    refine ok_pc [.d (.sl 2 (b22.1.map enc_api_Span)), .d (.nilsl)] (pure_le (.cons (.refl _) (.cons (.nil _) .nil)) (span_Union_ok b22.1 [] r39 h40)) rfl rfl rfl (.inl rfl) ?_
    refine ok_mv rfl rfl ?_
    refine ok_v (.d (.sl 2 (r39.1.map enc_api_Span))) rfl rfl ?_
    refine ok_v (.d (.int .i64 r39.2)) rfl rfl ?_
    refine ok_as rfl rfl ?_
    refine ok_as rfl rfl ?_
    refine ok_nil ?_
    refine rk_seq ?_
    refine rk_region ?_
    refine ok_v (.d (.agg [.int .i64 1, .int .i64 1])) rfl rfl ?_
    refine ok_fzn (es := 2) ([({ Lo := 1, Hi := 1 } : api_Span)].map enc_api_Span) rfl rfl rfl rfl rfl ?_
    obtain ⟨r41, h42, h0⟩ := bindE h0
    refine ok_pc [.d (.sl 2 ([({ Lo := 1, Hi := 1 } : api_Span)].map enc_api_Span))] (span_Make_ok [({ Lo := 1, Hi := 1 } : api_Span)] r41 h42) rfl rfl rfl (.inl rfl) ?_
    refine ok_mv rfl rfl ?_
    refine ok_v (.d (.sl 2 (r41.1.map enc_api_Span))) rfl rfl ?_
    refine ok_v (.d (.int .i64 r41.2)) rfl rfl ?_
    refine ok_as rfl rfl ?_
    refine ok_as rfl rfl ?_
    refine ok_nil ?_
    refine rk_seq ?_
    refine rk_region ?_
    obtain ⟨r43, h44, h0⟩ := bindE h0
    refine ok_pc [] (l11_pair_ok r43 h44) rfl rfl rfl (.inl rfl) ?_
    obtain ⟨r45, h46, h0⟩ := bindE h0
    refine ok_pc [.d (.sl 2 (r43.map enc_api_Span)), .d (.int .i64 999994)] (span_Move_ok r43 999994 r45 h46) rfl rfl rfl (.inl rfl) ?_
    refine ok_mv rfl rfl ?_
    refine ok_v (.d (.sl 2 (r45.1.map enc_api_Span))) rfl rfl ?_
    refine ok_v (.d (.int .i64 r45.2)) rfl rfl ?_
    refine ok_as rfl rfl ?_
    refine ok_as rfl rfl ?_
    refine ok_nil ?_
    refine rk_seq ?_
    refine rk_region ?_
    obtain ⟨r47, h48, h0⟩ := bindE h0
    refine ok_pc [] (l11_pair_ok r47 h48) rfl rfl rfl (.inl rfl) ?_
    obtain ⟨r49, h50, h0⟩ := bindE h0
    refine ok_pc [.d (.sl 2 (r47.map enc_api_Span)), .d (.int .i64 999993)] (span_Move_ok r47 999993 r49 h50) rfl rfl rfl (.inl rfl) ?_
    refine ok_mv rfl rfl ?_
    refine ok_v (.d (.sl 2 (r49.1.map enc_api_Span))) rfl rfl ?_
    refine ok_v (.d (.int .i64 r49.2)) rfl rfl ?_
    refine ok_as rfl rfl ?_
    refine ok_as rfl rfl ?_
    refine ok_nil ?_
    refine rk_seq ?_
    refine rk_region ?_
    obtain ⟨r51, h52, h0⟩ := bindE h0
    refine ok_pc [.d (.nilsl), .d (.int .i64 0)] (pure_le (.cons (.nil _) (.cons (.refl _) .nil)) (span_Near_ok [] 0 r51 h52)) rfl rfl rfl (.inl rfl) ?_
    refine ok_mv rfl rfl ?_
    refine ok_v (.d (.int .i64 r51.1)) rfl rfl ?_
    refine ok_v (.d (.int .i64 r51.2)) rfl rfl ?_
    refine ok_as rfl rfl ?_
    refine ok_as rfl rfl ?_
    refine ok_nil ?_
    refine rk_seq ?_
    refine rk_region ?_
    obtain ⟨r53, h54, h0⟩ := bindE h0
    refine ok_pc [] (l11_pair_ok r53 h54) rfl rfl rfl (.inl rfl) ?_
    obtain ⟨r55, h56, h0⟩ := bindE h0
    refine ok_pc [.d (.sl 2 (r53.map enc_api_Span)), .d (.int .i64 1000001)] (span_Near_ok r53 1000001 r55 h56) rfl rfl rfl (.inl rfl) ?_
    refine ok_mv rfl rfl ?_
    refine ok_v (.d (.int .i64 r55.1)) rfl rfl ?_
    refine ok_v (.d (.int .i64 r55.2)) rfl rfl ?_
    refine ok_as rfl rfl ?_
    refine ok_as rfl rfl ?_
    refine ok_nil ?_
    refine rk_seq ?_
    refine rk_region ?_
    obtain ⟨r57, h58, h0⟩ := bindE h0
    refine ok_pc [] (l11_pair_ok r57 h58) rfl rfl rfl (.inl rfl) ?_
    obtain ⟨r59, h60, h0⟩ := bindE h0
    refine ok_pc [.d (.sl 2 (r57.map enc_api_Span)), .d (.int .i64 (-1000000))] (span_Near_ok r57 (-1000000) r59 h60) rfl rfl rfl (.inl rfl) ?_
    refine ok_mv rfl rfl ?_
    refine ok_v (.d (.int .i64 r59.1)) rfl rfl ?_
    refine ok_v (.d (.int .i64 r59.2)) rfl rfl ?_
    refine ok_as rfl rfl ?_
    refine ok_as rfl rfl ?_
    refine ok_nil ?_
    refine rk_seq ?_
    refine rk_region ?_
    refine ok_v (.d (.agg [.int .i64 0, .int .i64 1])) rfl rfl ?_
    refine ok_v (.d (.agg [.int .i64 1, .int .i64 2])) rfl rfl ?_
    refine ok_new (.hs 1 2 0 [({ Lo := 0, Hi := 1 } : api_Span), ({ Lo := 1, Hi := 2 } : api_Span)].length) (.dat 2 ([({ Lo := 0, Hi := 1 } : api_Span), ({ Lo := 1, Hi := 2 } : api_Span)].map enc_api_Span)) rfl rfl ?_
    obtain ⟨r61, h62, h0⟩ := bindE h0
    refine ok_pc [.hs 1 2 0 [({ Lo := 0, Hi := 1 } : api_Span), ({ Lo := 1, Hi := 2 } : api_Span)].length] (span_Length_ok [({ Lo := 0, Hi := 1 } : api_Span), ({ Lo := 1, Hi := 2 } : api_Span)] r61 h62) rfl rfl (af_cons (td_hs rfl rfl) rfl) (.inr rfl) ?_
    refine ok_mv rfl rfl ?_
    refine ok_v (.d (.int .i64 r61.1)) rfl rfl ?_
    refine ok_v (.d (.int .i64 r61.2)) rfl rfl ?_
    refine ok_as rfl rfl ?_
    refine ok_as rfl rfl ?_
    refine ok_nil ?_
    refine rk_seq ?_
    refine rk_region ?_
    obtain ⟨r63, h64, h0⟩ := bindE h0
    refine ok_pc [.d (.nilsl), .d (.int .i64 5000000)] (pure_le (.cons (.nil _) (.cons (.refl _) .nil)) (span_Move_ok [] 5000000 r63 h64)) rfl rfl rfl (.inl rfl) ?_
    refine ok_mv rfl rfl ?_
    refine ok_v (.d (.sl 2 (r63.1.map enc_api_Span))) rfl rfl ?_
    refine ok_v (.d (.int .i64 r63.2)) rfl rfl ?_
    refine ok_as rfl rfl ?_
    refine ok_as rfl rfl ?_
    refine ok_nil ?_
    refine rk_seq ?_
    refine rk_region ?_
    refine ok_v (.d (.agg [.int .i64 (-1000000), .int .i64 1000000])) rfl rfl ?_
    refine ok_new (.hs 2 2 0 [({ Lo := (-1000000), Hi := 1000000 } : api_Span)].length) (.dat 2 ([({ Lo := (-1000000), Hi := 1000000 } : api_Span)].map enc_api_Span)) rfl rfl ?_
    obtain ⟨r65, h66, h0⟩ := bindE h0
    refine ok_pc [.hs 2 2 0 [({ Lo := (-1000000), Hi := 1000000 } : api_Span)].length] (span_Check_ok [({ Lo := (-1000000), Hi := 1000000 } : api_Span)] r65 h66) rfl rfl (af_cons (td_hs rfl rfl) rfl) (.inr rfl) ?_
    refine ok_v (.d (.bool (r65 == 0))) rfl rfl ?_
    refine ok_mvB rfl rfl h0 (fun h0 => ?_) (fun h0 => ?_)
    · refine ok_v (.d (.agg [.int .i64 (-1000001), .int .i64 0])) rfl rfl ?_
      refine ok_new (.hs 3 2 0 [({ Lo := (-1000001), Hi := 0 } : api_Span)].length) (.dat 2 ([({ Lo := (-1000001), Hi := 0 } : api_Span)].map enc_api_Span)) rfl rfl ?_
      obtain ⟨r69, h70, h0⟩ := bindE h0
      refine ok_pc [.hs 3 2 0 [({ Lo := (-1000001), Hi := 0 } : api_Span)].length] (span_Check_ok [({ Lo := (-1000001), Hi := 0 } : api_Span)] r69 h70) rfl rfl (af_cons (td_hs rfl rfl) rfl) (.inr rfl) ?_
      refine ok_v (.d (.bool (r69 == 8))) rfl rfl ?_
      refine ok_v (.d (.bool (r69 == 8))) rfl rfl ?_
      refine ok_mvB rfl rfl h0 (fun h0 => ?_) (fun h0 => ?_)
      · refine ok_v (.d (.agg [.int .i64 0, .int .i64 1000001])) rfl rfl ?_
        refine ok_new (.hs 4 2 0 [({ Lo := 0, Hi := 1000001 } : api_Span)].length) (.dat 2 ([({ Lo := 0, Hi := 1000001 } : api_Span)].map enc_api_Span)) rfl rfl ?_
        obtain ⟨r73, h74, h0⟩ := bindE h0
        refine ok_pc [.hs 4 2 0 [({ Lo := 0, Hi := 1000001 } : api_Span)].length] (span_Check_ok [({ Lo := 0, Hi := 1000001 } : api_Span)] r73 h74) rfl rfl (af_cons (td_hs rfl rfl) rfl) (.inr rfl) ?_
        refine ok_v (.d (.bool (r73 == 8))) rfl rfl ?_
        refine ok_v (.d (.bool (r73 == 8))) rfl rfl ?_
        refine ok_as rfl rfl ?_
        refine ok_nil ?_
        refine rk_seq ?_
        refine rk_region ?_
        refine ok_mv rfl rfl ?_
        obtain ⟨r75, h76, h0⟩ := bindE h0
        refine ok_pc [] (l11_alive_ok r75 h76) rfl rfl rfl (.inl rfl) ?_
        refine ok_v (.d (.bool r75)) rfl rfl ?_
        obtain ⟨c77, h78, h0⟩ := bindE h0
        refine ok_cutQ 3 (fun A st => ∃ (j79 j80 : V), st = A [(130, .d (.bool c77)), (129, j80), (128, j79)]) ?_ ?_
        · refine ok_mvB rfl rfl h78 (fun h78 => ?_) (fun h78 => ?_)
          · refine ok_mv rfl rfl ?_
            refine ok_v (.d (.bool (r73 == 8))) rfl rfl ?_
            refine ok_nil ?_
            obtain rfl := someE h78
            exact ⟨_, _, rfl⟩
          · refine ok_sg rfl ?_
            refine ok_v (.d (.bool false)) rfl rfl ?_
            refine ok_nil ?_
            obtain rfl := someE h78
            exact ⟨_, _, rfl⟩
        · rintro _ ⟨j79, j80, rfl⟩
          obtain ⟨c81, h82, h0⟩ := bindE h0
          refine ok_cutQ 4 (fun A st => ∃ (j83 j84 j85 : V), st = A [(134, .d (.bool c81)), (133, j85), (132, j84), (131, j83)]) ?_ ?_
          · refine ok_mvB rfl rfl h82 (fun h82 => ?_) (fun h82 => ?_)
            · refine ok_mv rfl rfl ?_
              refine ok_v (.d (.bool (r31.2 == 4))) rfl rfl ?_
              refine ok_v (.d (.bool (r31.2 == 4))) rfl rfl ?_
              refine ok_nil ?_
              obtain rfl := someE h82
              exact ⟨_, _, _, rfl⟩
            · refine ok_sg rfl ?_
              refine ok_sg rfl ?_
              refine ok_v (.d (.bool false)) rfl rfl ?_
              refine ok_nil ?_
              obtain rfl := someE h82
              exact ⟨_, _, _, rfl⟩
          · rintro _ ⟨j83, j84, j85, rfl⟩
            obtain ⟨c86, h87, h0⟩ := bindE h0
            refine ok_cutQ 4 (fun A st => ∃ (j88 j89 j90 : V), st = A [(138, .d (.bool c86)), (137, j90), (136, j89), (135, j88)]) ?_ ?_
            · refine ok_mvB rfl rfl h87 (fun h87 => ?_) (fun h87 => ?_)
              · refine ok_mv rfl rfl ?_
                refine ok_v (.d (.bool (r37.2 == 4))) rfl rfl ?_
                refine ok_v (.d (.bool (r37.2 == 4))) rfl rfl ?_
                refine ok_nil ?_
                obtain rfl := someE h87
                exact ⟨_, _, _, rfl⟩
              · refine ok_sg rfl ?_
                refine ok_sg rfl ?_
                refine ok_v (.d (.bool false)) rfl rfl ?_
                refine ok_nil ?_
                obtain rfl := someE h87
                exact ⟨_, _, _, rfl⟩
            · rintro _ ⟨j88, j89, j90, rfl⟩
              obtain ⟨c91, h92, h0⟩ := bindE h0
              refine ok_cutQ 4 (fun A st => ∃ (j93 j94 j95 : V), st = A [(142, .d (.bool c91)), (141, j95), (140, j94), (139, j93)]) ?_ ?_
              · refine ok_mvB rfl rfl h92 (fun h92 => ?_) (fun h92 => ?_)
                · refine ok_mv rfl rfl ?_
                  refine ok_v (.d (.bool (r39.2 == 4))) rfl rfl ?_
                  refine ok_v (.d (.bool (r39.2 == 4))) rfl rfl ?_
                  refine ok_nil ?_
                  obtain rfl := someE h92
                  exact ⟨_, _, _, rfl⟩
                · refine ok_sg rfl ?_
                  refine ok_sg rfl ?_
                  refine ok_v (.d (.bool false)) rfl rfl ?_
                  refine ok_nil ?_
                  obtain rfl := someE h92
                  exact ⟨_, _, _, rfl⟩
              · rintro _ ⟨j93, j94, j95, rfl⟩
                obtain ⟨c96, h97, h0⟩ := bindE h0
                refine ok_cutQ 4 (fun A st => ∃ (j98 j99 j100 : V), st = A [(146, .d (.bool c96)), (145, j100), (144, j99), (143, j98)]) ?_ ?_
                · refine ok_mvB rfl rfl h97 (fun h97 => ?_) (fun h97 => ?_)
                  · refine ok_mv rfl rfl ?_
                    refine ok_v (.d (.bool (r41.2 == 8))) rfl rfl ?_
                    refine ok_v (.d (.bool (r41.2 == 8))) rfl rfl ?_
                    refine ok_nil ?_
                    obtain rfl := someE h97
                    exact ⟨_, _, _, rfl⟩
                  · refine ok_sg rfl ?_
                    refine ok_sg rfl ?_
                    refine ok_v (.d (.bool false)) rfl rfl ?_
                    refine ok_nil ?_
                    obtain rfl := someE h97
                    exact ⟨_, _, _, rfl⟩
                · rintro _ ⟨j98, j99, j100, rfl⟩
                  obtain ⟨c101, h102, h0⟩ := bindE h0
                  refine ok_cutQ 4 (fun A st => ∃ (j103 j104 j105 : V), st = A [(150, .d (.bool c101)), (149, j105), (148, j104), (147, j103)]) ?_ ?_
                  · refine ok_mvB rfl rfl h102 (fun h102 => ?_) (fun h102 => ?_)
                    · refine ok_mv rfl rfl ?_
                      refine ok_v (.d (.bool (r45.2 == 16))) rfl rfl ?_
                      refine ok_v (.d (.bool (r45.2 == 16))) rfl rfl ?_
                      refine ok_nil ?_
                      obtain rfl := someE h102
                      exact ⟨_, _, _, rfl⟩
                    · refine ok_sg rfl ?_
                      refine ok_sg rfl ?_
                      refine ok_v (.d (.bool false)) rfl rfl ?_
                      refine ok_nil ?_
                      obtain rfl := someE h102
                      exact ⟨_, _, _, rfl⟩
                  · rintro _ ⟨j103, j104, j105, rfl⟩
                    obtain ⟨c106, h107, h0⟩ := bindE h0
                    refine ok_cutQ 4 (fun A st => ∃ (j108 j109 j110 : V), st = A [(154, .d (.bool c106)), (153, j110), (152, j109), (151, j108)]) ?_ ?_
                    · refine ok_mvB rfl rfl h107 (fun h107 => ?_) (fun h107 => ?_)
                      · refine ok_mv rfl rfl ?_
                        refine ok_v (.d (.bool (r49.2 == 0))) rfl rfl ?_
                        refine ok_v (.d (.bool (r49.2 == 0))) rfl rfl ?_
                        refine ok_nil ?_
                        obtain rfl := someE h107
                        exact ⟨_, _, _, rfl⟩
                      · refine ok_sg rfl ?_
                        refine ok_sg rfl ?_
                        refine ok_v (.d (.bool false)) rfl rfl ?_
                        refine ok_nil ?_
                        obtain rfl := someE h107
                        exact ⟨_, _, _, rfl⟩
                    · rintro _ ⟨j108, j109, j110, rfl⟩
                      obtain ⟨c111, h112, h0⟩ := bindE h0
                      refine ok_cutQ 5 (fun A st => ∃ (j113 j114 j115 j116 : V), st = A [(159, .d (.bool c111)), (158, j116), (157, j115), (156, j114), (155, j113)]) ?_ ?_
                      · refine ok_mvB rfl rfl h112 (fun h112 => ?_) (fun h112 => ?_)
                        · refine ok_mv rfl rfl ?_
                          refine ok_ln rfl rfl rfl rfl ?_
                          refine ok_v (.d (.bool ((r49.1.length : Int) == 2))) rfl rfl ?_
                          refine ok_v (.d (.bool ((r49.1.length : Int) == 2))) rfl rfl ?_
                          refine ok_nil ?_
                          obtain rfl := someE h112
                          exact ⟨_, _, _, _, rfl⟩
                        · refine ok_sg rfl ?_
                          refine ok_sg rfl ?_
                          refine ok_sg rfl ?_
                          refine ok_v (.d (.bool false)) rfl rfl ?_
                          refine ok_nil ?_
                          obtain rfl := someE h112
                          exact ⟨_, _, _, _, rfl⟩
                      · rintro _ ⟨j113, j114, j115, j116, rfl⟩
                        obtain ⟨c117, h118, h0⟩ := bindE h0
                        refine ok_cutQ 4 (fun A st => ∃ (j119 j120 j121 : V), st = A [(163, .d (.bool c117)), (162, j121), (161, j120), (160, j119)]) ?_ ?_
                        · refine ok_mvB rfl rfl h118 (fun h118 => ?_) (fun h118 => ?_)
                          · refine ok_mv rfl rfl ?_
                            refine ok_v (.d (.bool (r51.2 == 6))) rfl rfl ?_
                            refine ok_v (.d (.bool (r51.2 == 6))) rfl rfl ?_
                            refine ok_nil ?_
                            obtain rfl := someE h118
                            exact ⟨_, _, _, rfl⟩
                          · refine ok_sg rfl ?_
                            refine ok_sg rfl ?_
                            refine ok_v (.d (.bool false)) rfl rfl ?_
                            refine ok_nil ?_
                            obtain rfl := someE h118
                            exact ⟨_, _, _, rfl⟩
                        · rintro _ ⟨j119, j120, j121, rfl⟩
                          obtain ⟨c122, h123, h0⟩ := bindE h0
                          refine ok_cutQ 4 (fun A st => ∃ (j124 j125 j126 : V), st = A [(167, .d (.bool c122)), (166, j126), (165, j125), (164, j124)]) ?_ ?_
                          · refine ok_mvB rfl rfl h123 (fun h123 => ?_) (fun h123 => ?_)
                            · refine ok_mv rfl rfl ?_
                              refine ok_v (.d (.bool (r55.2 == 2))) rfl rfl ?_
                              refine ok_v (.d (.bool (r55.2 == 2))) rfl rfl ?_
                              refine ok_nil ?_
                              obtain rfl := someE h123
                              exact ⟨_, _, _, rfl⟩
                            · refine ok_sg rfl ?_
                              refine ok_sg rfl ?_
                              refine ok_v (.d (.bool false)) rfl rfl ?_
                              refine ok_nil ?_
                              obtain rfl := someE h123
                              exact ⟨_, _, _, rfl⟩
                          · rintro _ ⟨j124, j125, j126, rfl⟩
                            obtain ⟨c127, h128, h0⟩ := bindE h0
                            refine ok_cutQ 4 (fun A st => ∃ (j129 j130 j131 : V), st = A [(171, .d (.bool c127)), (170, j131), (169, j130), (168, j129)]) ?_ ?_
                            · refine ok_mvB rfl rfl h128 (fun h128 => ?_) (fun h128 => ?_)
                              · refine ok_mv rfl rfl ?_
                                refine ok_v (.d (.bool (r59.2 == 0))) rfl rfl ?_
                                refine ok_v (.d (.bool (r59.2 == 0))) rfl rfl ?_
                                refine ok_nil ?_
                                obtain rfl := someE h128
                                exact ⟨_, _, _, rfl⟩
                              · refine ok_sg rfl ?_
                                refine ok_sg rfl ?_
                                refine ok_v (.d (.bool false)) rfl rfl ?_
                                refine ok_nil ?_
                                obtain rfl := someE h128
                                exact ⟨_, _, _, rfl⟩
                            · rintro _ ⟨j129, j130, j131, rfl⟩
                              obtain ⟨c132, h133, h0⟩ := bindE h0
                              refine ok_cutQ 4 (fun A st => ∃ (j134 j135 j136 : V), st = A [(175, .d (.bool c132)), (174, j136), (173, j135), (172, j134)]) ?_ ?_
                              · refine ok_mvB rfl rfl h133 (fun h133 => ?_) (fun h133 => ?_)
                                · refine ok_mv rfl rfl ?_
                                  refine ok_v (.d (.bool (r59.1 == 1000000))) rfl rfl ?_
                                  refine ok_v (.d (.bool (r59.1 == 1000000))) rfl rfl ?_
                                  refine ok_nil ?_
                                  obtain rfl := someE h133
                                  exact ⟨_, _, _, rfl⟩
                                · refine ok_sg rfl ?_
                                  refine ok_sg rfl ?_
                                  refine ok_v (.d (.bool false)) rfl rfl ?_
                                  refine ok_nil ?_
                                  obtain rfl := someE h133
                                  exact ⟨_, _, _, rfl⟩
                              · rintro _ ⟨j134, j135, j136, rfl⟩
                                obtain ⟨c137, h138, h0⟩ := bindE h0
                                refine ok_cutQ 4 (fun A st => ∃ (j139 j140 j141 : V), st = A [(179, .d (.bool c137)), (178, j141), (177, j140), (176, j139)]) ?_ ?_
                                · refine ok_mvB rfl rfl h138 (fun h138 => ?_) (fun h138 => ?_)
                                  · refine ok_mv rfl rfl ?_
                                    refine ok_v (.d (.bool (r61.2 == 8))) rfl rfl ?_
                                    refine ok_v (.d (.bool (r61.2 == 8))) rfl rfl ?_
                                    refine ok_nil ?_
                                    obtain rfl := someE h138
                                    exact ⟨_, _, _, rfl⟩
                                  · refine ok_sg rfl ?_
                                    refine ok_sg rfl ?_
                                    refine ok_v (.d (.bool false)) rfl rfl ?_
                                    refine ok_nil ?_
                                    obtain rfl := someE h138
                                    exact ⟨_, _, _, rfl⟩
                                · rintro _ ⟨j139, j140, j141, rfl⟩
                                  obtain ⟨c142, h143, h0⟩ := bindE h0
                                  refine ok_cutQ 4 (fun A st => ∃ (j144 j145 j146 : V), st = A [(183, .d (.bool c142)), (182, j146), (181, j145), (180, j144)]) ?_ ?_
                                  · refine ok_mvB rfl rfl h143 (fun h143 => ?_) (fun h143 => ?_)
                                    · refine ok_mv rfl rfl ?_
                                      refine ok_v (.d (.bool (r63.2 == 0))) rfl rfl ?_
                                      refine ok_v (.d (.bool (r63.2 == 0))) rfl rfl ?_
                                      refine ok_nil ?_
                                      obtain rfl := someE h143
                                      exact ⟨_, _, _, rfl⟩
                                    · refine ok_sg rfl ?_
                                      refine ok_sg rfl ?_
                                      refine ok_v (.d (.bool false)) rfl rfl ?_
                                      refine ok_nil ?_
                                      obtain rfl := someE h143
                                      exact ⟨_, _, _, rfl⟩
                                  · rintro _ ⟨j144, j145, j146, rfl⟩
                                    obtain ⟨c147, h148, h0⟩ := bindE h0
                                    refine ok_cutQ 5 (fun A st => ∃ (j149 j150 j151 j152 : V), st = A [(188, .d (.bool c147)), (187, j152), (186, j151), (185, j150), (184, j149)]) ?_ ?_
                                    · refine ok_mvB rfl rfl h148 (fun h148 => ?_) (fun h148 => ?_)
                                      · refine ok_mv rfl rfl ?_
                                        refine ok_ln rfl rfl rfl rfl ?_
                                        refine ok_v (.d (.bool ((r63.1.length : Int) == 0))) rfl rfl ?_
                                        refine ok_v (.d (.bool ((r63.1.length : Int) == 0))) rfl rfl ?_
                                        refine ok_nil ?_
                                        obtain rfl := someE h148
                                        exact ⟨_, _, _, _, rfl⟩
                                      · refine ok_sg rfl ?_
                                        refine ok_sg rfl ?_
                                        refine ok_sg rfl ?_
                                        refine ok_v (.d (.bool false)) rfl rfl ?_
                                        refine ok_nil ?_
                                        obtain rfl := someE h148
                                        exact ⟨_, _, _, _, rfl⟩
                                    · rintro _ ⟨j149, j150, j151, j152, rfl⟩
                                      refine ok_as rfl rfl ?_
                                      refine ok_nil ?_
                                      refine rk_ret ?_
                                      obtain rfl := someE h0
                                      exact finD (.inr rfl) (v := .d (.bool c147)) rfl rfl (.refl _)
      · refine ok_sg rfl ?_
        refine ok_sg rfl ?_
        refine ok_sg rfl ?_
        refine ok_sg rfl ?_
        refine ok_v (.d (.bool false)) rfl rfl ?_
        refine ok_as rfl rfl ?_
        refine ok_nil ?_
        refine rk_seq ?_
        refine rk_region ?_
        refine ok_mv rfl rfl ?_
        obtain ⟨r153, h154, h0⟩ := bindE h0
        refine ok_pc [] (l11_alive_ok r153 h154) rfl rfl rfl (.inl rfl) ?_
        refine ok_v (.d (.bool r153)) rfl rfl ?_
        obtain ⟨c155, h156, h0⟩ := bindE h0
        refine ok_cutQ 3 (fun A st => ∃ (j157 j158 : V), st = A [(130, .d (.bool c155)), (129, j158), (128, j157)]) ?_ ?_
        · refine ok_mvB rfl rfl h156 (fun h156 => ?_) (fun h156 => ?_)
          · refine ok_mv rfl rfl ?_
            refine ok_v (.d (.bool false)) rfl rfl ?_
            refine ok_nil ?_
            obtain rfl := someE h156
            exact ⟨_, _, rfl⟩
          · refine ok_sg rfl ?_
            refine ok_v (.d (.bool false)) rfl rfl ?_
            refine ok_nil ?_
            obtain rfl := someE h156
            exact ⟨_, _, rfl⟩
        · rintro _ ⟨j157, j158, rfl⟩
          obtain ⟨c159, h160, h0⟩ := bindE h0
          refine ok_cutQ 4 (fun A st => ∃ (j161 j162 j163 : V), st = A [(134, .d (.bool c159)), (133, j163), (132, j162), (131, j161)]) ?_ ?_
          · refine ok_mvB rfl rfl h160 (fun h160 => ?_) (fun h160 => ?_)
            · refine ok_mv rfl rfl ?_
              refine ok_v (.d (.bool (r31.2 == 4))) rfl rfl ?_
              refine ok_v (.d (.bool (r31.2 == 4))) rfl rfl ?_
              refine ok_nil ?_
              obtain rfl := someE h160
              exact ⟨_, _, _, rfl⟩
            · refine ok_sg rfl ?_
              refine ok_sg rfl ?_
              refine ok_v (.d (.bool false)) rfl rfl ?_
              refine ok_nil ?_
              obtain rfl := someE h160
              exact ⟨_, _, _, rfl⟩
          · rintro _ ⟨j161, j162, j163, rfl⟩
            obtain ⟨c164, h165, h0⟩ := bindE h0
            refine ok_cutQ 4 (fun A st => ∃ (j166 j167 j168 : V), st = A [(138, .d (.bool c164)), (137, j168), (136, j167), (135, j166)]) ?_ ?_
            · refine ok_mvB rfl rfl h165 (fun h165 => ?_) (fun h165 => ?_)
              · refine ok_mv rfl rfl ?_
                refine ok_v (.d (.bool (r37.2 == 4))) rfl rfl ?_
                refine ok_v (.d (.bool (r37.2 == 4))) rfl rfl ?_
                refine ok_nil ?_
                obtain rfl := someE h165
                exact ⟨_, _, _, rfl⟩
              · refine ok_sg rfl ?_
                refine ok_sg rfl ?_
                refine ok_v (.d (.bool false)) rfl rfl ?_
                refine ok_nil ?_
                obtain rfl := someE h165
                exact ⟨_, _, _, rfl⟩
            · rintro _ ⟨j166, j167, j168, rfl⟩
              obtain ⟨c169, h170, h0⟩ := bindE h0
              refine ok_cutQ 4 (fun A st => ∃ (j171 j172 j173 : V), st = A [(142, .d (.bool c169)), (141, j173), (140, j172), (139, j171)]) ?_ ?_
              · refine ok_mvB rfl rfl h170 (fun h170 => ?_) (fun h170 => ?_)
                · refine ok_mv rfl rfl ?_
                  refine ok_v (.d (.bool (r39.2 == 4))) rfl rfl ?_
                  refine ok_v (.d (.bool (r39.2 == 4))) rfl rfl ?_
                  refine ok_nil ?_
                  obtain rfl := someE h170
                  exact ⟨_, _, _, rfl⟩
                · refine ok_sg rfl ?_
                  refine ok_sg rfl ?_
                  refine ok_v (.d (.bool false)) rfl rfl ?_
                  refine ok_nil ?_
                  obtain rfl := someE h170
                  exact ⟨_, _, _, rfl⟩
              · rintro _ ⟨j171, j172, j173, rfl⟩
                obtain ⟨c174, h175, h0⟩ := bindE h0
                refine ok_cutQ 4 (fun A st => ∃ (j176 j177 j178 : V), st = A [(146, .d (.bool c174)), (145, j178), (144, j177), (143, j176)]) ?_ ?_
                · refine ok_mvB rfl rfl h175 (fun h175 => ?_) (fun h175 => ?_)
                  · refine ok_mv rfl rfl ?_
                    refine ok_v (.d (.bool (r41.2 == 8))) rfl rfl ?_
                    refine ok_v (.d (.bool (r41.2 == 8))) rfl rfl ?_
                    refine ok_nil ?_
                    obtain rfl := someE h175
                    exact ⟨_, _, _, rfl⟩
                  · refine ok_sg rfl ?_
                    refine ok_sg rfl ?_
                    refine ok_v (.d (.bool false)) rfl rfl ?_
                    refine ok_nil ?_
                    obtain rfl := someE h175
                    exact ⟨_, _, _, rfl⟩
                · rintro _ ⟨j176, j177, j178, rfl⟩
                  obtain ⟨c179, h180, h0⟩ := bindE h0
                  refine ok_cutQ 4 (fun A st => ∃ (j181 j182 j183 : V), st = A [(150, .d (.bool c179)), (149, j183), (148, j182), (147, j181)]) ?_ ?_
                  · refine ok_mvB rfl rfl h180 (fun h180 => ?_) (fun h180 => ?_)
                    · refine ok_mv rfl rfl ?_
                      refine ok_v (.d (.bool (r45.2 == 16))) rfl rfl ?_
                      refine ok_v (.d (.bool (r45.2 == 16))) rfl rfl ?_
                      refine ok_nil ?_
                      obtain rfl := someE h180
                      exact ⟨_, _, _, rfl⟩
                    · refine ok_sg rfl ?_
                      refine ok_sg rfl ?_
                      refine ok_v (.d (.bool false)) rfl rfl ?_
                      refine ok_nil ?_
                      obtain rfl := someE h180
                      exact ⟨_, _, _, rfl⟩
                  · rintro _ ⟨j181, j182, j183, rfl⟩
                    obtain ⟨c184, h185, h0⟩ := bindE h0
                    refine ok_cutQ 4 (fun A st => ∃ (j186 j187 j188 : V), st = A [(154, .d (.bool c184)), (153, j188), (152, j187), (151, j186)]) ?_ ?_
                    · refine ok_mvB rfl rfl h185 (fun h185 => ?_) (fun h185 => ?_)
                      · refine ok_mv rfl rfl ?_
                        refine ok_v (.d (.bool (r49.2 == 0))) rfl rfl ?_
                        refine ok_v (.d (.bool (r49.2 == 0))) rfl rfl ?_
                        refine ok_nil ?_
                        obtain rfl := someE h185
                        exact ⟨_, _, _, rfl⟩
                      · refine ok_sg rfl ?_
                        refine ok_sg rfl ?_
                        refine ok_v (.d (.bool false)) rfl rfl ?_
                        refine ok_nil ?_
                        obtain rfl := someE h185
                        exact ⟨_, _, _, rfl⟩
                    · rintro _ ⟨j186, j187, j188, rfl⟩
                      obtain ⟨c189, h190, h0⟩ := bindE h0
                      refine ok_cutQ 5 (fun A st => ∃ (j191 j192 j193 j194 : V), st = A [(159, .d (.bool c189)), (158, j194), (157, j193), (156, j192), (155, j191)]) ?_ ?_
                      · refine ok_mvB rfl rfl h190 (fun h190 => ?_) (fun h190 => ?_)
                        · refine ok_mv rfl rfl ?_
                          refine ok_ln rfl rfl rfl rfl ?_
                          refine ok_v (.d (.bool ((r49.1.length : Int) == 2))) rfl rfl ?_
                          refine ok_v (.d (.bool ((r49.1.length : Int) == 2))) rfl rfl ?_
                          refine ok_nil ?_
                          obtain rfl := someE h190
                          exact ⟨_, _, _, _, rfl⟩
                        · refine ok_sg rfl ?_
                          refine ok_sg rfl ?_
                          refine ok_sg rfl ?_
                          refine ok_v (.d (.bool false)) rfl rfl ?_
                          refine ok_nil ?_
                          obtain rfl := someE h190
                          exact ⟨_, _, _, _, rfl⟩
                      · rintro _ ⟨j191, j192, j193, j194, rfl⟩
                        obtain ⟨c195, h196, h0⟩ := bindE h0
                        refine ok_cutQ 4 (fun A st => ∃ (j197 j198 j199 : V), st = A [(163, .d (.bool c195)), (162, j199), (161, j198), (160, j197)]) ?_ ?_
                        · refine ok_mvB rfl rfl h196 (fun h196 => ?_) (fun h196 => ?_)
                          · refine ok_mv rfl rfl ?_
                            refine ok_v (.d (.bool (r51.2 == 6))) rfl rfl ?_
                            refine ok_v (.d (.bool (r51.2 == 6))) rfl rfl ?_
                            refine ok_nil ?_
                            obtain rfl := someE h196
                            exact ⟨_, _, _, rfl⟩
                          · refine ok_sg rfl ?_
                            refine ok_sg rfl ?_
                            refine ok_v (.d (.bool false)) rfl rfl ?_
                            refine ok_nil ?_
                            obtain rfl := someE h196
                            exact ⟨_, _, _, rfl⟩
                        · rintro _ ⟨j197, j198, j199, rfl⟩
                          obtain ⟨c200, h201, h0⟩ := bindE h0
                          refine ok_cutQ 4 (fun A st => ∃ (j202 j203 j204 : V), st = A [(167, .d (.bool c200)), (166, j204), (165, j203), (164, j202)]) ?_ ?_
                          · refine ok_mvB rfl rfl h201 (fun h201 => ?_) (fun h201 => ?_)
                            · refine ok_mv rfl rfl ?_
                              refine ok_v (.d (.bool (r55.2 == 2))) rfl rfl ?_
                              refine ok_v (.d (.bool (r55.2 == 2))) rfl rfl ?_
                              refine ok_nil ?_
                              obtain rfl := someE h201
                              exact ⟨_, _, _, rfl⟩
                            · refine ok_sg rfl ?_
                              refine ok_sg rfl ?_
                              refine ok_v (.d (.bool false)) rfl rfl ?_
                              refine ok_nil ?_
                              obtain rfl := someE h201
                              exact ⟨_, _, _, rfl⟩
                          · rintro _ ⟨j202, j203, j204, rfl⟩
                            obtain ⟨c205, h206, h0⟩ := bindE h0
                            refine ok_cutQ 4 (fun A st => ∃ (j207 j208 j209 : V), st = A [(171, .d (.bool c205)), (170, j209), (169, j208), (168, j207)]) ?_ ?_
                            · refine ok_mvB rfl rfl h206 (fun h206 => ?_) (fun h206 => ?_)
                              · refine ok_mv rfl rfl ?_
                                refine ok_v (.d (.bool (r59.2 == 0))) rfl rfl ?_
                                refine ok_v (.d (.bool (r59.2 == 0))) rfl rfl ?_
                                refine ok_nil ?_
                                obtain rfl := someE h206
                                exact ⟨_, _, _, rfl⟩
                              · refine ok_sg rfl ?_
                                refine ok_sg rfl ?_
                                refine ok_v (.d (.bool false)) rfl rfl ?_
                                refine ok_nil ?_
                                obtain rfl := someE h206
                                exact ⟨_, _, _, rfl⟩
                            · rintro _ ⟨j207, j208, j209, rfl⟩
                              obtain ⟨c210, h211, h0⟩ := bindE h0
                              refine ok_cutQ 4 (fun A st => ∃ (j212 j213 j214 : V), st = A [(175, .d (.bool c210)), (174, j214), (173, j213), (172, j212)]) ?_ ?_
                              · refine ok_mvB rfl rfl h211 (fun h211 => ?_) (fun h211 => ?_)
                                · refine ok_mv rfl rfl ?_
                                  refine ok_v (.d (.bool (r59.1 == 1000000))) rfl rfl ?_
                                  refine ok_v (.d (.bool (r59.1 == 1000000))) rfl rfl ?_
                                  refine ok_nil ?_
                                  obtain rfl := someE h211
                                  exact ⟨_, _, _, rfl⟩
                                · refine ok_sg rfl ?_
                                  refine ok_sg rfl ?_
                                  refine ok_v (.d (.bool false)) rfl rfl ?_
                                  refine ok_nil ?_
                                  obtain rfl := someE h211
                                  exact ⟨_, _, _, rfl⟩
                              · rintro _ ⟨j212, j213, j214, rfl⟩
                                obtain ⟨c215, h216, h0⟩ := bindE h0
                                refine ok_cutQ 4 (fun A st => ∃ (j217 j218 j219 : V), st = A [(179, .d (.bool c215)), (178, j219), (177, j218), (176, j217)]) ?_ ?_
                                · refine ok_mvB rfl rfl h216 (fun h216 => ?_) (fun h216 => ?_)
                                  · refine ok_mv rfl rfl ?_
                                    refine ok_v (.d (.bool (r61.2 == 8))) rfl rfl ?_
                                    refine ok_v (.d (.bool (r61.2 == 8))) rfl rfl ?_
                                    refine ok_nil ?_
                                    obtain rfl := someE h216
                                    exact ⟨_, _, _, rfl⟩
                                  · refine ok_sg rfl ?_
                                    refine ok_sg rfl ?_
                                    refine ok_v (.d (.bool false)) rfl rfl ?_
                                    refine ok_nil ?_
                                    obtain rfl := someE h216
                                    exact ⟨_, _, _, rfl⟩
                                · rintro _ ⟨j217, j218, j219, rfl⟩
                                  obtain ⟨c220, h221, h0⟩ := bindE h0
                                  refine ok_cutQ 4 (fun A st => ∃ (j222 j223 j224 : V), st = A [(183, .d (.bool c220)), (182, j224), (181, j223), (180, j222)]) ?_ ?_
                                  · refine ok_mvB rfl rfl h221 (fun h221 => ?_) (fun h221 => ?_)
                                    · refine ok_mv rfl rfl ?_
                                      refine ok_v (.d (.bool (r63.2 == 0))) rfl rfl ?_
                                      refine ok_v (.d (.bool (r63.2 == 0))) rfl rfl ?_
                                      refine ok_nil ?_
                                      obtain rfl := someE h221
                                      exact ⟨_, _, _, rfl⟩
                                    · refine ok_sg rfl ?_
                                      refine ok_sg rfl ?_
                                      refine ok_v (.d (.bool false)) rfl rfl ?_
                                      refine ok_nil ?_
                                      obtain rfl := someE h221
                                      exact ⟨_, _, _, rfl⟩
                                  · rintro _ ⟨j222, j223, j224, rfl⟩
                                    obtain ⟨c225, h226, h0⟩ := bindE h0
                                    refine ok_cutQ 5 (fun A st => ∃ (j227 j228 j229 j230 : V), st = A [(188, .d (.bool c225)), (187, j230), (186, j229), (185, j228), (184, j227)]) ?_ ?_
                                    · refine ok_mvB rfl rfl h226 (fun h226 => ?_) (fun h226 => ?_)
                                      · refine ok_mv rfl rfl ?_
                                        refine ok_ln rfl rfl rfl rfl ?_
                                        refine ok_v (.d (.bool ((r63.1.length : Int) == 0))) rfl rfl ?_
                                        refine ok_v (.d (.bool ((r63.1.length : Int) == 0))) rfl rfl ?_
                                        refine ok_nil ?_
                                        obtain rfl := someE h226
                                        exact ⟨_, _, _, _, rfl⟩
                                      · refine ok_sg rfl ?_
                                        refine ok_sg rfl ?_
                                        refine ok_sg rfl ?_
                                        refine ok_v (.d (.bool false)) rfl rfl ?_
                                        refine ok_nil ?_
                                        obtain rfl := someE h226
                                        exact ⟨_, _, _, _, rfl⟩
                                    · rintro _ ⟨j227, j228, j229, j230, rfl⟩
                                      refine ok_as rfl rfl ?_
                                      refine ok_nil ?_
                                      refine rk_ret ?_
                                      obtain rfl := someE h0
                                      exact finD (.inr rfl) (v := .d (.bool c225)) rfl rfl (.refl _)
    · refine ok_sg rfl ?_
      refine ok_sg rfl ?_
      refine ok_sg rfl ?_
      refine ok_sg rfl ?_
      refine ok_v (.d (.bool false)) rfl rfl ?_
      refine ok_mv rfl rfl ?_
      refine ok_sg rfl ?_
      refine ok_sg rfl ?_
      refine ok_sg rfl ?_
      refine ok_sg rfl ?_
      refine ok_v (.d (.bool false)) rfl rfl ?_
      refine ok_as rfl rfl ?_
      refine ok_nil ?_
      refine rk_seq ?_
      refine rk_region ?_
      refine ok_mv rfl rfl ?_
      obtain ⟨r231, h232, h0⟩ := bindE h0
      refine ok_pc [] (l11_alive_ok r231 h232) rfl rfl rfl (.inl rfl) ?_
      refine ok_v (.d (.bool r231)) rfl rfl ?_
      obtain ⟨c233, h234, h0⟩ := bindE h0
      refine ok_cutQ 3 (fun A st => ∃ (j235 j236 : V), st = A [(130, .d (.bool c233)), (129, j236), (128, j235)]) ?_ ?_
      · refine ok_mvB rfl rfl h234 (fun h234 => ?_) (fun h234 => ?_)
        · refine ok_mv rfl rfl ?_
          refine ok_v (.d (.bool false)) rfl rfl ?_
          refine ok_nil ?_
          obtain rfl := someE h234
          exact ⟨_, _, rfl⟩
        · refine ok_sg rfl ?_
          refine ok_v (.d (.bool false)) rfl rfl ?_
          refine ok_nil ?_
          obtain rfl := someE h234
          exact ⟨_, _, rfl⟩
      · rintro _ ⟨j235, j236, rfl⟩
        obtain ⟨c237, h238, h0⟩ := bindE h0
        refine ok_cutQ 4 (fun A st => ∃ (j239 j240 j241 : V), st = A [(134, .d (.bool c237)), (133, j241), (132, j240), (131, j239)]) ?_ ?_
        · refine ok_mvB rfl rfl h238 (fun h238 => ?_) (fun h238 => ?_)
          · refine ok_mv rfl rfl ?_
            refine ok_v (.d (.bool (r31.2 == 4))) rfl rfl ?_
            refine ok_v (.d (.bool (r31.2 == 4))) rfl rfl ?_
            refine ok_nil ?_
            obtain rfl := someE h238
            exact ⟨_, _, _, rfl⟩
          · refine ok_sg rfl ?_
            refine ok_sg rfl ?_
            refine ok_v (.d (.bool false)) rfl rfl ?_
            refine ok_nil ?_
            obtain rfl := someE h238
            exact ⟨_, _, _, rfl⟩
        · rintro _ ⟨j239, j240, j241, rfl⟩
          obtain ⟨c242, h243, h0⟩ := bindE h0
          refine ok_cutQ 4 (fun A st => ∃ (j244 j245 j246 : V), st = A [(138, .d (.bool c242)), (137, j246), (136, j245), (135, j244)]) ?_ ?_
          · refine ok_mvB rfl rfl h243 (fun h243 => ?_) (fun h243 => ?_)
            · refine ok_mv rfl rfl ?_
              refine ok_v (.d (.bool (r37.2 == 4))) rfl rfl ?_
              refine ok_v (.d (.bool (r37.2 == 4))) rfl rfl ?_
              refine ok_nil ?_
              obtain rfl := someE h243
              exact ⟨_, _, _, rfl⟩
            · refine ok_sg rfl ?_
              refine ok_sg rfl ?_
              refine ok_v (.d (.bool false)) rfl rfl ?_
              refine ok_nil ?_
              obtain rfl := someE h243
              exact ⟨_, _, _, rfl⟩
          · rintro _ ⟨j244, j245, j246, rfl⟩
            obtain ⟨c247, h248, h0⟩ := bindE h0
            refine ok_cutQ 4 (fun A st => ∃ (j249 j250 j251 : V), st = A [(142, .d (.bool c247)), (141, j251), (140, j250), (139, j249)]) ?_ ?_
            · refine ok_mvB rfl rfl h248 (fun h248 => ?_) (fun h248 => ?_)
              · refine ok_mv rfl rfl ?_
                refine ok_v (.d (.bool (r39.2 == 4))) rfl rfl ?_
                refine ok_v (.d (.bool (r39.2 == 4))) rfl rfl ?_
                refine ok_nil ?_
                obtain rfl := someE h248
                exact ⟨_, _, _, rfl⟩
              · refine ok_sg rfl ?_
                refine ok_sg rfl ?_
                refine ok_v (.d (.bool false)) rfl rfl ?_
                refine ok_nil ?_
                obtain rfl := someE h248
                exact ⟨_, _, _, rfl⟩
            · rintro _ ⟨j249, j250, j251, rfl⟩
              obtain ⟨c252, h253, h0⟩ := bindE h0
              refine ok_cutQ 4 (fun A st => ∃ (j254 j255 j256 : V), st = A [(146, .d (.bool c252)), (145, j256), (144, j255), (143, j254)]) ?_ ?_
              · refine ok_mvB rfl rfl h253 (fun h253 => ?_) (fun h253 => ?_)
                · refine ok_mv rfl rfl ?_
                  refine ok_v (.d (.bool (r41.2 == 8))) rfl rfl ?_
                  refine ok_v (.d (.bool (r41.2 == 8))) rfl rfl ?_
                  refine ok_nil ?_
                  obtain rfl := someE h253
                  exact ⟨_, _, _, rfl⟩
                · refine ok_sg rfl ?_
                  refine ok_sg rfl ?_
                  refine ok_v (.d (.bool false)) rfl rfl ?_
                  refine ok_nil ?_
                  obtain rfl := someE h253
                  exact ⟨_, _, _, rfl⟩
              · rintro _ ⟨j254, j255, j256, rfl⟩
                obtain ⟨c257, h258, h0⟩ := bindE h0
                refine ok_cutQ 4 (fun A st => ∃ (j259 j260 j261 : V), st = A [(150, .d (.bool c257)), (149, j261), (148, j260), (147, j259)]) ?_ ?_
                · refine ok_mvB rfl rfl h258 (fun h258 => ?_) (fun h258 => ?_)
                  · refine ok_mv rfl rfl ?_
                    refine ok_v (.d (.bool (r45.2 == 16))) rfl rfl ?_
                    refine ok_v (.d (.bool (r45.2 == 16))) rfl rfl ?_
                    refine ok_nil ?_
                    obtain rfl := someE h258
                    exact ⟨_, _, _, rfl⟩
                  · refine ok_sg rfl ?_
                    refine ok_sg rfl ?_
                    refine ok_v (.d (.bool false)) rfl rfl ?_
                    refine ok_nil ?_
                    obtain rfl := someE h258
                    exact ⟨_, _, _, rfl⟩
                · rintro _ ⟨j259, j260, j261, rfl⟩
                  obtain ⟨c262, h263, h0⟩ := bindE h0
                  refine ok_cutQ 4 (fun A st => ∃ (j264 j265 j266 : V), st = A [(154, .d (.bool c262)), (153, j266), (152, j265), (151, j264)]) ?_ ?_
                  · refine ok_mvB rfl rfl h263 (fun h263 => ?_) (fun h263 => ?_)
                    · refine ok_mv rfl rfl ?_
                      refine ok_v (.d (.bool (r49.2 == 0))) rfl rfl ?_
                      refine ok_v (.d (.bool (r49.2 == 0))) rfl rfl ?_
                      refine ok_nil ?_
                      obtain rfl := someE h263
                      exact ⟨_, _, _, rfl⟩
                    · refine ok_sg rfl ?_
                      refine ok_sg rfl ?_
                      refine ok_v (.d (.bool false)) rfl rfl ?_
                      refine ok_nil ?_
                      obtain rfl := someE h263
                      exact ⟨_, _, _, rfl⟩
                  · rintro _ ⟨j264, j265, j266, rfl⟩
                    obtain ⟨c267, h268, h0⟩ := bindE h0
                    refine ok_cutQ 5 (fun A st => ∃ (j269 j270 j271 j272 : V), st = A [(159, .d (.bool c267)), (158, j272), (157, j271), (156, j270), (155, j269)]) ?_ ?_
                    · refine ok_mvB rfl rfl h268 (fun h268 => ?_) (fun h268 => ?_)
                      · refine ok_mv rfl rfl ?_
                        refine ok_ln rfl rfl rfl rfl ?_
                        refine ok_v (.d (.bool ((r49.1.length : Int) == 2))) rfl rfl ?_
                        refine ok_v (.d (.bool ((r49.1.length : Int) == 2))) rfl rfl ?_
                        refine ok_nil ?_
                        obtain rfl := someE h268
                        exact ⟨_, _, _, _, rfl⟩
                      · refine ok_sg rfl ?_
                        refine ok_sg rfl ?_
                        refine ok_sg rfl ?_
                        refine ok_v (.d (.bool false)) rfl rfl ?_
                        refine ok_nil ?_
                        obtain rfl := someE h268
                        exact ⟨_, _, _, _, rfl⟩
                    · rintro _ ⟨j269, j270, j271, j272, rfl⟩
                      obtain ⟨c273, h274, h0⟩ := bindE h0
                      refine ok_cutQ 4 (fun A st => ∃ (j275 j276 j277 : V), st = A [(163, .d (.bool c273)), (162, j277), (161, j276), (160, j275)]) ?_ ?_
                      · refine ok_mvB rfl rfl h274 (fun h274 => ?_) (fun h274 => ?_)
                        · refine ok_mv rfl rfl ?_
                          refine ok_v (.d (.bool (r51.2 == 6))) rfl rfl ?_
                          refine ok_v (.d (.bool (r51.2 == 6))) rfl rfl ?_
                          refine ok_nil ?_
                          obtain rfl := someE h274
                          exact ⟨_, _, _, rfl⟩
                        · refine ok_sg rfl ?_
                          refine ok_sg rfl ?_
                          refine ok_v (.d (.bool false)) rfl rfl ?_
                          refine ok_nil ?_
                          obtain rfl := someE h274
                          exact ⟨_, _, _, rfl⟩
                      · rintro _ ⟨j275, j276, j277, rfl⟩
                        obtain ⟨c278, h279, h0⟩ := bindE h0
                        refine ok_cutQ 4 (fun A st => ∃ (j280 j281 j282 : V), st = A [(167, .d (.bool c278)), (166, j282), (165, j281), (164, j280)]) ?_ ?_
                        · refine ok_mvB rfl rfl h279 (fun h279 => ?_) (fun h279 => ?_)
                          · refine ok_mv rfl rfl ?_
                            refine ok_v (.d (.bool (r55.2 == 2))) rfl rfl ?_
                            refine ok_v (.d (.bool (r55.2 == 2))) rfl rfl ?_
                            refine ok_nil ?_
                            obtain rfl := someE h279
                            exact ⟨_, _, _, rfl⟩
                          · refine ok_sg rfl ?_
                            refine ok_sg rfl ?_
                            refine ok_v (.d (.bool false)) rfl rfl ?_
                            refine ok_nil ?_
                            obtain rfl := someE h279
                            exact ⟨_, _, _, rfl⟩
                        · rintro _ ⟨j280, j281, j282, rfl⟩
                          obtain ⟨c283, h284, h0⟩ := bindE h0
                          refine ok_cutQ 4 (fun A st => ∃ (j285 j286 j287 : V), st = A [(171, .d (.bool c283)), (170, j287), (169, j286), (168, j285)]) ?_ ?_
                          · refine ok_mvB rfl rfl h284 (fun h284 => ?_) (fun h284 => ?_)
                            · refine ok_mv rfl rfl ?_
                              refine ok_v (.d (.bool (r59.2 == 0))) rfl rfl ?_
                              refine ok_v (.d (.bool (r59.2 == 0))) rfl rfl ?_
                              refine ok_nil ?_
                              obtain rfl := someE h284
                              exact ⟨_, _, _, rfl⟩
                            · refine ok_sg rfl ?_
                              refine ok_sg rfl ?_
                              refine ok_v (.d (.bool false)) rfl rfl ?_
                              refine ok_nil ?_
                              obtain rfl := someE h284
                              exact ⟨_, _, _, rfl⟩
                          · rintro _ ⟨j285, j286, j287, rfl⟩
                            obtain ⟨c288, h289, h0⟩ := bindE h0
                            refine ok_cutQ 4 (fun A st => ∃ (j290 j291 j292 : V), st = A [(175, .d (.bool c288)), (174, j292), (173, j291), (172, j290)]) ?_ ?_
                            · refine ok_mvB rfl rfl h289 (fun h289 => ?_) (fun h289 => ?_)
                              · refine ok_mv rfl rfl ?_
                                refine ok_v (.d (.bool (r59.1 == 1000000))) rfl rfl ?_
                                refine ok_v (.d (.bool (r59.1 == 1000000))) rfl rfl ?_
                                refine ok_nil ?_
                                obtain rfl := someE h289
                                exact ⟨_, _, _, rfl⟩
                              · refine ok_sg rfl ?_
                                refine ok_sg rfl ?_
                                refine ok_v (.d (.bool false)) rfl rfl ?_
                                refine ok_nil ?_
                                obtain rfl := someE h289
                                exact ⟨_, _, _, rfl⟩
                            · rintro _ ⟨j290, j291, j292, rfl⟩
                              obtain ⟨c293, h294, h0⟩ := bindE h0
                              refine ok_cutQ 4 (fun A st => ∃ (j295 j296 j297 : V), st = A [(179, .d (.bool c293)), (178, j297), (177, j296), (176, j295)]) ?_ ?_
                              · refine ok_mvB rfl rfl h294 (fun h294 => ?_) (fun h294 => ?_)
                                · refine ok_mv rfl rfl ?_
                                  refine ok_v (.d (.bool (r61.2 == 8))) rfl rfl ?_
                                  refine ok_v (.d (.bool (r61.2 == 8))) rfl rfl ?_
                                  refine ok_nil ?_
                                  obtain rfl := someE h294
                                  exact ⟨_, _, _, rfl⟩
                                · refine ok_sg rfl ?_
                                  refine ok_sg rfl ?_
                                  refine ok_v (.d (.bool false)) rfl rfl ?_
                                  refine ok_nil ?_
                                  obtain rfl := someE h294
                                  exact ⟨_, _, _, rfl⟩
                              · rintro _ ⟨j295, j296, j297, rfl⟩
                                obtain ⟨c298, h299, h0⟩ := bindE h0
                                refine ok_cutQ 4 (fun A st => ∃ (j300 j301 j302 : V), st = A [(183, .d (.bool c298)), (182, j302), (181, j301), (180, j300)]) ?_ ?_
                                · refine ok_mvB rfl rfl h299 (fun h299 => ?_) (fun h299 => ?_)
                                  · refine ok_mv rfl rfl ?_
                                    refine ok_v (.d (.bool (r63.2 == 0))) rfl rfl ?_
                                    refine ok_v (.d (.bool (r63.2 == 0))) rfl rfl ?_
                                    refine ok_nil ?_
                                    obtain rfl := someE h299
                                    exact ⟨_, _, _, rfl⟩
                                  · refine ok_sg rfl ?_
                                    refine ok_sg rfl ?_
                                    refine ok_v (.d (.bool false)) rfl rfl ?_
                                    refine ok_nil ?_
                                    obtain rfl := someE h299
                                    exact ⟨_, _, _, rfl⟩
                                · rintro _ ⟨j300, j301, j302, rfl⟩
                                  obtain ⟨c303, h304, h0⟩ := bindE h0
                                  refine ok_cutQ 5 (fun A st => ∃ (j305 j306 j307 j308 : V), st = A [(188, .d (.bool c303)), (187, j308), (186, j307), (185, j306), (184, j305)]) ?_ ?_
                                  · refine ok_mvB rfl rfl h304 (fun h304 => ?_) (fun h304 => ?_)
                                    · refine ok_mv rfl rfl ?_
                                      refine ok_ln rfl rfl rfl rfl ?_
                                      refine ok_v (.d (.bool ((r63.1.length : Int) == 0))) rfl rfl ?_
                                      refine ok_v (.d (.bool ((r63.1.length : Int) == 0))) rfl rfl ?_
                                      refine ok_nil ?_
                                      obtain rfl := someE h304
                                      exact ⟨_, _, _, _, rfl⟩
                                    · refine ok_sg rfl ?_
                                      refine ok_sg rfl ?_
                                      refine ok_sg rfl ?_
                                      refine ok_v (.d (.bool false)) rfl rfl ?_
                                      refine ok_nil ?_
                                      obtain rfl := someE h304
                                      exact ⟨_, _, _, _, rfl⟩
                                  · rintro _ ⟨j305, j306, j307, j308, rfl⟩
                                    refine ok_as rfl rfl ?_
                                    refine ok_nil ?_
                                    refine rk_ret ?_
                                    obtain rfl := someE h0
                                    exact finD (.inr rfl) (v := .d (.bool c303)) rfl rfl (.refl _)
end Go.Proofs.Ytcpogfjlehoabaa
