/- THE WALKS, lifted by program: on. -/
import Derived.Test.YtcpogfjlehoabaaWSpanJoinsa
namespace Go.Proofs.Ytcpogfjlehoabaa
open Go Go.Am Go.Sh
theorem r11_Ends_ok (p0 : List api_Span) (p1 : List api_Span) (r : List Int) (h0 : r11_Ends p0 p1 = some r) : Pure Try.prog tab 46 [.sl 2 (p0.map enc_api_Span), .sl 2 (p1.map enc_api_Span)] (.sl 1 (r.map (eI .i64))) := by
  unfold r11_Ends at h0
  refine pure_of_run Try.func46 rfl (by kernel_rfl) (by kernel_rfl) rfl ?_
  refine rk_seq ?_
  refine rk_region ?_
  refine ok_as rfl rfl ?_
  refine ok_nil ?_
  refine rk_seq ?_
  refine rk_region ?_
  refine ok_as rfl rfl ?_
  refine ok_nil ?_
  refine rk_seq ?_
  refine rk_seq ?_
  refine rk_region ?_
  refine ok_as rfl rfl ?_
  refine ok_nil ?_
  obtain ⟨m28, h29, h0⟩ := bindE h0
  refine rk_blockcut (fun b30 => b30 = m28) (fun (b30 : List Int) => ⟨[(1, .d (.sl 2 (p1.map enc_api_Span))), (5, .hs 0 1 0 b30.length)], [(0, .dat 1 (b30.map (eI .i64)))], 1⟩) (by simp) ?_ ?_
  · refine rk_loopF (r11_Ends_L1 p0) (fun (a27 : Int × List Int) => ⟨[(0, .d (.sl 2 (p0.map enc_api_Span))), (1, .d (.sl 2 (p1.map enc_api_Span))), (5, .hs 0 1 0 a27.2.length), (6, .d (.int .i64 a27.1))], [(0, .dat 1 (a27.2.map (eI .i64)))], 1⟩) (0, []) m28 h29 (wkE [] [] [0] rfl ⟨⟨_, rfl, .d (.refl _)⟩, ⟨_, rfl, .d (.refl _)⟩, ⟨_, rfl, .nil (by decide) (ltd rfl)⟩, ⟨_, rfl, .d (.refl _)⟩, trivial⟩ ⟨⟨ltd rfl, .inl ⟨by decide, _, by decide, rfl⟩⟩, trivial⟩) ?_
    intro a27 y25 h26
    unfold r11_Ends_L1 at h26
    refine rk_seq ?_
    refine rk_seq ?_
    refine rk_region ?_
    refine ok_mv rfl rfl ?_
    refine ok_mv rfl rfl ?_
    refine ok_ln rfl rfl rfl rfl ?_
    refine ok_v (.d (.bool (decide (a27.1 < (p0.length : Int))))) rfl rfl ?_
    refine ok_nil ?_
    refine rk_condH rfl h26 (fun _ h26 => ?_) (fun _ h26 => ?_)
    · refine rk_skip ?_
      refine rk_seq ?_
      refine rk_block ?_
      refine rk_regionD (by kernel_rfl) ?_
      refine ok_mv rfl rfl ?_
      refine ok_mv rfl rfl ?_
      refine ok_mv rfl rfl ?_
      obtain ⟨v37, h38, h26⟩ := bindE h26
      refine ok_ix (enc := enc_api_Span) h38 rfl rfl rfl rfl rfl rfl ?_
      refine ok_v (.dref [.int .i64 v37.Lo, .int .i64 v37.Hi] 0) rfl rfl ?_
      refine ok_v (.d (.int .i64 v37.Lo)) rfl rfl ?_
      refine ok_mv rfl rfl ?_
      refine ok_mv rfl rfl ?_
      obtain ⟨v39, h40, h26⟩ := bindE h26
      refine ok_ix (enc := enc_api_Span) h40 rfl rfl rfl rfl rfl rfl ?_
      refine ok_v (.dref [.int .i64 v39.Lo, .int .i64 v39.Hi] 1) rfl rfl ?_
      refine ok_v (.d (.int .i64 v39.Hi)) rfl rfl ?_
      refine ok_new (.hs 1 1 0 [v37.Lo, v39.Hi].length) (.dat 1 ([v37.Lo, v39.Hi].map (eI .i64))) rfl rfl ?_
      obtain ⟨z41, h42, h26⟩ := bindE h26
      refine ok_ap (xs := a27.2) (ys := [v37.Lo, v39.Hi]) (enc := (eI .i64)) (.hs 1 1 0 [v37.Lo, v39.Hi].length) h42 rfl rfl rfl rfl rfl rfl rfl (conts_hs rfl rfl) rfl rfl rfl rfl ?_
      refine ok_as rfl rfl ?_
      refine ok_nil ?_
      refine rk_nil ?_
      refine blk_nor ?_
      refine rk_region ?_
      refine ok_mv rfl rfl ?_
      refine ok_v (.d (.int .i64 (w64 (a27.1 + 1)))) rfl rfl ?_
      refine ok_as rfl rfl ?_
      refine ok_nil ?_
      refine rk_nil ?_
      exact ⟨_, (Option.some.inj h26).symm, wkE [(0, 2)] [] [] rfl ⟨⟨_, rfl, .d (.refl _)⟩, ⟨_, rfl, .d (.refl _)⟩, ⟨_, rfl, .hs rfl (by decide) (ltd rfl)⟩, ⟨_, rfl, .d (.refl _)⟩, trivial⟩ ⟨⟨ltd rfl, .inr ⟨by decide, _, rfl, .dat _ _⟩⟩, trivial⟩⟩
    · refine rk_exit ?_
      refine ⟨_, (Option.some.inj h26).symm, fun hm => ?_⟩
      subst hm
      exact ⟨_, rfl, wkE [(0, 0)] [] [] rfl ⟨⟨_, rfl, .d (.refl _)⟩, ⟨_, rfl, .hs rfl (by decide) (ltd rfl)⟩, trivial⟩ ⟨⟨ltd rfl, .inr ⟨by decide, _, rfl, .dat _ _⟩⟩, trivial⟩⟩
  · intro b30 hb
    subst hb
    refine rk_seq ?_
    refine rk_seq ?_
    refine rk_region ?_
    refine ok_as rfl rfl ?_
    refine ok_nil ?_
    obtain ⟨m70, h71, h0⟩ := bindE h0
    refine rk_blockcut (fun b72 => b72 = m70) (fun (b72 : List Int) => ⟨[(5, .hs 0 1 0 b72.length)], [(0, .dat 1 (b72.map (eI .i64)))], 1⟩) (by simp) ?_ ?_
    · refine rk_loopF (r11_Ends_L2 p1) (fun (a69 : Int × List Int) => ⟨[(1, .d (.sl 2 (p1.map enc_api_Span))), (5, .hs 0 1 0 a69.2.length), (7, .d (.int .i64 a69.1))], [(0, .dat 1 (a69.2.map (eI .i64)))], 1⟩) (0, b30) m70 h71 (wkE [(0, 0)] [] [] rfl ⟨⟨_, rfl, .d (.refl _)⟩, ⟨_, rfl, .hs rfl (by decide) (ltd rfl)⟩, ⟨_, rfl, .d (.refl _)⟩, trivial⟩ ⟨⟨ltd rfl, .inr ⟨by decide, _, rfl, .dat _ _⟩⟩, trivial⟩) ?_
      intro a69 y67 h68
      unfold r11_Ends_L2 at h68
      refine rk_seq ?_
      refine rk_seq ?_
      refine rk_region ?_
      refine ok_mv rfl rfl ?_
      refine ok_mv rfl rfl ?_
      refine ok_ln rfl rfl rfl rfl ?_
      refine ok_v (.d (.bool (decide (a69.1 < (p1.length : Int))))) rfl rfl ?_
      refine ok_nil ?_
      refine rk_condH rfl h68 (fun _ h68 => ?_) (fun _ h68 => ?_)
      · refine rk_skip ?_
        refine rk_seq ?_
        refine rk_block ?_
        refine rk_regionD (by kernel_rfl) ?_
        refine ok_mv rfl rfl ?_
        refine ok_mv rfl rfl ?_
        refine ok_mv rfl rfl ?_
        obtain ⟨v79, h80, h68⟩ := bindE h68
        refine ok_ix (enc := enc_api_Span) h80 rfl rfl rfl rfl rfl rfl ?_
        refine ok_v (.dref [.int .i64 v79.Lo, .int .i64 v79.Hi] 0) rfl rfl ?_
        refine ok_v (.d (.int .i64 v79.Lo)) rfl rfl ?_
        refine ok_mv rfl rfl ?_
        refine ok_mv rfl rfl ?_
        obtain ⟨v81, h82, h68⟩ := bindE h68
        refine ok_ix (enc := enc_api_Span) h82 rfl rfl rfl rfl rfl rfl ?_
        refine ok_v (.dref [.int .i64 v81.Lo, .int .i64 v81.Hi] 1) rfl rfl ?_
        refine ok_v (.d (.int .i64 v81.Hi)) rfl rfl ?_
        refine ok_new (.hs 1 1 0 [v79.Lo, v81.Hi].length) (.dat 1 ([v79.Lo, v81.Hi].map (eI .i64))) rfl rfl ?_
        obtain ⟨z83, h84, h68⟩ := bindE h68
        refine ok_ap (xs := a69.2) (ys := [v79.Lo, v81.Hi]) (enc := (eI .i64)) (.hs 1 1 0 [v79.Lo, v81.Hi].length) h84 rfl rfl rfl rfl rfl rfl rfl (conts_hs rfl rfl) rfl rfl rfl rfl ?_
        refine ok_as rfl rfl ?_
        refine ok_nil ?_
        refine rk_nil ?_
        refine blk_nor ?_
        refine rk_region ?_
        refine ok_mv rfl rfl ?_
        refine ok_v (.d (.int .i64 (w64 (a69.1 + 1)))) rfl rfl ?_
        refine ok_as rfl rfl ?_
        refine ok_nil ?_
        refine rk_nil ?_
        exact ⟨_, (Option.some.inj h68).symm, wkE [(0, 2)] [] [] rfl ⟨⟨_, rfl, .d (.refl _)⟩, ⟨_, rfl, .hs rfl (by decide) (ltd rfl)⟩, ⟨_, rfl, .d (.refl _)⟩, trivial⟩ ⟨⟨ltd rfl, .inr ⟨by decide, _, rfl, .dat _ _⟩⟩, trivial⟩⟩
      · refine rk_exit ?_
        refine ⟨_, (Option.some.inj h68).symm, fun hm => ?_⟩
        subst hm
        exact ⟨_, rfl, wkE [(0, 0)] [] [] rfl ⟨⟨_, rfl, .hs rfl (by decide) (ltd rfl)⟩, trivial⟩ ⟨⟨ltd rfl, .inr ⟨by decide, _, rfl, .dat _ _⟩⟩, trivial⟩⟩
    · intro b72 hb
      subst hb
      refine rk_seq ?_
      refine rk_wk (st' := ⟨[(5, .d (.sl 1 (b72.map (eI .i64))))], [], 0⟩) (wkE [] [0] [] rfl ⟨⟨_, rfl, wv_frz rfl rfl (by decide)⟩, trivial⟩ trivial) ?_ (by simp)
      refine rk_region ?_
      refine ok_mv rfl rfl ?_
      obtain ⟨r85, h86, h0⟩ := bindE h0
      refine ok_pc [.d (.sl 1 (b72.map (eI .i64)))] (r11_Sorted_ok b72 r85 h86) rfl rfl rfl (.inl rfl) ?_
      refine ok_as rfl rfl ?_
      refine ok_nil ?_
      refine rk_ret ?_
      obtain rfl := someE h0
      exact finD (.inr rfl) (v := .d (.sl 1 (r85.map (eI .i64)))) rfl rfl (.refl _)

theorem r11_Has_ok (p0 : List api_Span) (p1 : Int) (r : Bool) (h0 : r11_Has p0 p1 = some r) : Pure Try.prog tab 30 [.sl 2 (p0.map enc_api_Span), .int .i64 p1] (.bool r) := by
  unfold r11_Has at h0
  refine pure_of_run Try.func30 rfl (by kernel_rfl) (by kernel_rfl) rfl ?_
  refine rk_seq ?_
  refine rk_region ?_
  refine ok_as rfl rfl ?_
  refine ok_nil ?_
  refine rk_seq ?_
  refine rk_seq ?_
  refine rk_region ?_
  refine ok_as rfl rfl ?_
  refine ok_nil ?_
  obtain ⟨m68, h69, h0⟩ := bindE h0
  refine rk_blockcut (fun b70 => .inl b70 = m68) (fun (b70 : Unit) => ⟨[], [], 0⟩) (by simp) ?_ ?_
  · refine rk_loopF (r11_Has_L1 p0 p1) (fun (a67 : Int) => ⟨[(0, .d (.sl 2 (p0.map enc_api_Span))), (1, .d (.int .i64 p1)), (5, .d (.int .i64 a67))], [], 0⟩) 0 m68 h69 (wkE [] [] [] rfl ⟨⟨_, rfl, .d (.refl _)⟩, ⟨_, rfl, .d (.refl _)⟩, ⟨_, rfl, .d (.refl _)⟩, trivial⟩ trivial) ?_
    intro a67 y65 h66
    unfold r11_Has_L1 at h66
    refine rk_seq ?_
    refine rk_seq ?_
    refine rk_region ?_
    refine ok_mv rfl rfl ?_
    refine ok_mv rfl rfl ?_
    refine ok_ln rfl rfl rfl rfl ?_
    refine ok_v (.d (.bool (decide (a67 < (p0.length : Int))))) rfl rfl ?_
    refine ok_nil ?_
    refine rk_condH rfl h66 (fun _ h66 => ?_) (fun _ h66 => ?_)
    · refine rk_skip ?_
      refine rk_seq ?_
      refine rk_block ?_
      refine rk_seq ?_
      refine rk_region ?_
      refine ok_mv rfl rfl ?_
      refine ok_mv rfl rfl ?_
      obtain ⟨v87, h88, h66⟩ := bindE h66
      refine ok_ix (enc := enc_api_Span) h88 rfl rfl rfl rfl rfl rfl ?_
      refine ok_v (.dref [.int .i64 v87.Lo, .int .i64 v87.Hi] 0) rfl rfl ?_
      refine ok_v (.d (.int .i64 v87.Lo)) rfl rfl ?_
      refine ok_mv rfl rfl ?_
      refine ok_v (.d (.bool (decide (v87.Lo ≤ p1)))) rfl rfl ?_
      obtain ⟨c91, h92, h66⟩ := bindE h66
      refine ok_cutQ 9 (fun A st => ∃ (j93 j94 j95 j96 j97 j98 j99 j100 : V), st = A [(27, .d (.bool c91)), (26, j100), (25, j99), (24, j98), (23, j97), (22, j96), (21, j95), (20, j94), (19, j93)]) ?_ ?_
      · refine ok_mvB rfl rfl h92 (fun h92 => ?_) (fun h92 => ?_)
        · refine ok_mv rfl rfl ?_
          refine ok_mv rfl rfl ?_
          refine ok_mv rfl rfl ?_
          obtain ⟨v101, h102, h92⟩ := bindE h92
          refine ok_ix (enc := enc_api_Span) h102 rfl rfl rfl rfl rfl rfl ?_
          refine ok_v (.dref [.int .i64 v101.Lo, .int .i64 v101.Hi] 1) rfl rfl ?_
          refine ok_v (.d (.int .i64 v101.Hi)) rfl rfl ?_
          refine ok_v (.d (.bool (decide (p1 < v101.Hi)))) rfl rfl ?_
          refine ok_v (.d (.bool (decide (p1 < v101.Hi)))) rfl rfl ?_
          refine ok_nil ?_
          obtain rfl := someE h92
          exact ⟨_, _, _, _, _, _, _, _, rfl⟩
        · refine ok_sg rfl ?_
          refine ok_sg rfl ?_
          refine ok_sg rfl ?_
          refine ok_sg rfl ?_
          refine ok_sg rfl ?_
          refine ok_sg rfl ?_
          refine ok_sg rfl ?_
          refine ok_v (.d (.bool false)) rfl rfl ?_
          refine ok_nil ?_
          obtain rfl := someE h92
          exact ⟨_, _, _, _, _, _, _, _, rfl⟩
      · rintro _ ⟨j93, j94, j95, j96, j97, j98, j99, j100, rfl⟩
        refine ok_nil ?_
        refine rk_condH rfl h66 (fun _ h66 => ?_) (fun _ h66 => ?_)
        · refine rk_seq ?_
          refine rk_region ?_
          refine ok_as rfl rfl ?_
          refine ok_nil ?_
          refine rk_ret ?_
          refine ⟨_, (Option.some.inj h66).symm, fun hm => ?_⟩
          subst hm
          obtain rfl := someE h0
          exact finD (.inr rfl) (v := .d (.bool true)) rfl rfl (.refl _)
        · refine rk_skip ?_
          refine rk_nil ?_
          refine blk_nor ?_
          refine rk_region ?_
          refine ok_mv rfl rfl ?_
          refine ok_v (.d (.int .i64 (w64 (a67 + 1)))) rfl rfl ?_
          refine ok_as rfl rfl ?_
          refine ok_nil ?_
          refine rk_nil ?_
          exact ⟨_, (Option.some.inj h66).symm, wkE [] [] [] rfl ⟨⟨_, rfl, .d (.refl _)⟩, ⟨_, rfl, .d (.refl _)⟩, ⟨_, rfl, .d (.refl _)⟩, trivial⟩ trivial⟩
    · refine rk_exit ?_
      refine ⟨_, (Option.some.inj h66).symm, fun hm => ?_⟩
      subst hm
      exact ⟨_, rfl, wkE [] [] [] rfl trivial trivial⟩
  · intro b70 hb
    subst hb
    refine rk_seq ?_
    refine rk_region ?_
    refine ok_as rfl rfl ?_
    refine ok_nil ?_
    refine rk_ret ?_
    obtain rfl := someE h0
    exact finD (.inr rfl) (v := .d (.bool false)) rfl rfl (.refl _)

theorem r11_Holds_ok (p0 : Int) (p1 : Bool) (p2 : Bool) (r : Bool) (h0 : r11_Holds p0 p1 p2 = some r) : Pure Try.prog tab 47 [.int .i64 p0, .bool p1, .bool p2] (.bool r) := by
  unfold r11_Holds at h0
  refine pure_of_run Try.func47 rfl (by kernel_rfl) (by kernel_rfl) rfl ?_
  refine rk_seq ?_
  refine rk_region ?_
  refine ok_as rfl rfl ?_
  refine ok_nil ?_
  refine rk_seq ?_
  refine rk_seq ?_
  refine rk_region ?_
  refine ok_mv rfl rfl ?_
  refine ok_v (.d (.bool (p0 == 1))) rfl rfl ?_
  refine ok_nil ?_
  refine rk_condH rfl h0 (fun _ h0 => ?_) (fun _ h0 => ?_)
  · refine rk_seq ?_
    refine rk_region ?_
    refine ok_mv rfl rfl ?_
    obtain ⟨c5, h6, h0⟩ := bindE h0
    refine ok_cutQ 3 (fun A st => ∃ (j7 j8 : V), st = A [(12, .d (.bool c5)), (11, j8), (10, j7)]) ?_ ?_
    · refine ok_mvB rfl rfl h6 (fun h6 => ?_) (fun h6 => ?_)
      · refine ok_mv rfl rfl ?_
        refine ok_v (.d (.bool p2)) rfl rfl ?_
        refine ok_nil ?_
        obtain rfl := someE h6
        exact ⟨_, _, rfl⟩
      · refine ok_sg rfl ?_
        refine ok_v (.d (.bool false)) rfl rfl ?_
        refine ok_nil ?_
        obtain rfl := someE h6
        exact ⟨_, _, rfl⟩
    · rintro _ ⟨j7, j8, rfl⟩
      refine ok_as rfl rfl ?_
      refine ok_nil ?_
      refine rk_ret ?_
      obtain rfl := someE h0
      exact finD (.inr rfl) (v := .d (.bool c5)) rfl rfl (.refl _)
  · refine rk_skip ?_
    refine rk_seq ?_
    refine rk_seq ?_
    refine rk_region ?_
    refine ok_mv rfl rfl ?_
    refine ok_v (.d (.bool (p0 == 2))) rfl rfl ?_
    refine ok_nil ?_
    refine rk_condH rfl h0 (fun _ h0 => ?_) (fun _ h0 => ?_)
    · refine rk_seq ?_
      refine rk_region ?_
      refine ok_mv rfl rfl ?_
      obtain ⟨c13, h14, h0⟩ := bindE h0
      refine ok_cutQ 3 (fun A st => ∃ (j15 j16 : V), st = A [(18, .d (.bool c13)), (17, j16), (16, j15)]) ?_ ?_
      · refine ok_mvB rfl rfl h14 (fun h14 => ?_) (fun h14 => ?_)
        · refine ok_sg rfl ?_
          refine ok_v (.d (.bool true)) rfl rfl ?_
          refine ok_nil ?_
          obtain rfl := someE h14
          exact ⟨_, _, rfl⟩
        · refine ok_mv rfl rfl ?_
          refine ok_v (.d (.bool p2)) rfl rfl ?_
          refine ok_nil ?_
          obtain rfl := someE h14
          exact ⟨_, _, rfl⟩
      · rintro _ ⟨j15, j16, rfl⟩
        refine ok_as rfl rfl ?_
        refine ok_nil ?_
        refine rk_ret ?_
        obtain rfl := someE h0
        exact finD (.inr rfl) (v := .d (.bool c13)) rfl rfl (.refl _)
    · refine rk_skip ?_
      refine rk_seq ?_
      refine rk_region ?_
      refine ok_mv rfl rfl ?_
      obtain ⟨c17, h18, h0⟩ := bindE h0
      refine ok_cutQ 4 (fun A st => ∃ (j19 j20 j21 : V), st = A [(23, .d (.bool c17)), (22, j21), (21, j20), (20, j19)]) ?_ ?_
      · refine ok_mvB rfl rfl h18 (fun h18 => ?_) (fun h18 => ?_)
        · refine ok_mv rfl rfl ?_
          refine ok_v (.d (.bool (!p2))) rfl rfl ?_
          refine ok_v (.d (.bool (!p2))) rfl rfl ?_
          refine ok_nil ?_
          obtain rfl := someE h18
          exact ⟨_, _, _, rfl⟩
        · refine ok_sg rfl ?_
          refine ok_sg rfl ?_
          refine ok_v (.d (.bool false)) rfl rfl ?_
          refine ok_nil ?_
          obtain rfl := someE h18
          exact ⟨_, _, _, rfl⟩
      · rintro _ ⟨j19, j20, j21, rfl⟩
        refine ok_as rfl rfl ?_
        refine ok_nil ?_
        refine rk_ret ?_
        obtain rfl := someE h0
        exact finD (.inr rfl) (v := .d (.bool c17)) rfl rfl (.refl _)

theorem r11_Canon_ok (p0 : List Int) (p1 : List Bool) (r : List api_Span) (h0 : r11_Canon p0 p1 = some r) : Pure Try.prog tab 48 [.sl 1 (p0.map (eI .i64)), .sl 1 (p1.map eB)] (.sl 2 (r.map enc_api_Span)) := by
  unfold r11_Canon at h0
  refine pure_of_run Try.func48 rfl (by kernel_rfl) (by kernel_rfl) rfl ?_
  refine rk_seq ?_
  refine rk_region ?_
  refine ok_as rfl rfl ?_
  refine ok_nil ?_
  refine rk_seq ?_
  refine rk_region ?_
  refine ok_as rfl rfl ?_
  refine ok_nil ?_
  refine rk_seq ?_
  refine rk_seq ?_
  refine rk_region ?_
  refine ok_as rfl rfl ?_
  refine ok_nil ?_
  obtain ⟨m65, h66, h0⟩ := bindE h0
  refine rk_blockcut (fun b67 => b67 = m65) (fun (b67 : List api_Span) => ⟨[(5, .hs 0 2 0 b67.length)], [(0, .dat 2 (b67.map enc_api_Span))], 1⟩) (by simp) ?_ ?_
  · refine rk_loopF (r11_Canon_L1 p0 p1) (fun (a64 : Int × List api_Span) => ⟨[(0, .d (.sl 1 (p0.map (eI .i64)))), (1, .d (.sl 1 (p1.map eB))), (5, .hs 0 2 0 a64.2.length), (6, .d (.int .i64 a64.1))], [(0, .dat 2 (a64.2.map enc_api_Span))], 1⟩) (0, []) m65 h66 (wkE [] [] [0] rfl ⟨⟨_, rfl, .d (.refl _)⟩, ⟨_, rfl, .d (.refl _)⟩, ⟨_, rfl, .nil (by decide) (ltd rfl)⟩, ⟨_, rfl, .d (.refl _)⟩, trivial⟩ ⟨⟨ltd rfl, .inl ⟨by decide, _, by decide, rfl⟩⟩, trivial⟩) ?_
    intro a64 y62 h63
    unfold r11_Canon_L1 at h63
    refine rk_seq ?_
    refine rk_seq ?_
    refine rk_region ?_
    refine ok_mv rfl rfl ?_
    refine ok_v (.d (.int .i64 (w64 (a64.1 + 1)))) rfl rfl ?_
    refine ok_mv rfl rfl ?_
    refine ok_ln rfl rfl rfl rfl ?_
    refine ok_v (.d (.bool (decide ((w64 (a64.1 + 1)) < (p0.length : Int))))) rfl rfl ?_
    refine ok_nil ?_
    refine rk_condH rfl h63 (fun _ h63 => ?_) (fun _ h63 => ?_)
    · refine rk_skip ?_
      refine rk_seq ?_
      obtain ⟨m103, h102, h63⟩ := bindE h63
      refine rk_blockcut (fun b104 => b104 = m103) (fun (b104 : List api_Span) => ⟨[(0, .d (.sl 1 (p0.map (eI .i64)))), (1, .d (.sl 1 (p1.map eB))), (5, .hs 0 2 0 b104.length), (6, .d (.int .i64 a64.1))], [(0, .dat 2 (b104.map enc_api_Span))], 1⟩) (by simp) ?_ ?_
      · refine rk_seq ?_
        refine rk_seq ?_
        refine rk_region ?_
        refine ok_mv rfl rfl ?_
        refine ok_mv rfl rfl ?_
        obtain ⟨v105, h106, h102⟩ := bindE h102
        refine ok_ix (enc := eB) h106 rfl rfl rfl rfl rfl rfl ?_
        refine ok_v (.d (.bool v105)) rfl rfl ?_
        refine ok_v (.d (.bool (!v105))) rfl rfl ?_
        refine ok_nil ?_
        refine rk_condH rfl h102 (fun _ h102 => ?_) (fun _ h102 => ?_)
        · refine rk_exit ?_
          obtain rfl := someE h102
          exact ⟨_, rfl, wkE [(0, 0)] [] [] rfl ⟨⟨_, rfl, .d (.refl _)⟩, ⟨_, rfl, .d (.refl _)⟩, ⟨_, rfl, .hs rfl (by decide) (ltd rfl)⟩, ⟨_, rfl, .d (.refl _)⟩, trivial⟩ ⟨⟨ltd rfl, .inr ⟨by decide, _, rfl, .dat _ _⟩⟩, trivial⟩⟩
        · refine rk_skip ?_
          refine rk_seq ?_
          refine rk_region ?_
          refine ok_mv rfl rfl ?_
          refine ok_v (.d (.int .i64 (a64.2.length : Int))) rfl rfl ?_
          refine ok_as rfl rfl ?_
          refine ok_nil ?_
          refine rk_seq ?_
          refine rk_regionD (by kernel_rfl) ?_
          refine ok_mv rfl rfl ?_
          refine ok_v (.d (.bool (decide ((a64.2.length : Int) > 0)))) rfl rfl ?_
          obtain ⟨c111, h112, h102⟩ := bindE h102
          refine ok_cutQ 13 (fun A st => ∃ (j113 j114 j115 j116 j117 j118 j119 j120 j121 j122 j123 j124 : V), st = A [(36, .d (.bool c111)), (35, j124), (34, j123), (33, j122), (32, j121), (31, j120), (30, j119), (29, j118), (28, j117), (27, j116), (26, j115), (25, j114), (24, j113)]) ?_ ?_
          · refine ok_mvB rfl rfl h112 (fun h112 => ?_) (fun h112 => ?_)
            · refine ok_mv rfl rfl ?_
              refine ok_mv rfl rfl ?_
              refine ok_v (.d (.int .i64 (w64 ((a64.2.length : Int) - 1)))) rfl rfl ?_
              obtain ⟨v125, h126, h112⟩ := bindE h112
              refine ok_ih h126 rfl rfl rfl rfl rfl rfl rfl ?_
              refine ok_v (.ref 0 2 (w64 ((a64.2.length : Int) - 1)).toNat 1) rfl rfl ?_
              refine ok_lh (.d (.int .i64 v125.Hi)) h126 rfl rfl rfl rfl rfl rfl ?_
              refine ok_mv rfl rfl ?_
              refine ok_mv rfl rfl ?_
              obtain ⟨v127, h128, h112⟩ := bindE h112
              refine ok_ix (enc := (eI .i64)) h128 rfl rfl rfl rfl rfl rfl ?_
              refine ok_v (.d (.int .i64 v127)) rfl rfl ?_
              refine ok_v (.d (.bool (v125.Hi == v127))) rfl rfl ?_
              refine ok_v (.d (.bool (v125.Hi == v127))) rfl rfl ?_
              refine ok_nil ?_
              obtain rfl := someE h112
              exact ⟨_, _, _, _, _, _, _, _, _, _, _, _, rfl⟩
            · refine ok_sg rfl ?_
              refine ok_sg rfl ?_
              refine ok_sg rfl ?_
              refine ok_sg rfl ?_
              refine ok_sg rfl ?_
              refine ok_sg rfl ?_
              refine ok_sg rfl ?_
              refine ok_sg rfl ?_
              refine ok_sg rfl ?_
              refine ok_sg rfl ?_
              refine ok_sg rfl ?_
              refine ok_v (.d (.bool false)) rfl rfl ?_
              refine ok_nil ?_
              obtain rfl := someE h112
              exact ⟨_, _, _, _, _, _, _, _, _, _, _, _, rfl⟩
          · rintro _ ⟨j113, j114, j115, j116, j117, j118, j119, j120, j121, j122, j123, j124, rfl⟩
            refine ok_nil ?_
            refine rk_condH rfl h102 (fun _ h102 => ?_) (fun _ h102 => ?_)
            · refine rk_region ?_
              refine ok_mv rfl rfl ?_
              refine ok_mv rfl rfl ?_
              refine ok_v (.d (.int .i64 (w64 ((a64.2.length : Int) - 1)))) rfl rfl ?_
              refine ok_mv rfl rfl ?_
              refine ok_mv rfl rfl ?_
              refine ok_v (.d (.int .i64 (w64 (a64.1 + 1)))) rfl rfl ?_
              obtain ⟨v129, h130, h102⟩ := bindE h102
              refine ok_ix (enc := (eI .i64)) h130 rfl rfl rfl rfl rfl rfl ?_
              refine ok_v (.d (.int .i64 v129)) rfl rfl ?_
              obtain ⟨v131, h132, h102⟩ := bindE h102
              refine ok_ih h132 rfl rfl rfl rfl rfl rfl rfl ?_
              refine ok_v (.ref 0 2 (w64 ((a64.2.length : Int) - 1)).toNat 1) rfl rfl ?_
              refine ok_sh (ds := [.int .i64 v129]) ({ Lo := v131.Lo, Hi := v129 } : api_Span) h132 rfl rfl rfl rfl rfl rfl rfl rfl (leb rfl) rfl ?_
              refine ok_nil ?_
              refine rk_nil ?_
              obtain rfl := someE h102
              exact ⟨_, rfl, wkE [(0, 0)] [] [] rfl ⟨⟨_, rfl, .d (.refl _)⟩, ⟨_, rfl, .d (.refl _)⟩, ⟨_, rfl, wv_hsL (by simp) rfl (by decide) (ltd rfl)⟩, ⟨_, rfl, .d (.refl _)⟩, trivial⟩ ⟨⟨ltd rfl, .inr ⟨by decide, _, rfl, .dat _ _⟩⟩, trivial⟩⟩
            · refine rk_regionD (by kernel_rfl) ?_
              refine ok_mv rfl rfl ?_
              refine ok_mv rfl rfl ?_
              refine ok_mv rfl rfl ?_
              obtain ⟨v133, h134, h102⟩ := bindE h102
              refine ok_ix (enc := (eI .i64)) h134 rfl rfl rfl rfl rfl rfl ?_
              refine ok_v (.d (.int .i64 v133)) rfl rfl ?_
              refine ok_mv rfl rfl ?_
              refine ok_mv rfl rfl ?_
              refine ok_v (.d (.int .i64 (w64 (a64.1 + 1)))) rfl rfl ?_
              obtain ⟨v135, h136, h102⟩ := bindE h102
              refine ok_ix (enc := (eI .i64)) h136 rfl rfl rfl rfl rfl rfl ?_
              refine ok_v (.d (.int .i64 v135)) rfl rfl ?_
              refine ok_v (.d (.agg [.int .i64 v133, .int .i64 v135])) rfl rfl ?_
              refine ok_new (.hs 1 2 0 [({ Lo := v133, Hi := v135 } : api_Span)].length) (.dat 2 ([({ Lo := v133, Hi := v135 } : api_Span)].map enc_api_Span)) rfl rfl ?_
              obtain ⟨z137, h138, h102⟩ := bindE h102
              refine ok_ap (xs := a64.2) (ys := [({ Lo := v133, Hi := v135 } : api_Span)]) (enc := enc_api_Span) (.hs 1 2 0 [({ Lo := v133, Hi := v135 } : api_Span)].length) h138 rfl rfl rfl rfl rfl rfl rfl (conts_hs rfl rfl) rfl rfl rfl rfl ?_
              refine ok_as rfl rfl ?_
              refine ok_nil ?_
              refine rk_nil ?_
              obtain rfl := someE h102
              exact ⟨_, rfl, wkE [(0, 2)] [] [] rfl ⟨⟨_, rfl, .d (.refl _)⟩, ⟨_, rfl, .d (.refl _)⟩, ⟨_, rfl, .hs rfl (by decide) (ltd rfl)⟩, ⟨_, rfl, .d (.refl _)⟩, trivial⟩ ⟨⟨ltd rfl, .inr ⟨by decide, _, rfl, .dat _ _⟩⟩, trivial⟩⟩
      · intro b104 hb
        subst hb
        refine rk_region ?_
        refine ok_mv rfl rfl ?_
        refine ok_v (.d (.int .i64 (w64 (a64.1 + 1)))) rfl rfl ?_
        refine ok_as rfl rfl ?_
        refine ok_nil ?_
        refine rk_nil ?_
        exact ⟨_, (Option.some.inj h63).symm, wkE [(0, 0)] [] [] rfl ⟨⟨_, rfl, .d (.refl _)⟩, ⟨_, rfl, .d (.refl _)⟩, ⟨_, rfl, .hs rfl (by decide) (ltd rfl)⟩, ⟨_, rfl, .d (.refl _)⟩, trivial⟩ ⟨⟨ltd rfl, .inr ⟨by decide, _, rfl, .dat _ _⟩⟩, trivial⟩⟩
    · refine rk_exit ?_
      refine ⟨_, (Option.some.inj h63).symm, fun hm => ?_⟩
      subst hm
      exact ⟨_, rfl, wkE [(0, 0)] [] [] rfl ⟨⟨_, rfl, .hs rfl (by decide) (ltd rfl)⟩, trivial⟩ ⟨⟨ltd rfl, .inr ⟨by decide, _, rfl, .dat _ _⟩⟩, trivial⟩⟩
  · intro b67 hb
    subst hb
    refine rk_seq ?_
    refine rk_region ?_
    refine ok_mv rfl rfl ?_
    refine ok_as rfl rfl ?_
    refine ok_nil ?_
    refine rk_ret ?_
    obtain rfl := someE h0
    exact finD (.inr rfl) (v := .hs 0 2 0 b67.length) rfl (td_hs rfl rfl) (.refl _)

theorem r11_Joined_ok (p0 : Int) (p1 : List api_Span) (p2 : List api_Span) (r : List api_Span) (h0 : r11_Joined p0 p1 p2 = some r) : Pure Try.prog tab 34 [.int .i64 p0, .sl 2 (p1.map enc_api_Span), .sl 2 (p2.map enc_api_Span)] (.sl 2 (r.map enc_api_Span)) := by
  unfold r11_Joined at h0
  refine pure_of_run Try.func34 rfl (by kernel_rfl) (by kernel_rfl) rfl ?_
  refine rk_seq ?_
  refine rk_region ?_
  refine ok_as rfl rfl ?_
  refine ok_nil ?_
  refine rk_seq ?_
  refine rk_region ?_
  refine ok_mv rfl rfl ?_
  refine ok_mv rfl rfl ?_
  obtain ⟨r1, h2, h0⟩ := bindE h0
  refine ok_pc [.d (.sl 2 (p1.map enc_api_Span)), .d (.sl 2 (p2.map enc_api_Span))] (r11_Ends_ok p1 p2 r1 h2) rfl rfl rfl (.inl rfl) ?_
  refine ok_as rfl rfl ?_
  refine ok_nil ?_
  refine rk_seq ?_
  refine rk_region ?_
  refine ok_as rfl rfl ?_
  refine ok_nil ?_
  refine rk_seq ?_
  refine rk_seq ?_
  refine rk_region ?_
  refine ok_as rfl rfl ?_
  refine ok_nil ?_
  obtain ⟨m54, h55, h0⟩ := bindE h0
  refine rk_blockcut (fun b56 => b56 = m54) (fun (b56 : List Bool) => ⟨[(7, .d (.sl 1 (r1.map (eI .i64)))), (8, .hs 0 1 0 b56.length)], [(0, .dat 1 (b56.map eB))], 1⟩) (by simp) ?_ ?_
  · refine rk_loopF (r11_Joined_L1 r1 p1 p2 p0) (fun (a53 : Int × List Bool) => ⟨[(0, .d (.int .i64 p0)), (1, .d (.sl 2 (p1.map enc_api_Span))), (2, .d (.sl 2 (p2.map enc_api_Span))), (7, .d (.sl 1 (r1.map (eI .i64)))), (8, .hs 0 1 0 a53.2.length), (9, .d (.int .i64 a53.1))], [(0, .dat 1 (a53.2.map eB))], 1⟩) (0, []) m54 h55 (wkE [] [] [0] rfl ⟨⟨_, rfl, .d (.refl _)⟩, ⟨_, rfl, .d (.refl _)⟩, ⟨_, rfl, .d (.refl _)⟩, ⟨_, rfl, .d (.refl _)⟩, ⟨_, rfl, .nil (by decide) (ltd rfl)⟩, ⟨_, rfl, .d (.refl _)⟩, trivial⟩ ⟨⟨ltd rfl, .inl ⟨by decide, _, by decide, rfl⟩⟩, trivial⟩) ?_
    intro a53 y51 h52
    unfold r11_Joined_L1 at h52
    refine rk_seq ?_
    refine rk_seq ?_
    refine rk_region ?_
    refine ok_mv rfl rfl ?_
    refine ok_mv rfl rfl ?_
    refine ok_ln rfl rfl rfl rfl ?_
    refine ok_v (.d (.bool (decide (a53.1 < (r1.length : Int))))) rfl rfl ?_
    refine ok_nil ?_
    refine rk_condH rfl h52 (fun _ h52 => ?_) (fun _ h52 => ?_)
    · refine rk_skip ?_
      refine rk_seq ?_
      refine rk_block ?_
      refine rk_regionD (by kernel_rfl) ?_
      refine ok_mv rfl rfl ?_
      refine ok_mv rfl rfl ?_
      refine ok_mv rfl rfl ?_
      refine ok_mv rfl rfl ?_
      refine ok_mv rfl rfl ?_
      obtain ⟨v69, h70, h52⟩ := bindE h52
      refine ok_ix (enc := (eI .i64)) h70 rfl rfl rfl rfl rfl rfl ?_
      refine ok_v (.d (.int .i64 v69)) rfl rfl ?_
      obtain ⟨r71, h72, h52⟩ := bindE h52
      refine ok_pc [.d (.sl 2 (p1.map enc_api_Span)), .d (.int .i64 v69)] (r11_Has_ok p1 v69 r71 h72) rfl rfl rfl (.inl rfl) ?_
      refine ok_mv rfl rfl ?_
      refine ok_mv rfl rfl ?_
      refine ok_mv rfl rfl ?_
      obtain ⟨v73, h74, h52⟩ := bindE h52
      refine ok_ix (enc := (eI .i64)) h74 rfl rfl rfl rfl rfl rfl ?_
      refine ok_v (.d (.int .i64 v73)) rfl rfl ?_
      obtain ⟨r75, h76, h52⟩ := bindE h52
      refine ok_pc [.d (.sl 2 (p2.map enc_api_Span)), .d (.int .i64 v73)] (r11_Has_ok p2 v73 r75 h76) rfl rfl rfl (.inl rfl) ?_
      obtain ⟨r77, h78, h52⟩ := bindE h52
      refine ok_pc [.d (.int .i64 p0), .d (.bool r71), .d (.bool r75)] (r11_Holds_ok p0 r71 r75 r77 h78) rfl rfl rfl (.inl rfl) ?_
      refine ok_new (.hs 1 1 0 [r77].length) (.dat 1 ([r77].map eB)) rfl rfl ?_
      obtain ⟨z79, h80, h52⟩ := bindE h52
      refine ok_ap (xs := a53.2) (ys := [r77]) (enc := eB) (.hs 1 1 0 [r77].length) h80 rfl rfl rfl rfl rfl rfl rfl (conts_hs rfl rfl) rfl rfl rfl rfl ?_
      refine ok_as rfl rfl ?_
      refine ok_nil ?_
      refine rk_nil ?_
      refine blk_nor ?_
      refine rk_region ?_
      refine ok_mv rfl rfl ?_
      refine ok_v (.d (.int .i64 (w64 (a53.1 + 1)))) rfl rfl ?_
      refine ok_as rfl rfl ?_
      refine ok_nil ?_
      refine rk_nil ?_
      exact ⟨_, (Option.some.inj h52).symm, wkE [(0, 2)] [] [] rfl ⟨⟨_, rfl, .d (.refl _)⟩, ⟨_, rfl, .d (.refl _)⟩, ⟨_, rfl, .d (.refl _)⟩, ⟨_, rfl, .d (.refl _)⟩, ⟨_, rfl, .hs rfl (by decide) (ltd rfl)⟩, ⟨_, rfl, .d (.refl _)⟩, trivial⟩ ⟨⟨ltd rfl, .inr ⟨by decide, _, rfl, .dat _ _⟩⟩, trivial⟩⟩
    · refine rk_exit ?_
      refine ⟨_, (Option.some.inj h52).symm, fun hm => ?_⟩
      subst hm
      exact ⟨_, rfl, wkE [(0, 0)] [] [] rfl ⟨⟨_, rfl, .d (.refl _)⟩, ⟨_, rfl, .hs rfl (by decide) (ltd rfl)⟩, trivial⟩ ⟨⟨ltd rfl, .inr ⟨by decide, _, rfl, .dat _ _⟩⟩, trivial⟩⟩
  · intro b56 hb
    subst hb
    refine rk_seq ?_
    refine rk_wk (st' := ⟨[(7, .d (.sl 1 (r1.map (eI .i64)))), (8, .d (.sl 1 (b56.map eB)))], [], 0⟩) (wkE [] [0] [] rfl ⟨⟨_, rfl, .d (.refl _)⟩, ⟨_, rfl, wv_frz rfl rfl (by decide)⟩, trivial⟩ trivial) ?_ (by simp)
    refine rk_region ?_
    refine ok_mv rfl rfl ?_
    refine ok_mv rfl rfl ?_
    obtain ⟨r81, h82, h0⟩ := bindE h0
    refine ok_pc [.d (.sl 1 (r1.map (eI .i64))), .d (.sl 1 (b56.map eB))] (r11_Canon_ok r1 b56 r81 h82) rfl rfl rfl (.inl rfl) ?_
    refine ok_as rfl rfl ?_
    refine ok_nil ?_
    refine rk_ret ?_
    obtain rfl := someE h0
    exact finD (.inr rfl) (v := .d (.sl 2 (r81.map enc_api_Span))) rfl rfl (.refl _)

theorem r11_Join_ok (p0 : Int) (p1 : List api_Span) (p2 : List api_Span) (r : List api_Span × Int) (h0 : r11_Join p0 p1 p2 = some r) : Pure Try.prog tab 19 [.int .i64 p0, .sl 2 (p1.map enc_api_Span), .sl 2 (p2.map enc_api_Span)] (.tup [.sl 2 (r.1.map enc_api_Span), .int .i64 r.2]) := by
  unfold r11_Join at h0
  refine pure_of_run Try.func19 rfl (by kernel_rfl) (by kernel_rfl) rfl ?_
  refine rk_seq ?_
  refine rk_region ?_
  refine ok_as rfl rfl ?_
  refine ok_as rfl rfl ?_
  refine ok_nil ?_
  refine rk_seq ?_
  refine rk_seq ?_
  refine rk_region ?_
  refine ok_mv rfl rfl ?_
  obtain ⟨r1, h2, h0⟩ := bindE h0
  refine ok_pc [.d (.sl 2 (p1.map enc_api_Span))] (r11_Check_ok p1 r1 h2) rfl rfl rfl (.inl rfl) ?_
  refine ok_v (.d (.bool (r1 != 0))) rfl rfl ?_
  refine ok_nil ?_
  refine rk_condH rfl h0 (fun _ h0 => ?_) (fun _ h0 => ?_)
  · refine rk_seq ?_
    refine rk_region ?_
    refine ok_mv rfl rfl ?_
    obtain ⟨r5, h6, h0⟩ := bindE h0
    refine ok_pc [.d (.sl 2 (p1.map enc_api_Span))] (r11_Check_ok p1 r5 h6) rfl rfl rfl (.inl rfl) ?_
    refine ok_as rfl rfl ?_
    refine ok_as rfl rfl ?_
    refine ok_nil ?_
    refine rk_ret ?_
    obtain rfl := someE h0
    exact finD (.inr rfl) (v := .d (.tup [.nilsl, .int .i64 r5])) rfl rfl (dle_tup (.cons (.nil _) (.cons (.refl _) .nil)))
  · refine rk_skip ?_
    refine rk_seq ?_
    refine rk_seq ?_
    refine rk_region ?_
    refine ok_mv rfl rfl ?_
    obtain ⟨r7, h8, h0⟩ := bindE h0
    refine ok_pc [.d (.sl 2 (p2.map enc_api_Span))] (r11_Check_ok p2 r7 h8) rfl rfl rfl (.inl rfl) ?_
    refine ok_v (.d (.bool (r7 != 0))) rfl rfl ?_
    refine ok_nil ?_
    refine rk_condH rfl h0 (fun _ h0 => ?_) (fun _ h0 => ?_)
    · refine rk_seq ?_
      refine rk_region ?_
      refine ok_mv rfl rfl ?_
      obtain ⟨r11, h12, h0⟩ := bindE h0
      refine ok_pc [.d (.sl 2 (p2.map enc_api_Span))] (r11_Check_ok p2 r11 h12) rfl rfl rfl (.inl rfl) ?_
      refine ok_as rfl rfl ?_
      refine ok_as rfl rfl ?_
      refine ok_nil ?_
      refine rk_ret ?_
      obtain rfl := someE h0
      exact finD (.inr rfl) (v := .d (.tup [.nilsl, .int .i64 r11])) rfl rfl (dle_tup (.cons (.nil _) (.cons (.refl _) .nil)))
    · refine rk_skip ?_
      refine rk_seq ?_
      refine rk_region ?_
      refine ok_mv rfl rfl ?_
      refine ok_mv rfl rfl ?_
      refine ok_mv rfl rfl ?_
      obtain ⟨r13, h14, h0⟩ := bindE h0
      refine ok_pc [.d (.int .i64 p0), .d (.sl 2 (p1.map enc_api_Span)), .d (.sl 2 (p2.map enc_api_Span))] (r11_Joined_ok p0 p1 p2 r13 h14) rfl rfl rfl (.inl rfl) ?_
      refine ok_as rfl rfl ?_
      refine ok_nil ?_
      refine rk_seq ?_
      refine rk_seq ?_
      refine rk_region ?_
      refine ok_mv rfl rfl ?_
      refine ok_ln rfl rfl rfl rfl ?_
      refine ok_v (.d (.bool (decide ((r13.length : Int) > 400)))) rfl rfl ?_
      refine ok_nil ?_
      refine rk_condH rfl h0 (fun _ h0 => ?_) (fun _ h0 => ?_)
      · refine rk_seq ?_
        refine rk_region ?_
        refine ok_as rfl rfl ?_
        refine ok_as rfl rfl ?_
        refine ok_nil ?_
        refine rk_ret ?_
        obtain rfl := someE h0
        exact finD (.inr rfl) (v := .d (.tup [.nilsl, .int .i64 4])) rfl rfl (dle_tup (.cons (.nil _) (.cons (.refl _) .nil)))
      · refine rk_skip ?_
        refine rk_seq ?_
        refine rk_region ?_
        refine ok_mv rfl rfl ?_
        refine ok_as rfl rfl ?_
        refine ok_as rfl rfl ?_
        refine ok_nil ?_
        refine rk_ret ?_
        obtain rfl := someE h0
        exact finD (.inr rfl) (v := .d (.tup [.sl 2 (r13.map enc_api_Span), .int .i64 0])) rfl rfl (.refl _)

theorem span_Meet_1_ok (p0 : Bool) (p1 : Bool) (r : Bool) (h0 : span_Meet_1 p0 p1 = some r) : Pure Try.prog tab 39 [.bool p0, .bool p1] (.bool r) := by
  unfold span_Meet_1 at h0
  refine pure_of_run Try.func39 rfl (by kernel_rfl) (by kernel_rfl) rfl ?_
  refine rk_seq ?_
  refine rk_region ?_
  refine ok_as rfl rfl ?_
  refine ok_nil ?_
  refine rk_seq ?_
  refine rk_region ?_
  refine ok_mv rfl rfl ?_
  obtain ⟨c1, h2, h0⟩ := bindE h0
  refine ok_cutQ 3 (fun A st => ∃ (j3 j4 : V), st = A [(8, .d (.bool c1)), (7, j4), (6, j3)]) ?_ ?_
  · refine ok_mvB rfl rfl h2 (fun h2 => ?_) (fun h2 => ?_)
    · refine ok_mv rfl rfl ?_
      refine ok_v (.d (.bool p1)) rfl rfl ?_
      refine ok_nil ?_
      obtain rfl := someE h2
      exact ⟨_, _, rfl⟩
    · refine ok_sg rfl ?_
      refine ok_v (.d (.bool false)) rfl rfl ?_
      refine ok_nil ?_
      obtain rfl := someE h2
      exact ⟨_, _, rfl⟩
  · rintro _ ⟨j3, j4, rfl⟩
    refine ok_as rfl rfl ?_
    refine ok_nil ?_
    refine rk_ret ?_
    obtain rfl := someE h0
    exact finD (.inr rfl) (v := .d (.bool c1)) rfl rfl (.refl _)

theorem span_Meet_ok (p0 : List api_Span) (p1 : List api_Span) (r : List api_Span × Int) (h0 : span_Meet p0 p1 = some r) : Pure Try.prog tab 20 [.sl 2 (p0.map enc_api_Span), .sl 2 (p1.map enc_api_Span)] (.tup [.sl 2 (r.1.map enc_api_Span), .int .i64 r.2]) := by
  unfold span_Meet at h0
  refine pure_of_run Try.func20 rfl (by kernel_rfl) (by kernel_rfl) rfl ?_
  refine rk_seq ?_
  refine rk_region ?_
  refine ok_as rfl rfl ?_
  refine ok_as rfl rfl ?_
  refine ok_nil ?_
  refine rk_seq ?_
  refine rk_region ?_
  refine ok_mv rfl rfl ?_
  refine ok_mv rfl rfl ?_
  obtain ⟨r1, h2, h0⟩ := bindE h0
  refine ok_pc [.d (.sl 2 (p0.map enc_api_Span)), .d (.sl 2 (p1.map enc_api_Span)), .d (.fn 39 [])] (span_checked_ok p0 p1 (fun x0 x1 => span_Meet_1 x0 x1) 39 [] (fun x0 x1 r hr => span_Meet_1_ok x0 x1 r hr) r1 h2) rfl rfl rfl (.inl rfl) ?_
  refine ok_v (.d (.sl 2 (r1.1.map enc_api_Span))) rfl rfl ?_
  refine ok_v (.d (.int .i64 r1.2)) rfl rfl ?_
  refine ok_as rfl rfl ?_
  refine ok_as rfl rfl ?_
  refine ok_nil ?_
  refine rk_ret ?_
  obtain rfl := someE h0
  exact finD (.inr rfl) (v := .d (.tup [.sl 2 (r1.1.map enc_api_Span), .int .i64 r1.2])) rfl rfl (.refl _)

theorem span_Minus_1_ok (p0 : Bool) (p1 : Bool) (r : Bool) (h0 : span_Minus_1 p0 p1 = some r) : Pure Try.prog tab 40 [.bool p0, .bool p1] (.bool r) := by
  unfold span_Minus_1 at h0
  refine pure_of_run Try.func40 rfl (by kernel_rfl) (by kernel_rfl) rfl ?_
  refine rk_seq ?_
  refine rk_region ?_
  refine ok_as rfl rfl ?_
  refine ok_nil ?_
  refine rk_seq ?_
  refine rk_region ?_
  refine ok_mv rfl rfl ?_
  obtain ⟨c1, h2, h0⟩ := bindE h0
  refine ok_cutQ 4 (fun A st => ∃ (j3 j4 j5 : V), st = A [(9, .d (.bool c1)), (8, j5), (7, j4), (6, j3)]) ?_ ?_
  · refine ok_mvB rfl rfl h2 (fun h2 => ?_) (fun h2 => ?_)
    · refine ok_mv rfl rfl ?_
      refine ok_v (.d (.bool (!p1))) rfl rfl ?_
      refine ok_v (.d (.bool (!p1))) rfl rfl ?_
      refine ok_nil ?_
      obtain rfl := someE h2
      exact ⟨_, _, _, rfl⟩
    · refine ok_sg rfl ?_
      refine ok_sg rfl ?_
      refine ok_v (.d (.bool false)) rfl rfl ?_
      refine ok_nil ?_
      obtain rfl := someE h2
      exact ⟨_, _, _, rfl⟩
  · rintro _ ⟨j3, j4, j5, rfl⟩
    refine ok_as rfl rfl ?_
    refine ok_nil ?_
    refine rk_ret ?_
    obtain rfl := someE h0
    exact finD (.inr rfl) (v := .d (.bool c1)) rfl rfl (.refl _)

theorem span_Minus_ok (p0 : List api_Span) (p1 : List api_Span) (r : List api_Span × Int) (h0 : span_Minus p0 p1 = some r) : Pure Try.prog tab 21 [.sl 2 (p0.map enc_api_Span), .sl 2 (p1.map enc_api_Span)] (.tup [.sl 2 (r.1.map enc_api_Span), .int .i64 r.2]) := by
  unfold span_Minus at h0
  refine pure_of_run Try.func21 rfl (by kernel_rfl) (by kernel_rfl) rfl ?_
  refine rk_seq ?_
  refine rk_region ?_
  refine ok_as rfl rfl ?_
  refine ok_as rfl rfl ?_
  refine ok_nil ?_
  refine rk_seq ?_
  refine rk_region ?_
  refine ok_mv rfl rfl ?_
  refine ok_mv rfl rfl ?_
  obtain ⟨r1, h2, h0⟩ := bindE h0
  refine ok_pc [.d (.sl 2 (p0.map enc_api_Span)), .d (.sl 2 (p1.map enc_api_Span)), .d (.fn 40 [])] (span_checked_ok p0 p1 (fun x0 x1 => span_Minus_1 x0 x1) 40 [] (fun x0 x1 r hr => span_Minus_1_ok x0 x1 r hr) r1 h2) rfl rfl rfl (.inl rfl) ?_
  refine ok_v (.d (.sl 2 (r1.1.map enc_api_Span))) rfl rfl ?_
  refine ok_v (.d (.int .i64 r1.2)) rfl rfl ?_
  refine ok_as rfl rfl ?_
  refine ok_as rfl rfl ?_
  refine ok_nil ?_
  refine rk_ret ?_
  obtain rfl := someE h0
  exact finD (.inr rfl) (v := .d (.tup [.sl 2 (r1.1.map enc_api_Span), .int .i64 r1.2])) rfl rfl (.refl _)

theorem r11_Same_ok (p0 : List api_Span) (p1 : List api_Span) (r : Bool) (h0 : r11_Same p0 p1 = some r) : Pure Try.prog tab 17 [.sl 2 (p0.map enc_api_Span), .sl 2 (p1.map enc_api_Span)] (.bool r) := by
  unfold r11_Same at h0
  refine pure_of_run Try.func17 rfl (by kernel_rfl) (by kernel_rfl) rfl ?_
  refine rk_seq ?_
  refine rk_region ?_
  refine ok_as rfl rfl ?_
  refine ok_nil ?_
  refine rk_seq ?_
  refine rk_seq ?_
  refine rk_region ?_
  refine ok_mv rfl rfl ?_
  refine ok_ln rfl rfl rfl rfl ?_
  refine ok_mv rfl rfl ?_
  refine ok_ln rfl rfl rfl rfl ?_
  refine ok_v (.d (.bool ((p0.length : Int) != (p1.length : Int)))) rfl rfl ?_
  refine ok_nil ?_
  refine rk_condH rfl h0 (fun _ h0 => ?_) (fun _ h0 => ?_)
  · refine rk_seq ?_
    refine rk_region ?_
    refine ok_as rfl rfl ?_
    refine ok_nil ?_
    refine rk_ret ?_
    obtain rfl := someE h0
    exact finD (.inr rfl) (v := .d (.bool false)) rfl rfl (.refl _)
  · refine rk_skip ?_
    refine rk_seq ?_
    refine rk_seq ?_
    refine rk_region ?_
    refine ok_as rfl rfl ?_
    refine ok_nil ?_
    obtain ⟨m20, h21, h0⟩ := bindE h0
    refine rk_blockcut (fun b22 => .inl b22 = m20) (fun (b22 : Unit) => ⟨[], [], 0⟩) (by simp) ?_ ?_
    · refine rk_loopF (r11_Same_L1 p0 p1) (fun (a19 : Int) => ⟨[(0, .d (.sl 2 (p0.map enc_api_Span))), (1, .d (.sl 2 (p1.map enc_api_Span))), (5, .d (.int .i64 a19))], [], 0⟩) 0 m20 h21 (wkE [] [] [] rfl ⟨⟨_, rfl, .d (.refl _)⟩, ⟨_, rfl, .d (.refl _)⟩, ⟨_, rfl, .d (.refl _)⟩, trivial⟩ trivial) ?_
      intro a19 y17 h18
      unfold r11_Same_L1 at h18
      refine rk_seq ?_
      refine rk_seq ?_
      refine rk_region ?_
      refine ok_mv rfl rfl ?_
      refine ok_mv rfl rfl ?_
      refine ok_ln rfl rfl rfl rfl ?_
      refine ok_v (.d (.bool (decide (a19 < (p0.length : Int))))) rfl rfl ?_
      refine ok_nil ?_
      refine rk_condH rfl h18 (fun _ h18 => ?_) (fun _ h18 => ?_)
      · refine rk_skip ?_
        refine rk_seq ?_
        refine rk_block ?_
        refine rk_seq ?_
        refine rk_regionD (by kernel_rfl) ?_
        refine ok_mv rfl rfl ?_
        refine ok_mv rfl rfl ?_
        obtain ⟨v27, h28, h18⟩ := bindE h18
        refine ok_ix (enc := enc_api_Span) h28 rfl rfl rfl rfl rfl rfl ?_
        refine ok_v (.d (.agg [.int .i64 v27.Lo, .int .i64 v27.Hi])) rfl rfl ?_
        refine ok_mv rfl rfl ?_
        refine ok_mv rfl rfl ?_
        obtain ⟨v29, h30, h18⟩ := bindE h18
        refine ok_ix (enc := enc_api_Span) h30 rfl rfl rfl rfl rfl rfl ?_
        refine ok_v (.d (.agg [.int .i64 v29.Lo, .int .i64 v29.Hi])) rfl rfl ?_
        refine ok_v (.d (.bool (!((v27.Lo == v29.Lo) && ((v27.Hi == v29.Hi) && true))))) rfl rfl ?_
        refine ok_nil ?_
        refine rk_condH rfl h18 (fun _ h18 => ?_) (fun _ h18 => ?_)
        · refine rk_seq ?_
          refine rk_region ?_
          refine ok_as rfl rfl ?_
          refine ok_nil ?_
          refine rk_ret ?_
          refine ⟨_, (Option.some.inj h18).symm, fun hm => ?_⟩
          subst hm
          obtain rfl := someE h0
          exact finD (.inr rfl) (v := .d (.bool false)) rfl rfl (.refl _)
        · refine rk_skip ?_
          refine rk_nil ?_
          refine blk_nor ?_
          refine rk_region ?_
          refine ok_mv rfl rfl ?_
          refine ok_v (.d (.int .i64 (w64 (a19 + 1)))) rfl rfl ?_
          refine ok_as rfl rfl ?_
          refine ok_nil ?_
          refine rk_nil ?_
          exact ⟨_, (Option.some.inj h18).symm, wkE [] [] [] rfl ⟨⟨_, rfl, .d (.refl _)⟩, ⟨_, rfl, .d (.refl _)⟩, ⟨_, rfl, .d (.refl _)⟩, trivial⟩ trivial⟩
      · refine rk_exit ?_
        refine ⟨_, (Option.some.inj h18).symm, fun hm => ?_⟩
        subst hm
        exact ⟨_, rfl, wkE [] [] [] rfl trivial trivial⟩
    · intro b22 hb
      subst hb
      refine rk_seq ?_
      refine rk_region ?_
      refine ok_as rfl rfl ?_
      refine ok_nil ?_
      refine rk_ret ?_
      obtain rfl := someE h0
      exact finD (.inr rfl) (v := .d (.bool true)) rfl rfl (.refl _)

theorem l11_SpanJoins_ok (p0 : List api_Span) (p1 : List api_Span) (r : Bool) (h0 : l11_SpanJoins p0 p1 = some r) : Pure Try.prog tab 4 [.sl 2 (p0.map enc_api_Span), .sl 2 (p1.map enc_api_Span)] (.bool r) := by
  unfold l11_SpanJoins at h0
  refine pure_of_run Try.func4 rfl (by kernel_rfl) (by kernel_rfl) rfl ?_
  refine rk_seq ?_
  refine rk_region ?_
  refine ok_as rfl rfl ?_
  refine ok_nil ?_
  refine rk_seq ?_
  refine rk_seq ?_
  refine rk_region ?_
  refine ok_mv rfl rfl ?_
  refine ok_ln rfl rfl rfl rfl ?_
  refine ok_v (.d (.bool (decide ((p0.length : Int) > 450)))) rfl rfl ?_
  obtain ⟨c1, h2, h0⟩ := bindE h0
  refine ok_cutQ 5 (fun A st => ∃ (j3 j4 j5 j6 : V), st = A [(24, .d (.bool c1)), (23, j6), (22, j5), (21, j4), (20, j3)]) ?_ ?_
  · refine ok_mvB rfl rfl h2 (fun h2 => ?_) (fun h2 => ?_)
    · refine ok_sg rfl ?_
      refine ok_sg rfl ?_
      refine ok_sg rfl ?_
      refine ok_v (.d (.bool true)) rfl rfl ?_
      refine ok_nil ?_
      obtain rfl := someE h2
      exact ⟨_, _, _, _, rfl⟩
    · refine ok_mv rfl rfl ?_
      refine ok_ln rfl rfl rfl rfl ?_
      refine ok_v (.d (.bool (decide ((p1.length : Int) > 450)))) rfl rfl ?_
      refine ok_v (.d (.bool (decide ((p1.length : Int) > 450)))) rfl rfl ?_
      refine ok_nil ?_
      obtain rfl := someE h2
      exact ⟨_, _, _, _, rfl⟩
  · rintro _ ⟨j3, j4, j5, j6, rfl⟩
    refine ok_nil ?_
    refine rk_condH rfl h0 (fun _ h0 => ?_) (fun _ h0 => ?_)
    · refine rk_seq ?_
      refine rk_region ?_
      refine ok_as rfl rfl ?_
      refine ok_nil ?_
      refine rk_ret ?_
      obtain rfl := someE h0
      exact finD (.inr rfl) (v := .d (.bool true)) rfl rfl (.refl _)
    · refine rk_skip ?_
      refine rk_seq ?_
      refine rk_region ?_
      refine ok_mv rfl rfl ?_
      refine ok_mv rfl rfl ?_
      obtain ⟨r7, h8, h0⟩ := bindE h0
      refine ok_pc [.d (.sl 2 (p0.map enc_api_Span)), .d (.sl 2 (p1.map enc_api_Span))] (span_Union_ok p0 p1 r7 h8) rfl rfl rfl (.inl rfl) ?_
      refine ok_mv rfl rfl ?_
      refine ok_v (.d (.sl 2 (r7.1.map enc_api_Span))) rfl rfl ?_
      refine ok_v (.d (.int .i64 r7.2)) rfl rfl ?_
      refine ok_as rfl rfl ?_
      refine ok_as rfl rfl ?_
      refine ok_nil ?_
      refine rk_seq ?_
      refine rk_region ?_
      refine ok_mv rfl rfl ?_
      refine ok_mv rfl rfl ?_
      obtain ⟨r9, h10, h0⟩ := bindE h0
      refine ok_pc [.d (.int .i64 2), .d (.sl 2 (p0.map enc_api_Span)), .d (.sl 2 (p1.map enc_api_Span))] (r11_Join_ok 2 p0 p1 r9 h10) rfl rfl rfl (.inl rfl) ?_
      refine ok_mv rfl rfl ?_
      refine ok_v (.d (.sl 2 (r9.1.map enc_api_Span))) rfl rfl ?_
      refine ok_v (.d (.int .i64 r9.2)) rfl rfl ?_
      refine ok_as rfl rfl ?_
      refine ok_as rfl rfl ?_
      refine ok_nil ?_
      refine rk_seq ?_
      refine rk_region ?_
      refine ok_mv rfl rfl ?_
      refine ok_mv rfl rfl ?_
      obtain ⟨r11, h12, h0⟩ := bindE h0
      refine ok_pc [.d (.sl 2 (p0.map enc_api_Span)), .d (.sl 2 (p1.map enc_api_Span))] (span_Meet_ok p0 p1 r11 h12) rfl rfl rfl (.inl rfl) ?_
      refine ok_mv rfl rfl ?_
      refine ok_v (.d (.sl 2 (r11.1.map enc_api_Span))) rfl rfl ?_
      refine ok_v (.d (.int .i64 r11.2)) rfl rfl ?_
      refine ok_as rfl rfl ?_
      refine ok_as rfl rfl ?_
      refine ok_nil ?_
      refine rk_seq ?_
      refine rk_region ?_
      refine ok_mv rfl rfl ?_
      refine ok_mv rfl rfl ?_
      obtain ⟨r13, h14, h0⟩ := bindE h0
      refine ok_pc [.d (.int .i64 1), .d (.sl 2 (p0.map enc_api_Span)), .d (.sl 2 (p1.map enc_api_Span))] (r11_Join_ok 1 p0 p1 r13 h14) rfl rfl rfl (.inl rfl) ?_
      refine ok_mv rfl rfl ?_
      refine ok_v (.d (.sl 2 (r13.1.map enc_api_Span))) rfl rfl ?_
      refine ok_v (.d (.int .i64 r13.2)) rfl rfl ?_
      refine ok_as rfl rfl ?_
      refine ok_as rfl rfl ?_
      refine ok_nil ?_
      refine rk_seq ?_
      refine rk_region ?_
      refine ok_mv rfl rfl ?_
      refine ok_mv rfl rfl ?_
      obtain ⟨r15, h16, h0⟩ := bindE h0
      refine ok_pc [.d (.sl 2 (p0.map enc_api_Span)), .d (.sl 2 (p1.map enc_api_Span))] (span_Minus_ok p0 p1 r15 h16) rfl rfl rfl (.inl rfl) ?_
      refine ok_mv rfl rfl ?_
      refine ok_v (.d (.sl 2 (r15.1.map enc_api_Span))) rfl rfl ?_
      refine ok_v (.d (.int .i64 r15.2)) rfl rfl ?_
      refine ok_as rfl rfl ?_
      refine ok_as rfl rfl ?_
      refine ok_nil ?_
      refine rk_seq ?_
      refine rk_region ?_
      refine ok_mv rfl rfl ?_
      refine ok_mv rfl rfl ?_
      obtain ⟨r17, h18, h0⟩ := bindE h0
      refine ok_pc [.d (.int .i64 3), .d (.sl 2 (p0.map enc_api_Span)), .d (.sl 2 (p1.map enc_api_Span))] (r11_Join_ok 3 p0 p1 r17 h18) rfl rfl rfl (.inl rfl) ?_
      refine ok_mv rfl rfl ?_
      refine ok_v (.d (.sl 2 (r17.1.map enc_api_Span))) rfl rfl ?_
      refine ok_v (.d (.int .i64 r17.2)) rfl rfl ?_
      refine ok_as rfl rfl ?_
      refine ok_as rfl rfl ?_
      refine ok_nil ?_
      refine rk_seq ?_
      refine rk_region ?_
      refine ok_mv rfl rfl ?_
      refine ok_mv rfl rfl ?_
      obtain ⟨r19, h20, h0⟩ := bindE h0
      refine ok_pc [.d (.sl 2 (r7.1.map enc_api_Span)), .d (.sl 2 (r9.1.map enc_api_Span))] (r11_Same_ok r7.1 r9.1 r19 h20) rfl rfl rfl (.inl rfl) ?_
      obtain ⟨c21, h22, h0⟩ := bindE h0
      refine ok_cutQ 5 (fun A st => ∃ (j23 j24 j25 j26 : V), st = A [(68, .d (.bool c21)), (67, j26), (66, j25), (65, j24), (64, j23)]) ?_ ?_
      · refine ok_mvB rfl rfl h22 (fun h22 => ?_) (fun h22 => ?_)
        · refine ok_mv rfl rfl ?_
          refine ok_mv rfl rfl ?_
          refine ok_v (.d (.bool (r7.2 == r9.2))) rfl rfl ?_
          refine ok_v (.d (.bool (r7.2 == r9.2))) rfl rfl ?_
          refine ok_nil ?_
          obtain rfl := someE h22
          exact ⟨_, _, _, _, rfl⟩
        · refine ok_sg rfl ?_
          refine ok_sg rfl ?_
          refine ok_sg rfl ?_
          refine ok_v (.d (.bool false)) rfl rfl ?_
          refine ok_nil ?_
          obtain rfl := someE h22
          exact ⟨_, _, _, _, rfl⟩
      · rintro _ ⟨j23, j24, j25, j26, rfl⟩
        obtain ⟨c29, h30, h0⟩ := bindE h0
        refine ok_cutQ 5 (fun A st => ∃ (j31 j32 j33 j34 : V), st = A [(73, .d (.bool c29)), (72, j34), (71, j33), (70, j32), (69, j31)]) ?_ ?_
        · refine ok_mvB rfl rfl h30 (fun h30 => ?_) (fun h30 => ?_)
          · refine ok_mv rfl rfl ?_
            refine ok_mv rfl rfl ?_
            obtain ⟨r35, h36, h30⟩ := bindE h30
            refine ok_pc [.d (.sl 2 (r11.1.map enc_api_Span)), .d (.sl 2 (r13.1.map enc_api_Span))] (r11_Same_ok r11.1 r13.1 r35 h36) rfl rfl rfl (.inl rfl) ?_
            refine ok_v (.d (.bool r35)) rfl rfl ?_
            refine ok_nil ?_
            obtain rfl := someE h30
            exact ⟨_, _, _, _, rfl⟩
          · refine ok_sg rfl ?_
            refine ok_sg rfl ?_
            refine ok_sg rfl ?_
            refine ok_v (.d (.bool false)) rfl rfl ?_
            refine ok_nil ?_
            obtain rfl := someE h30
            exact ⟨_, _, _, _, rfl⟩
        · rintro _ ⟨j31, j32, j33, j34, rfl⟩
          obtain ⟨c37, h38, h0⟩ := bindE h0
          refine ok_cutQ 5 (fun A st => ∃ (j39 j40 j41 j42 : V), st = A [(78, .d (.bool c37)), (77, j42), (76, j41), (75, j40), (74, j39)]) ?_ ?_
          · refine ok_mvB rfl rfl h38 (fun h38 => ?_) (fun h38 => ?_)
            · refine ok_mv rfl rfl ?_
              refine ok_mv rfl rfl ?_
              refine ok_v (.d (.bool (r11.2 == r13.2))) rfl rfl ?_
              refine ok_v (.d (.bool (r11.2 == r13.2))) rfl rfl ?_
              refine ok_nil ?_
              obtain rfl := someE h38
              exact ⟨_, _, _, _, rfl⟩
            · refine ok_sg rfl ?_
              refine ok_sg rfl ?_
              refine ok_sg rfl ?_
              refine ok_v (.d (.bool false)) rfl rfl ?_
              refine ok_nil ?_
              obtain rfl := someE h38
              exact ⟨_, _, _, _, rfl⟩
          · rintro _ ⟨j39, j40, j41, j42, rfl⟩
            obtain ⟨c45, h46, h0⟩ := bindE h0
            refine ok_cutQ 5 (fun A st => ∃ (j47 j48 j49 j50 : V), st = A [(83, .d (.bool c45)), (82, j50), (81, j49), (80, j48), (79, j47)]) ?_ ?_
            · refine ok_mvB rfl rfl h46 (fun h46 => ?_) (fun h46 => ?_)
              · refine ok_mv rfl rfl ?_
                refine ok_mv rfl rfl ?_
                obtain ⟨r51, h52, h46⟩ := bindE h46
                refine ok_pc [.d (.sl 2 (r15.1.map enc_api_Span)), .d (.sl 2 (r17.1.map enc_api_Span))] (r11_Same_ok r15.1 r17.1 r51 h52) rfl rfl rfl (.inl rfl) ?_
                refine ok_v (.d (.bool r51)) rfl rfl ?_
                refine ok_nil ?_
                obtain rfl := someE h46
                exact ⟨_, _, _, _, rfl⟩
              · refine ok_sg rfl ?_
                refine ok_sg rfl ?_
                refine ok_sg rfl ?_
                refine ok_v (.d (.bool false)) rfl rfl ?_
                refine ok_nil ?_
                obtain rfl := someE h46
                exact ⟨_, _, _, _, rfl⟩
            · rintro _ ⟨j47, j48, j49, j50, rfl⟩
              obtain ⟨c53, h54, h0⟩ := bindE h0
              refine ok_cutQ 5 (fun A st => ∃ (j55 j56 j57 j58 : V), st = A [(88, .d (.bool c53)), (87, j58), (86, j57), (85, j56), (84, j55)]) ?_ ?_
              · refine ok_mvB rfl rfl h54 (fun h54 => ?_) (fun h54 => ?_)
                · refine ok_mv rfl rfl ?_
                  refine ok_mv rfl rfl ?_
                  refine ok_v (.d (.bool (r15.2 == r17.2))) rfl rfl ?_
                  refine ok_v (.d (.bool (r15.2 == r17.2))) rfl rfl ?_
                  refine ok_nil ?_
                  obtain rfl := someE h54
                  exact ⟨_, _, _, _, rfl⟩
                · refine ok_sg rfl ?_
                  refine ok_sg rfl ?_
                  refine ok_sg rfl ?_
                  refine ok_v (.d (.bool false)) rfl rfl ?_
                  refine ok_nil ?_
                  obtain rfl := someE h54
                  exact ⟨_, _, _, _, rfl⟩
              · rintro _ ⟨j55, j56, j57, j58, rfl⟩
                refine ok_as rfl rfl ?_
                refine ok_nil ?_
                refine rk_ret ?_
                obtain rfl := someE h0
                exact finD (.inr rfl) (v := .d (.bool c53)) rfl rfl (.refl _)
end Go.Proofs.Ytcpogfjlehoabaa
