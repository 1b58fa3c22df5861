/- THE WALKS, lifted by program: on. -/
import Derived.Test.YtcpogfjlehoabaaWSpanMakesa
namespace Go.Proofs.Ytcpogfjlehoabaa
open Go Go.Am Go.Sh
theorem r11_Canon_ok (p0 : List Int) (p1 : List Bool) (r : List api_Span) (h0 : r11_Canon p0 p1 = some r) : Pure Try.prog tab 48 [.sl 1 (p0.map (eI .i64)), .sl 1 (p1.map eB)] (.sl 2 (r.map enc_api_Span)) := by
  unfold r11_Canon at h0
  refine pure_of_run Try.func48 rfl (by kernel_rfl) (by kernel_rfl) rfl ?_
  refine rk_seq ?_
  refine rk_region ?_
  refine ok_as rfl rfl ?_
  refine ok_nil ?_
  refine rk_seq ?_
  refine rk_region ?_
  refine ok_as rfl rfl ?_
  refine ok_nil ?_
  refine rk_seq ?_
  refine rk_seq ?_
  refine rk_region ?_
  refine ok_as rfl rfl ?_
  refine ok_nil ?_
  obtain ⟨m65, h66, h0⟩ := bindE h0
  refine rk_blockcut (fun b67 => b67 = m65) (fun (b67 : List api_Span) => ⟨[(5, .hs 0 2 0 b67.length)], [(0, .dat 2 (b67.map enc_api_Span))], 1⟩) (by simp) ?_ ?_
  · refine rk_loopF (r11_Canon_L1 p0 p1) (fun (a64 : Int × List api_Span) => ⟨[(0, .d (.sl 1 (p0.map (eI .i64)))), (1, .d (.sl 1 (p1.map eB))), (5, .hs 0 2 0 a64.2.length), (6, .d (.int .i64 a64.1))], [(0, .dat 2 (a64.2.map enc_api_Span))], 1⟩) (0, []) m65 h66 (wkE [] [] [0] rfl ⟨⟨_, rfl, .d (.refl _)⟩, ⟨_, rfl, .d (.refl _)⟩, ⟨_, rfl, .nil (by decide) (ltd rfl)⟩, ⟨_, rfl, .d (.refl _)⟩, trivial⟩ ⟨⟨ltd rfl, .inl ⟨by decide, _, by decide, rfl⟩⟩, trivial⟩) ?_
    intro a64 y62 h63
    unfold r11_Canon_L1 at h63
    refine rk_seq ?_
    refine rk_seq ?_
    refine rk_region ?_
    refine ok_mv rfl rfl ?_
    refine ok_v (.d (.int .i64 (w64 (a64.1 + 1)))) rfl rfl ?_
    refine ok_mv rfl rfl ?_
    refine ok_ln rfl rfl rfl rfl ?_
    refine ok_v (.d (.bool (decide ((w64 (a64.1 + 1)) < (p0.length : Int))))) rfl rfl ?_
    refine ok_nil ?_
    refine rk_condH rfl h63 (fun _ h63 => ?_) (fun _ h63 => ?_)
    · refine rk_skip ?_
      refine rk_seq ?_
      obtain ⟨m103, h102, h63⟩ := bindE h63
      refine rk_blockcut (fun b104 => b104 = m103) (fun (b104 : List api_Span) => ⟨[(0, .d (.sl 1 (p0.map (eI .i64)))), (1, .d (.sl 1 (p1.map eB))), (5, .hs 0 2 0 b104.length), (6, .d (.int .i64 a64.1))], [(0, .dat 2 (b104.map enc_api_Span))], 1⟩) (by simp) ?_ ?_
      · refine rk_seq ?_
        refine rk_seq ?_
        refine rk_region ?_
        refine ok_mv rfl rfl ?_
        refine ok_mv rfl rfl ?_
        obtain ⟨v105, h106, h102⟩ := bindE h102
        refine ok_ix (enc := eB) h106 rfl rfl rfl rfl rfl rfl ?_
        refine ok_v (.d (.bool v105)) rfl rfl ?_
        refine ok_v (.d (.bool (!v105))) rfl rfl ?_
        refine ok_nil ?_
        refine rk_condH rfl h102 (fun _ h102 => ?_) (fun _ h102 => ?_)
        · refine rk_exit ?_
          obtain rfl := someE h102
          exact ⟨_, rfl, wkE [(0, 0)] [] [] rfl ⟨⟨_, rfl, .d (.refl _)⟩, ⟨_, rfl, .d (.refl _)⟩, ⟨_, rfl, .hs rfl (by decide) (ltd rfl)⟩, ⟨_, rfl, .d (.refl _)⟩, trivial⟩ ⟨⟨ltd rfl, .inr ⟨by decide, _, rfl, .dat _ _⟩⟩, trivial⟩⟩
        · refine rk_skip ?_
          refine rk_seq ?_
          refine rk_region ?_
          refine ok_mv rfl rfl ?_
          refine ok_v (.d (.int .i64 (a64.2.length : Int))) rfl rfl ?_
          refine ok_as rfl rfl ?_
          refine ok_nil ?_
          refine rk_seq ?_
          refine rk_regionD (by kernel_rfl) ?_
          refine ok_mv rfl rfl ?_
          refine ok_v (.d (.bool (decide ((a64.2.length : Int) > 0)))) rfl rfl ?_
          obtain ⟨c111, h112, h102⟩ := bindE h102
          refine ok_cutQ 13 (fun A st => ∃ (j113 j114 j115 j116 j117 j118 j119 j120 j121 j122 j123 j124 : V), st = A [(36, .d (.bool c111)), (35, j124), (34, j123), (33, j122), (32, j121), (31, j120), (30, j119), (29, j118), (28, j117), (27, j116), (26, j115), (25, j114), (24, j113)]) ?_ ?_
          · refine ok_mvB rfl rfl h112 (fun h112 => ?_) (fun h112 => ?_)
            · refine ok_mv rfl rfl ?_
              refine ok_mv rfl rfl ?_
              refine ok_v (.d (.int .i64 (w64 ((a64.2.length : Int) - 1)))) rfl rfl ?_
              obtain ⟨v125, h126, h112⟩ := bindE h112
              refine ok_ih h126 rfl rfl rfl rfl rfl rfl rfl ?_
              refine ok_v (.ref 0 2 (w64 ((a64.2.length : Int) - 1)).toNat 1) rfl rfl ?_
              refine ok_lh (.d (.int .i64 v125.Hi)) h126 rfl rfl rfl rfl rfl rfl ?_
              refine ok_mv rfl rfl ?_
              refine ok_mv rfl rfl ?_
              obtain ⟨v127, h128, h112⟩ := bindE h112
              refine ok_ix (enc := (eI .i64)) h128 rfl rfl rfl rfl rfl rfl ?_
              refine ok_v (.d (.int .i64 v127)) rfl rfl ?_
              refine ok_v (.d (.bool (v125.Hi == v127))) rfl rfl ?_
              refine ok_v (.d (.bool (v125.Hi == v127))) rfl rfl ?_
              refine ok_nil ?_
              obtain rfl := someE h112
              exact ⟨_, _, _, _, _, _, _, _, _, _, _, _, rfl⟩
            · refine ok_sg rfl ?_
              refine ok_sg rfl ?_
              refine ok_sg rfl ?_
              refine ok_sg rfl ?_
              refine ok_sg rfl ?_
              refine ok_sg rfl ?_
              refine ok_sg rfl ?_
              refine ok_sg rfl ?_
              refine ok_sg rfl ?_
              refine ok_sg rfl ?_
              refine ok_sg rfl ?_
              refine ok_v (.d (.bool false)) rfl rfl ?_
              refine ok_nil ?_
              obtain rfl := someE h112
              exact ⟨_, _, _, _, _, _, _, _, _, _, _, _, rfl⟩
          · rintro _ ⟨j113, j114, j115, j116, j117, j118, j119, j120, j121, j122, j123, j124, rfl⟩
            refine ok_nil ?_
            refine rk_condH rfl h102 (fun _ h102 => ?_) (fun _ h102 => ?_)
            · refine rk_region ?_
              refine ok_mv rfl rfl ?_
              refine ok_mv rfl rfl ?_
              refine ok_v (.d (.int .i64 (w64 ((a64.2.length : Int) - 1)))) rfl rfl ?_
              refine ok_mv rfl rfl ?_
              refine ok_mv rfl rfl ?_
              refine ok_v (.d (.int .i64 (w64 (a64.1 + 1)))) rfl rfl ?_
              obtain ⟨v129, h130, h102⟩ := bindE h102
              refine ok_ix (enc := (eI .i64)) h130 rfl rfl rfl rfl rfl rfl ?_
              refine ok_v (.d (.int .i64 v129)) rfl rfl ?_
              obtain ⟨v131, h132, h102⟩ := bindE h102
              refine ok_ih h132 rfl rfl rfl rfl rfl rfl rfl ?_
              refine ok_v (.ref 0 2 (w64 ((a64.2.length : Int) - 1)).toNat 1) rfl rfl ?_
              refine ok_sh (ds := [.int .i64 v129]) ({ Lo := v131.Lo, Hi := v129 } : api_Span) h132 rfl rfl rfl rfl rfl rfl rfl rfl (leb rfl) rfl ?_
              refine ok_nil ?_
              refine rk_nil ?_
              obtain rfl := someE h102
              exact ⟨_, rfl, wkE [(0, 0)] [] [] rfl ⟨⟨_, rfl, .d (.refl _)⟩, ⟨_, rfl, .d (.refl _)⟩, ⟨_, rfl, wv_hsL (by simp) rfl (by decide) (ltd rfl)⟩, ⟨_, rfl, .d (.refl _)⟩, trivial⟩ ⟨⟨ltd rfl, .inr ⟨by decide, _, rfl, .dat _ _⟩⟩, trivial⟩⟩
            · refine rk_regionD (by kernel_rfl) ?_
              refine ok_mv rfl rfl ?_
              refine ok_mv rfl rfl ?_
              refine ok_mv rfl rfl ?_
              obtain ⟨v133, h134, h102⟩ := bindE h102
              refine ok_ix (enc := (eI .i64)) h134 rfl rfl rfl rfl rfl rfl ?_
              refine ok_v (.d (.int .i64 v133)) rfl rfl ?_
              refine ok_mv rfl rfl ?_
              refine ok_mv rfl rfl ?_
              refine ok_v (.d (.int .i64 (w64 (a64.1 + 1)))) rfl rfl ?_
              obtain ⟨v135, h136, h102⟩ := bindE h102
              refine ok_ix (enc := (eI .i64)) h136 rfl rfl rfl rfl rfl rfl ?_
              refine ok_v (.d (.int .i64 v135)) rfl rfl ?_
              refine ok_v (.d (.agg [.int .i64 v133, .int .i64 v135])) rfl rfl ?_
              refine ok_new (.hs 1 2 0 [({ Lo := v133, Hi := v135 } : api_Span)].length) (.dat 2 ([({ Lo := v133, Hi := v135 } : api_Span)].map enc_api_Span)) rfl rfl ?_
              obtain ⟨z137, h138, h102⟩ := bindE h102
              refine ok_ap (xs := a64.2) (ys := [({ Lo := v133, Hi := v135 } : api_Span)]) (enc := enc_api_Span) (.hs 1 2 0 [({ Lo := v133, Hi := v135 } : api_Span)].length) h138 rfl rfl rfl rfl rfl rfl rfl (conts_hs rfl rfl) rfl rfl rfl rfl ?_
              refine ok_as rfl rfl ?_
              refine ok_nil ?_
              refine rk_nil ?_
              obtain rfl := someE h102
              exact ⟨_, rfl, wkE [(0, 2)] [] [] rfl ⟨⟨_, rfl, .d (.refl _)⟩, ⟨_, rfl, .d (.refl _)⟩, ⟨_, rfl, .hs rfl (by decide) (ltd rfl)⟩, ⟨_, rfl, .d (.refl _)⟩, trivial⟩ ⟨⟨ltd rfl, .inr ⟨by decide, _, rfl, .dat _ _⟩⟩, trivial⟩⟩
      · intro b104 hb
        subst hb
        refine rk_region ?_
        refine ok_mv rfl rfl ?_
        refine ok_v (.d (.int .i64 (w64 (a64.1 + 1)))) rfl rfl ?_
        refine ok_as rfl rfl ?_
        refine ok_nil ?_
        refine rk_nil ?_
        exact ⟨_, (Option.some.inj h63).symm, wkE [(0, 0)] [] [] rfl ⟨⟨_, rfl, .d (.refl _)⟩, ⟨_, rfl, .d (.refl _)⟩, ⟨_, rfl, .hs rfl (by decide) (ltd rfl)⟩, ⟨_, rfl, .d (.refl _)⟩, trivial⟩ ⟨⟨ltd rfl, .inr ⟨by decide, _, rfl, .dat _ _⟩⟩, trivial⟩⟩
    · refine rk_exit ?_
      refine ⟨_, (Option.some.inj h63).symm, fun hm => ?_⟩
      subst hm
      exact ⟨_, rfl, wkE [(0, 0)] [] [] rfl ⟨⟨_, rfl, .hs rfl (by decide) (ltd rfl)⟩, trivial⟩ ⟨⟨ltd rfl, .inr ⟨by decide, _, rfl, .dat _ _⟩⟩, trivial⟩⟩
  · intro b67 hb
    subst hb
    refine rk_seq ?_
    refine rk_region ?_
    refine ok_mv rfl rfl ?_
    refine ok_as rfl rfl ?_
    refine ok_nil ?_
    refine rk_ret ?_
    obtain rfl := someE h0
    exact finD (.inr rfl) (v := .hs 0 2 0 b67.length) rfl (td_hs rfl rfl) (.refl _)

theorem r11_Joined_ok (p0 : Int) (p1 : List api_Span) (p2 : List api_Span) (r : List api_Span) (h0 : r11_Joined p0 p1 p2 = some r) : Pure Try.prog tab 34 [.int .i64 p0, .sl 2 (p1.map enc_api_Span), .sl 2 (p2.map enc_api_Span)] (.sl 2 (r.map enc_api_Span)) := by
  unfold r11_Joined at h0
  refine pure_of_run Try.func34 rfl (by kernel_rfl) (by kernel_rfl) rfl ?_
  refine rk_seq ?_
  refine rk_region ?_
  refine ok_as rfl rfl ?_
  refine ok_nil ?_
  refine rk_seq ?_
  refine rk_region ?_
  refine ok_mv rfl rfl ?_
  refine ok_mv rfl rfl ?_
  obtain ⟨r1, h2, h0⟩ := bindE h0
  refine ok_pc [.d (.sl 2 (p1.map enc_api_Span)), .d (.sl 2 (p2.map enc_api_Span))] (r11_Ends_ok p1 p2 r1 h2) rfl rfl rfl (.inl rfl) ?_
  refine ok_as rfl rfl ?_
  refine ok_nil ?_
  refine rk_seq ?_
  refine rk_region ?_
  refine ok_as rfl rfl ?_
  refine ok_nil ?_
  refine rk_seq ?_
  refine rk_seq ?_
  refine rk_region ?_
  refine ok_as rfl rfl ?_
  refine ok_nil ?_
  obtain ⟨m54, h55, h0⟩ := bindE h0
  refine rk_blockcut (fun b56 => b56 = m54) (fun (b56 : List Bool) => ⟨[(7, .d (.sl 1 (r1.map (eI .i64)))), (8, .hs 0 1 0 b56.length)], [(0, .dat 1 (b56.map eB))], 1⟩) (by simp) ?_ ?_
  · refine rk_loopF (r11_Joined_L1 r1 p1 p2 p0) (fun (a53 : Int × List Bool) => ⟨[(0, .d (.int .i64 p0)), (1, .d (.sl 2 (p1.map enc_api_Span))), (2, .d (.sl 2 (p2.map enc_api_Span))), (7, .d (.sl 1 (r1.map (eI .i64)))), (8, .hs 0 1 0 a53.2.length), (9, .d (.int .i64 a53.1))], [(0, .dat 1 (a53.2.map eB))], 1⟩) (0, []) m54 h55 (wkE [] [] [0] rfl ⟨⟨_, rfl, .d (.refl _)⟩, ⟨_, rfl, .d (.refl _)⟩, ⟨_, rfl, .d (.refl _)⟩, ⟨_, rfl, .d (.refl _)⟩, ⟨_, rfl, .nil (by decide) (ltd rfl)⟩, ⟨_, rfl, .d (.refl _)⟩, trivial⟩ ⟨⟨ltd rfl, .inl ⟨by decide, _, by decide, rfl⟩⟩, trivial⟩) ?_
    intro a53 y51 h52
    unfold r11_Joined_L1 at h52
    refine rk_seq ?_
    refine rk_seq ?_
    refine rk_region ?_
    refine ok_mv rfl rfl ?_
    refine ok_mv rfl rfl ?_
    refine ok_ln rfl rfl rfl rfl ?_
    refine ok_v (.d (.bool (decide (a53.1 < (r1.length : Int))))) rfl rfl ?_
    refine ok_nil ?_
    refine rk_condH rfl h52 (fun _ h52 => ?_) (fun _ h52 => ?_)
    · refine rk_skip ?_
      refine rk_seq ?_
      refine rk_block ?_
      refine rk_regionD (by kernel_rfl) ?_
      refine ok_mv rfl rfl ?_
      refine ok_mv rfl rfl ?_
      refine ok_mv rfl rfl ?_
      refine ok_mv rfl rfl ?_
      refine ok_mv rfl rfl ?_
      obtain ⟨v69, h70, h52⟩ := bindE h52
      refine ok_ix (enc := (eI .i64)) h70 rfl rfl rfl rfl rfl rfl ?_
      refine ok_v (.d (.int .i64 v69)) rfl rfl ?_
      obtain ⟨r71, h72, h52⟩ := bindE h52
      refine ok_pc [.d (.sl 2 (p1.map enc_api_Span)), .d (.int .i64 v69)] (r11_Has_ok p1 v69 r71 h72) rfl rfl rfl (.inl rfl) ?_
      refine ok_mv rfl rfl ?_
      refine ok_mv rfl rfl ?_
      refine ok_mv rfl rfl ?_
      obtain ⟨v73, h74, h52⟩ := bindE h52
      refine ok_ix (enc := (eI .i64)) h74 rfl rfl rfl rfl rfl rfl ?_
      refine ok_v (.d (.int .i64 v73)) rfl rfl ?_
      obtain ⟨r75, h76, h52⟩ := bindE h52
      refine ok_pc [.d (.sl 2 (p2.map enc_api_Span)), .d (.int .i64 v73)] (r11_Has_ok p2 v73 r75 h76) rfl rfl rfl (.inl rfl) ?_
      obtain ⟨r77, h78, h52⟩ := bindE h52
      refine ok_pc [.d (.int .i64 p0), .d (.bool r71), .d (.bool r75)] (r11_Holds_ok p0 r71 r75 r77 h78) rfl rfl rfl (.inl rfl) ?_
      refine ok_new (.hs 1 1 0 [r77].length) (.dat 1 ([r77].map eB)) rfl rfl ?_
      obtain ⟨z79, h80, h52⟩ := bindE h52
      refine ok_ap (xs := a53.2) (ys := [r77]) (enc := eB) (.hs 1 1 0 [r77].length) h80 rfl rfl rfl rfl rfl rfl rfl (conts_hs rfl rfl) rfl rfl rfl rfl ?_
      refine ok_as rfl rfl ?_
      refine ok_nil ?_
      refine rk_nil ?_
      refine blk_nor ?_
      refine rk_region ?_
      refine ok_mv rfl rfl ?_
      refine ok_v (.d (.int .i64 (w64 (a53.1 + 1)))) rfl rfl ?_
      refine ok_as rfl rfl ?_
      refine ok_nil ?_
      refine rk_nil ?_
      exact ⟨_, (Option.some.inj h52).symm, wkE [(0, 2)] [] [] rfl ⟨⟨_, rfl, .d (.refl _)⟩, ⟨_, rfl, .d (.refl _)⟩, ⟨_, rfl, .d (.refl _)⟩, ⟨_, rfl, .d (.refl _)⟩, ⟨_, rfl, .hs rfl (by decide) (ltd rfl)⟩, ⟨_, rfl, .d (.refl _)⟩, trivial⟩ ⟨⟨ltd rfl, .inr ⟨by decide, _, rfl, .dat _ _⟩⟩, trivial⟩⟩
    · refine rk_exit ?_
      refine ⟨_, (Option.some.inj h52).symm, fun hm => ?_⟩
      subst hm
      exact ⟨_, rfl, wkE [(0, 0)] [] [] rfl ⟨⟨_, rfl, .d (.refl _)⟩, ⟨_, rfl, .hs rfl (by decide) (ltd rfl)⟩, trivial⟩ ⟨⟨ltd rfl, .inr ⟨by decide, _, rfl, .dat _ _⟩⟩, trivial⟩⟩
  · intro b56 hb
    subst hb
    refine rk_seq ?_
    refine rk_wk (st' := ⟨[(7, .d (.sl 1 (r1.map (eI .i64)))), (8, .d (.sl 1 (b56.map eB)))], [], 0⟩) (wkE [] [0] [] rfl ⟨⟨_, rfl, .d (.refl _)⟩, ⟨_, rfl, wv_frz rfl rfl (by decide)⟩, trivial⟩ trivial) ?_ (by simp)
    refine rk_region ?_
    refine ok_mv rfl rfl ?_
    refine ok_mv rfl rfl ?_
    obtain ⟨r81, h82, h0⟩ := bindE h0
    refine ok_pc [.d (.sl 1 (r1.map (eI .i64))), .d (.sl 1 (b56.map eB))] (r11_Canon_ok r1 b56 r81 h82) rfl rfl rfl (.inl rfl) ?_
    refine ok_as rfl rfl ?_
    refine ok_nil ?_
    refine rk_ret ?_
    obtain rfl := someE h0
    exact finD (.inr rfl) (v := .d (.sl 2 (r81.map enc_api_Span))) rfl rfl (.refl _)

theorem r11_Make_ok (p0 : List api_Span) (r : List api_Span × Int) (h0 : r11_Make p0 = some r) : Pure Try.prog tab 24 [.sl 2 (p0.map enc_api_Span)] (.tup [.sl 2 (r.1.map enc_api_Span), .int .i64 r.2]) := by
  unfold r11_Make at h0
  refine pure_of_run Try.func24 rfl (by kernel_rfl) (by kernel_rfl) rfl ?_
  refine rk_seq ?_
  refine rk_region ?_
  refine ok_as rfl rfl ?_
  refine ok_as rfl rfl ?_
  refine ok_nil ?_
  refine rk_seq ?_
  refine rk_seq ?_
  refine rk_region ?_
  refine ok_mv rfl rfl ?_
  refine ok_ln rfl rfl rfl rfl ?_
  refine ok_v (.d (.bool (decide ((p0.length : Int) > 400)))) rfl rfl ?_
  refine ok_nil ?_
  refine rk_condH rfl h0 (fun _ h0 => ?_) (fun _ h0 => ?_)
  · refine rk_seq ?_
    refine rk_region ?_
    refine ok_as rfl rfl ?_
    refine ok_as rfl rfl ?_
    refine ok_nil ?_
    refine rk_ret ?_
    obtain rfl := someE h0
    exact finD (.inr rfl) (v := .d (.tup [.nilsl, .int .i64 4])) rfl rfl (dle_tup (.cons (.nil _) (.cons (.refl _) .nil)))
  · refine rk_skip ?_
    refine rk_seq ?_
    refine rk_seq ?_
    refine rk_region ?_
    refine ok_as rfl rfl ?_
    refine ok_nil ?_
    obtain ⟨m20, h21, h0⟩ := bindE h0
    refine rk_blockcut (fun b22 => .inl b22 = m20) (fun (b22 : Unit) => ⟨[(0, .d (.sl 2 (p0.map enc_api_Span)))], [], 0⟩) (by simp) ?_ ?_
    · refine rk_loopF (r11_Make_L1 p0) (fun (a19 : Int) => ⟨[(0, .d (.sl 2 (p0.map enc_api_Span))), (4, .d (.int .i64 a19))], [], 0⟩) 0 m20 h21 (wkE [] [] [] rfl ⟨⟨_, rfl, .d (.refl _)⟩, ⟨_, rfl, .d (.refl _)⟩, trivial⟩ trivial) ?_
      intro a19 y17 h18
      unfold r11_Make_L1 at h18
      refine rk_seq ?_
      refine rk_seq ?_
      refine rk_region ?_
      refine ok_mv rfl rfl ?_
      refine ok_mv rfl rfl ?_
      refine ok_ln rfl rfl rfl rfl ?_
      refine ok_v (.d (.bool (decide (a19 < (p0.length : Int))))) rfl rfl ?_
      refine ok_nil ?_
      refine rk_condH rfl h18 (fun _ h18 => ?_) (fun _ h18 => ?_)
      · refine rk_skip ?_
        refine rk_seq ?_
        refine rk_block ?_
        refine rk_seq ?_
        refine rk_region ?_
        refine ok_mv rfl rfl ?_
        refine ok_mv rfl rfl ?_
        obtain ⟨v27, h28, h18⟩ := bindE h18
        refine ok_ix (enc := enc_api_Span) h28 rfl rfl rfl rfl rfl rfl ?_
        refine ok_v (.d (.agg [.int .i64 v27.Lo, .int .i64 v27.Hi])) rfl rfl ?_
        obtain ⟨r29, h30, h18⟩ := bindE h18
        refine ok_pc [.d (.agg [.int .i64 v27.Lo, .int .i64 v27.Hi])] (r11_Valid_ok v27 r29 h30) rfl rfl rfl (.inl rfl) ?_
        refine ok_v (.d (.bool (!r29))) rfl rfl ?_
        refine ok_nil ?_
        refine rk_condH rfl h18 (fun _ h18 => ?_) (fun _ h18 => ?_)
        · refine rk_seq ?_
          refine rk_region ?_
          refine ok_as rfl rfl ?_
          refine ok_as rfl rfl ?_
          refine ok_nil ?_
          refine rk_ret ?_
          refine ⟨_, (Option.some.inj h18).symm, fun hm => ?_⟩
          subst hm
          obtain rfl := someE h0
          exact finD (.inr rfl) (v := .d (.tup [.nilsl, .int .i64 8])) rfl rfl (dle_tup (.cons (.nil _) (.cons (.refl _) .nil)))
        · refine rk_skip ?_
          refine rk_nil ?_
          refine blk_nor ?_
          refine rk_region ?_
          refine ok_mv rfl rfl ?_
          refine ok_v (.d (.int .i64 (w64 (a19 + 1)))) rfl rfl ?_
          refine ok_as rfl rfl ?_
          refine ok_nil ?_
          refine rk_nil ?_
          exact ⟨_, (Option.some.inj h18).symm, wkE [] [] [] rfl ⟨⟨_, rfl, .d (.refl _)⟩, ⟨_, rfl, .d (.refl _)⟩, trivial⟩ trivial⟩
      · refine rk_exit ?_
        refine ⟨_, (Option.some.inj h18).symm, fun hm => ?_⟩
        subst hm
        exact ⟨_, rfl, wkE [] [] [] rfl ⟨⟨_, rfl, .d (.refl _)⟩, trivial⟩ trivial⟩
    · intro b22 hb
      subst hb
      refine rk_seq ?_
      refine rk_region ?_
      refine ok_mv rfl rfl ?_
      obtain ⟨r31, h32, h0⟩ := bindE h0
      refine ok_pc [.d (.int .i64 2), .d (.sl 2 (p0.map enc_api_Span)), .d (.nilsl)] (pure_le (.cons (.refl _) (.cons (.refl _) (.cons (.nil _) .nil))) (r11_Joined_ok 2 p0 [] r31 h32)) rfl rfl rfl (.inl rfl) ?_
      refine ok_as rfl rfl ?_
      refine ok_as rfl rfl ?_
      refine ok_nil ?_
      refine rk_ret ?_
      obtain rfl := someE h0
      exact finD (.inr rfl) (v := .d (.tup [.sl 2 (r31.map enc_api_Span), .int .i64 0])) rfl rfl (.refl _)

theorem span_Check_ok (p0 : List api_Span) (r : Int) (h0 : span_Check p0 = some r) : Pure Try.prog tab 27 [.sl 2 (p0.map enc_api_Span)] (.int .i64 r) := by
  unfold span_Check at h0
  refine pure_of_run Try.func27 rfl (by kernel_rfl) (by kernel_rfl) rfl ?_
  refine rk_seq ?_
  refine rk_region ?_
  refine ok_as rfl rfl ?_
  refine ok_nil ?_
  refine rk_seq ?_
  refine rk_seq ?_
  refine rk_region ?_
  refine ok_mv rfl rfl ?_
  refine ok_ln rfl rfl rfl rfl ?_
  refine ok_v (.d (.bool (decide ((p0.length : Int) > 400)))) rfl rfl ?_
  refine ok_nil ?_
  refine rk_condH rfl h0 (fun _ h0 => ?_) (fun _ h0 => ?_)
  · refine rk_seq ?_
    refine rk_region ?_
    refine ok_as rfl rfl ?_
    refine ok_nil ?_
    refine rk_ret ?_
    obtain rfl := someE h0
    exact finD (.inr rfl) (v := .d (.int .i64 4)) rfl rfl (.refl _)
  · refine rk_skip ?_
    refine rk_seq ?_
    refine rk_seq ?_
    refine rk_region ?_
    refine ok_mv rfl rfl ?_
    refine ok_ln rfl rfl rfl rfl ?_
    refine ok_mv rfl rfl ?_
    refine ok_nil ?_
    obtain ⟨m212, h213, h0⟩ := bindE h0
    refine rk_blockcut (fun b214 => .inl b214 = m212) (fun (b214 : Unit) => ⟨[], [], 0⟩) (by simp) ?_ ?_
    · refine rk_loopF (span_Check_L1 p0) (fun (a211 : Int) => ⟨[(0, .d (.sl 2 (p0.map enc_api_Span))), (8, .d (.sl 2 (p0.map enc_api_Span))), (9, .d (.int .i64 (p0.length : Int))), (10, .d (.int .i64 a211))], [], 0⟩) 0 m212 h213 (wkE [] [] [] rfl ⟨⟨_, rfl, .d (.refl _)⟩, ⟨_, rfl, .d (.refl _)⟩, ⟨_, rfl, .d (.refl _)⟩, ⟨_, rfl, .d (.refl _)⟩, trivial⟩ trivial) ?_
      intro a211 y209 h210
      unfold span_Check_L1 at h210
      refine rk_seq ?_
      refine rk_region ?_
      refine ok_v (.d (.bool (decide (a211 < (p0.length : Int))))) rfl rfl ?_
      refine ok_nil ?_
      refine rk_seq ?_
      refine rk_condH rfl h210 (fun _ h210 => ?_) (fun _ h210 => ?_)
      · refine rk_skip ?_
        refine rk_seq ?_
        refine rk_block ?_
        refine rk_seq ?_
        refine rk_region ?_
        refine ok_mv rfl rfl ?_
        obtain ⟨v267, h268, h210⟩ := bindE h210
        refine ok_ix (enc := enc_api_Span) h268 rfl rfl rfl rfl rfl rfl ?_
        refine ok_v (.d (.agg [.int .i64 v267.Lo, .int .i64 v267.Hi])) rfl rfl ?_
        refine ok_alloc rfl rfl ?_
        refine ok_as rfl rfl ?_
        refine ok_sto 0 (.dat 2 [[.int .i64 v267.Lo, .int .i64 v267.Hi]]) rfl rfl ?_
        refine ok_nil ?_
        refine rk_seq ?_
        refine rk_regionD (by kernel_rfl) ?_
        refine ok_v (.d (.agg [.int .i64 v267.Lo, .int .i64 v267.Hi])) rfl rfl ?_
        obtain ⟨r269, h270, h210⟩ := bindE h210
        refine ok_pc [.d (.agg [.int .i64 v267.Lo, .int .i64 v267.Hi])] (span_valid_ok v267 r269 h270) rfl rfl rfl (.inl rfl) ?_
        refine ok_v (.d (.bool (!r269))) rfl rfl ?_
        obtain ⟨c287, h288, h210⟩ := bindE h210
        refine ok_cutQ 15 (fun A st => ∃ (j289 j290 j291 j292 j293 j294 j295 j296 j297 j298 j299 j300 j301 j302 : V), st = A [(32, .d (.bool c287)), (31, j302), (30, j301), (29, j300), (28, j299), (27, j298), (26, j297), (25, j296), (24, j295), (23, j294), (22, j293), (21, j292), (20, j291), (19, j290), (18, j289)]) ?_ ?_
        · refine ok_mvB rfl rfl h288 (fun h288 => ?_) (fun h288 => ?_)
          · refine ok_sg rfl ?_
            refine ok_sg rfl ?_
            refine ok_sg rfl ?_
            refine ok_sg rfl ?_
            refine ok_sg rfl ?_
            refine ok_sg rfl ?_
            refine ok_sg rfl ?_
            refine ok_sg rfl ?_
            refine ok_sg rfl ?_
            refine ok_sg rfl ?_
            refine ok_sg rfl ?_
            refine ok_sg rfl ?_
            refine ok_sg rfl ?_
            refine ok_v (.d (.bool true)) rfl rfl ?_
            refine ok_nil ?_
            obtain rfl := someE h288
            exact ⟨_, _, _, _, _, _, _, _, _, _, _, _, _, _, rfl⟩
          · refine ok_mv rfl rfl ?_
            refine ok_v (.d (.bool (decide (a211 > 0)))) rfl rfl ?_
            obtain ⟨c305, h306, h288⟩ := bindE h288
            refine ok_cutQ 11 (fun A st => ∃ (j307 j308 j309 j310 j311 j312 j313 j314 j315 j316 : V), st = A [(31, .d (.bool c305)), (30, j316), (29, j315), (28, j314), (27, j313), (26, j312), (25, j311), (24, j310), (23, j309), (22, j308), (21, j307)]) ?_ ?_
            · refine ok_mvB rfl rfl h306 (fun h306 => ?_) (fun h306 => ?_)
              · refine ok_mv rfl rfl ?_
                refine ok_mv rfl rfl ?_
                refine ok_v (.d (.int .i64 (w64 (a211 - 1)))) rfl rfl ?_
                obtain ⟨v317, h318, h306⟩ := bindE h306
                refine ok_ix (enc := enc_api_Span) h318 rfl rfl rfl rfl rfl rfl ?_
                refine ok_v (.dref [.int .i64 v317.Lo, .int .i64 v317.Hi] 1) rfl rfl ?_
                refine ok_v (.d (.int .i64 v317.Hi)) rfl rfl ?_
                refine ok_v (.ref 0 2 0 0) rfl rfl ?_
                refine ok_v (.d (.int .i64 v267.Lo)) rfl rfl ?_
                refine ok_v (.d (.bool (decide (v317.Hi ≥ v267.Lo)))) rfl rfl ?_
                refine ok_v (.d (.bool (decide (v317.Hi ≥ v267.Lo)))) rfl rfl ?_
                refine ok_nil ?_
                obtain rfl := someE h306
                exact ⟨_, _, _, _, _, _, _, _, _, _, rfl⟩
              · refine ok_sg rfl ?_
                refine ok_sg rfl ?_
                refine ok_sg rfl ?_
                refine ok_sg rfl ?_
                refine ok_sg rfl ?_
                refine ok_sg rfl ?_
                refine ok_sg rfl ?_
                refine ok_sg rfl ?_
                refine ok_sg rfl ?_
                refine ok_v (.d (.bool false)) rfl rfl ?_
                refine ok_nil ?_
                obtain rfl := someE h306
                exact ⟨_, _, _, _, _, _, _, _, _, _, rfl⟩
            · rintro _ ⟨j307, j308, j309, j310, j311, j312, j313, j314, j315, j316, rfl⟩
              refine ok_v (.d (.bool c305)) rfl rfl ?_
              refine ok_nil ?_
              obtain rfl := someE h288
              exact ⟨_, _, _, _, _, _, _, _, _, _, _, _, _, _, rfl⟩
        · rintro _ ⟨j289, j290, j291, j292, j293, j294, j295, j296, j297, j298, j299, j300, j301, j302, rfl⟩
          refine ok_nil ?_
          refine rk_condH rfl h210 (fun _ h210 => ?_) (fun _ h210 => ?_)
          · refine rk_seq ?_
            refine rk_region ?_
            refine ok_as rfl rfl ?_
            refine ok_nil ?_
            refine rk_ret ?_
            refine ⟨_, (Option.some.inj h210).symm, fun hm => ?_⟩
            subst hm
            obtain rfl := someE h0
            exact finD (.inr rfl) (v := .d (.int .i64 8)) rfl rfl (.refl _)
          · refine rk_skip ?_
            refine rk_nil ?_
            refine blk_nor ?_
            refine rk_region ?_
            refine ok_v (.d (.int .i64 (w64 (a211 + 1)))) rfl rfl ?_
            refine ok_mv rfl rfl ?_
            refine ok_nil ?_
            refine rk_nil ?_
            exact ⟨_, (Option.some.inj h210).symm, wkE [] [] [] rfl ⟨⟨_, rfl, .d (.refl _)⟩, ⟨_, rfl, .d (.refl _)⟩, ⟨_, rfl, .d (.refl _)⟩, ⟨_, rfl, .d (.refl _)⟩, trivial⟩ trivial⟩
      · refine rk_exit ?_
        refine ⟨_, (Option.some.inj h210).symm, fun hm => ?_⟩
        subst hm
        exact ⟨_, rfl, wkE [] [] [] rfl trivial trivial⟩
    · intro b214 hb
      subst hb
      refine rk_seq ?_
      refine rk_region ?_
      refine ok_as rfl rfl ?_
      refine ok_nil ?_
      refine rk_ret ?_
      obtain rfl := someE h0
      exact finD (.inr rfl) (v := .d (.int .i64 0)) rfl rfl (.refl _)

theorem span_Length_ok (p0 : List api_Span) (r : Int × Int) (h0 : span_Length p0 = some r) : Pure Try.prog tab 25 [.sl 2 (p0.map enc_api_Span)] (.tup [.int .i64 r.1, .int .i64 r.2]) := by
  unfold span_Length at h0
  refine pure_of_run Try.func25 rfl (by kernel_rfl) (by kernel_rfl) rfl ?_
  refine rk_seq ?_
  refine rk_region ?_
  refine ok_as rfl rfl ?_
  refine ok_as rfl rfl ?_
  refine ok_nil ?_
  refine rk_seq ?_
  refine rk_seq ?_
  refine rk_region ?_
  refine ok_mv rfl rfl ?_
  obtain ⟨r1, h2, h0⟩ := bindE h0
  refine ok_pc [.d (.sl 2 (p0.map enc_api_Span))] (span_Check_ok p0 r1 h2) rfl rfl rfl (.inl rfl) ?_
  refine ok_as rfl rfl ?_
  refine ok_nil ?_
  refine rk_seq ?_
  refine rk_region ?_
  refine ok_mv rfl rfl ?_
  refine ok_v (.d (.bool (r1 != 0))) rfl rfl ?_
  refine ok_nil ?_
  refine rk_condH rfl h0 (fun _ h0 => ?_) (fun _ h0 => ?_)
  · refine rk_seq ?_
    refine rk_region ?_
    refine ok_mv rfl rfl ?_
    refine ok_as rfl rfl ?_
    refine ok_as rfl rfl ?_
    refine ok_nil ?_
    refine rk_ret ?_
    obtain rfl := someE h0
    exact finD (.inr rfl) (v := .d (.tup [.int .i64 0, .int .i64 r1])) rfl rfl (.refl _)
  · refine rk_skip ?_
    refine rk_seq ?_
    refine rk_region ?_
    refine ok_as rfl rfl ?_
    refine ok_nil ?_
    refine rk_seq ?_
    refine rk_seq ?_
    refine rk_region ?_
    refine ok_mv rfl rfl ?_
    refine ok_ln rfl rfl rfl rfl ?_
    refine ok_mv rfl rfl ?_
    refine ok_nil ?_
    obtain ⟨m14, h15, h0⟩ := bindE h0
    refine rk_blockcut (fun b16 => b16 = m14) (fun (b16 : Int) => ⟨[(5, .d (.int .i64 b16))], [], 0⟩) (by simp) ?_ ?_
    · refine rk_loopF (span_Length_L1 p0) (fun (a13 : Int × Int) => ⟨[(5, .d (.int .i64 a13.1)), (13, .d (.sl 2 (p0.map enc_api_Span))), (14, .d (.int .i64 (p0.length : Int))), (15, .d (.int .i64 a13.2))], [], 0⟩) (0, 0) m14 h15 (wkE [] [] [] rfl ⟨⟨_, rfl, .d (.refl _)⟩, ⟨_, rfl, .d (.refl _)⟩, ⟨_, rfl, .d (.refl _)⟩, ⟨_, rfl, .d (.refl _)⟩, trivial⟩ trivial) ?_
      intro a13 y11 h12
      unfold span_Length_L1 at h12
      refine rk_seq ?_
      refine rk_region ?_
      refine ok_v (.d (.bool (decide (a13.2 < (p0.length : Int))))) rfl rfl ?_
      refine ok_nil ?_
      refine rk_seq ?_
      refine rk_condH rfl h12 (fun _ h12 => ?_) (fun _ h12 => ?_)
      · refine rk_skip ?_
        refine rk_seq ?_
        refine rk_block ?_
        refine rk_seq ?_
        refine rk_region ?_
        obtain ⟨v19, h20, h12⟩ := bindE h12
        refine ok_ix (enc := enc_api_Span) h20 rfl rfl rfl rfl rfl rfl ?_
        refine ok_v (.d (.agg [.int .i64 v19.Lo, .int .i64 v19.Hi])) rfl rfl ?_
        refine ok_alloc rfl rfl ?_
        refine ok_sto 0 (.dat 2 [[.int .i64 v19.Lo, .int .i64 v19.Hi]]) rfl rfl ?_
        refine ok_nil ?_
        refine rk_region ?_
        refine ok_mv rfl rfl ?_
        refine ok_v (.ref 0 2 0 1) rfl rfl ?_
        refine ok_v (.d (.int .i64 v19.Hi)) rfl rfl ?_
        refine ok_v (.ref 0 2 0 0) rfl rfl ?_
        refine ok_v (.d (.int .i64 v19.Lo)) rfl rfl ?_
        refine ok_v (.d (.int .i64 (w64 (v19.Hi - v19.Lo)))) rfl rfl ?_
        refine ok_v (.d (.int .i64 (w64 (a13.1 + (w64 (v19.Hi - v19.Lo)))))) rfl rfl ?_
        refine ok_as rfl rfl ?_
        refine ok_nil ?_
        refine rk_nil ?_
        refine blk_nor ?_
        refine rk_region ?_
        refine ok_v (.d (.int .i64 (w64 (a13.2 + 1)))) rfl rfl ?_
        refine ok_mv rfl rfl ?_
        refine ok_nil ?_
        refine rk_nil ?_
        exact ⟨_, (Option.some.inj h12).symm, wkE [] [] [] rfl ⟨⟨_, rfl, .d (.refl _)⟩, ⟨_, rfl, .d (.refl _)⟩, ⟨_, rfl, .d (.refl _)⟩, ⟨_, rfl, .d (.refl _)⟩, trivial⟩ trivial⟩
      · refine rk_exit ?_
        refine ⟨_, (Option.some.inj h12).symm, fun hm => ?_⟩
        subst hm
        exact ⟨_, rfl, wkE [] [] [] rfl ⟨⟨_, rfl, .d (.refl _)⟩, trivial⟩ trivial⟩
    · intro b16 hb
      subst hb
      refine rk_seq ?_
      refine rk_region ?_
      refine ok_mv rfl rfl ?_
      refine ok_as rfl rfl ?_
      refine ok_as rfl rfl ?_
      refine ok_nil ?_
      refine rk_ret ?_
      obtain rfl := someE h0
      exact finD (.inr rfl) (v := .d (.tup [.int .i64 b16, .int .i64 0])) rfl rfl (.refl _)

theorem r11_Check_ok (p0 : List api_Span) (r : Int) (h0 : r11_Check p0 = some r) : Pure Try.prog tab 28 [.sl 2 (p0.map enc_api_Span)] (.int .i64 r) := by
  unfold r11_Check at h0
  refine pure_of_run Try.func28 rfl (by kernel_rfl) (by kernel_rfl) rfl ?_
  refine rk_seq ?_
  refine rk_region ?_
  refine ok_as rfl rfl ?_
  refine ok_nil ?_
  refine rk_seq ?_
  refine rk_seq ?_
  refine rk_region ?_
  refine ok_mv rfl rfl ?_
  refine ok_ln rfl rfl rfl rfl ?_
  refine ok_v (.d (.bool (decide ((p0.length : Int) > 400)))) rfl rfl ?_
  refine ok_nil ?_
  refine rk_condH rfl h0 (fun _ h0 => ?_) (fun _ h0 => ?_)
  · refine rk_seq ?_
    refine rk_region ?_
    refine ok_as rfl rfl ?_
    refine ok_nil ?_
    refine rk_ret ?_
    obtain rfl := someE h0
    exact finD (.inr rfl) (v := .d (.int .i64 4)) rfl rfl (.refl _)
  · refine rk_skip ?_
    refine rk_seq ?_
    refine rk_seq ?_
    refine rk_region ?_
    refine ok_as rfl rfl ?_
    refine ok_nil ?_
    obtain ⟨m280, h281, h0⟩ := bindE h0
    refine rk_blockcut (fun b282 => .inl b282 = m280) (fun (b282 : Unit) => ⟨[], [], 0⟩) (by simp) ?_ ?_
    · refine rk_loopF (r11_Check_L1 p0) (fun (a279 : Int) => ⟨[(0, .d (.sl 2 (p0.map enc_api_Span))), (3, .d (.int .i64 a279))], [], 0⟩) 0 m280 h281 (wkE [] [] [] rfl ⟨⟨_, rfl, .d (.refl _)⟩, ⟨_, rfl, .d (.refl _)⟩, trivial⟩ trivial) ?_
      intro a279 y277 h278
      unfold r11_Check_L1 at h278
      refine rk_seq ?_
      refine rk_seq ?_
      refine rk_region ?_
      refine ok_mv rfl rfl ?_
      refine ok_mv rfl rfl ?_
      refine ok_ln rfl rfl rfl rfl ?_
      refine ok_v (.d (.bool (decide (a279 < (p0.length : Int))))) rfl rfl ?_
      refine ok_nil ?_
      refine rk_condH rfl h278 (fun _ h278 => ?_) (fun _ h278 => ?_)
      · refine rk_skip ?_
        refine rk_seq ?_
        refine rk_block ?_
        refine rk_seq ?_
        refine rk_regionD (by kernel_rfl) ?_
        refine ok_mv rfl rfl ?_
        refine ok_mv rfl rfl ?_
        obtain ⟨v352, h353, h278⟩ := bindE h278
        refine ok_ix (enc := enc_api_Span) h353 rfl rfl rfl rfl rfl rfl ?_
        refine ok_v (.d (.agg [.int .i64 v352.Lo, .int .i64 v352.Hi])) rfl rfl ?_
        obtain ⟨r354, h355, h278⟩ := bindE h278
        refine ok_pc [.d (.agg [.int .i64 v352.Lo, .int .i64 v352.Hi])] (r11_Valid_ok v352 r354 h355) rfl rfl rfl (.inl rfl) ?_
        refine ok_v (.d (.bool (!r354))) rfl rfl ?_
        obtain ⟨c379, h380, h278⟩ := bindE h278
        refine ok_cutQ 18 (fun A st => ∃ (j381 j382 j383 j384 j385 j386 j387 j388 j389 j390 j391 j392 j393 j394 j395 j396 j397 : V), st = A [(36, .d (.bool c379)), (35, j397), (34, j396), (33, j395), (32, j394), (31, j393), (30, j392), (29, j391), (28, j390), (27, j389), (26, j388), (25, j387), (24, j386), (23, j385), (22, j384), (21, j383), (20, j382), (19, j381)]) ?_ ?_
        · refine ok_mvB rfl rfl h380 (fun h380 => ?_) (fun h380 => ?_)
          · refine ok_sg rfl ?_
            refine ok_sg rfl ?_
            refine ok_sg rfl ?_
            refine ok_sg rfl ?_
            refine ok_sg rfl ?_
            refine ok_sg rfl ?_
            refine ok_sg rfl ?_
            refine ok_sg rfl ?_
            refine ok_sg rfl ?_
            refine ok_sg rfl ?_
            refine ok_sg rfl ?_
            refine ok_sg rfl ?_
            refine ok_sg rfl ?_
            refine ok_sg rfl ?_
            refine ok_sg rfl ?_
            refine ok_sg rfl ?_
            refine ok_v (.d (.bool true)) rfl rfl ?_
            refine ok_nil ?_
            obtain rfl := someE h380
            exact ⟨_, _, _, _, _, _, _, _, _, _, _, _, _, _, _, _, _, rfl⟩
          · refine ok_mv rfl rfl ?_
            refine ok_v (.d (.bool (decide (a279 > 0)))) rfl rfl ?_
            obtain ⟨c402, h403, h380⟩ := bindE h380
            refine ok_cutQ 14 (fun A st => ∃ (j404 j405 j406 j407 j408 j409 j410 j411 j412 j413 j414 j415 j416 : V), st = A [(35, .d (.bool c402)), (34, j416), (33, j415), (32, j414), (31, j413), (30, j412), (29, j411), (28, j410), (27, j409), (26, j408), (25, j407), (24, j406), (23, j405), (22, j404)]) ?_ ?_
            · refine ok_mvB rfl rfl h403 (fun h403 => ?_) (fun h403 => ?_)
              · refine ok_mv rfl rfl ?_
                refine ok_mv rfl rfl ?_
                refine ok_v (.d (.int .i64 (w64 (a279 - 1)))) rfl rfl ?_
                obtain ⟨v417, h418, h403⟩ := bindE h403
                refine ok_ix (enc := enc_api_Span) h418 rfl rfl rfl rfl rfl rfl ?_
                refine ok_v (.dref [.int .i64 v417.Lo, .int .i64 v417.Hi] 1) rfl rfl ?_
                refine ok_v (.d (.int .i64 v417.Hi)) rfl rfl ?_
                refine ok_mv rfl rfl ?_
                refine ok_mv rfl rfl ?_
                obtain ⟨v419, h420, h403⟩ := bindE h403
                refine ok_ix (enc := enc_api_Span) h420 rfl rfl rfl rfl rfl rfl ?_
                refine ok_v (.dref [.int .i64 v419.Lo, .int .i64 v419.Hi] 0) rfl rfl ?_
                refine ok_v (.d (.int .i64 v419.Lo)) rfl rfl ?_
                refine ok_v (.d (.bool (decide (v417.Hi ≥ v419.Lo)))) rfl rfl ?_
                refine ok_v (.d (.bool (decide (v417.Hi ≥ v419.Lo)))) rfl rfl ?_
                refine ok_nil ?_
                obtain rfl := someE h403
                exact ⟨_, _, _, _, _, _, _, _, _, _, _, _, _, rfl⟩
              · refine ok_sg rfl ?_
                refine ok_sg rfl ?_
                refine ok_sg rfl ?_
                refine ok_sg rfl ?_
                refine ok_sg rfl ?_
                refine ok_sg rfl ?_
                refine ok_sg rfl ?_
                refine ok_sg rfl ?_
                refine ok_sg rfl ?_
                refine ok_sg rfl ?_
                refine ok_sg rfl ?_
                refine ok_sg rfl ?_
                refine ok_v (.d (.bool false)) rfl rfl ?_
                refine ok_nil ?_
                obtain rfl := someE h403
                exact ⟨_, _, _, _, _, _, _, _, _, _, _, _, _, rfl⟩
            · rintro _ ⟨j404, j405, j406, j407, j408, j409, j410, j411, j412, j413, j414, j415, j416, rfl⟩
              refine ok_v (.d (.bool c402)) rfl rfl ?_
              refine ok_nil ?_
              obtain rfl := someE h380
              exact ⟨_, _, _, _, _, _, _, _, _, _, _, _, _, _, _, _, _, rfl⟩
        · rintro _ ⟨j381, j382, j383, j384, j385, j386, j387, j388, j389, j390, j391, j392, j393, j394, j395, j396, j397, rfl⟩
          refine ok_nil ?_
          refine rk_condH rfl h278 (fun _ h278 => ?_) (fun _ h278 => ?_)
          · refine rk_seq ?_
            refine rk_region ?_
            refine ok_as rfl rfl ?_
            refine ok_nil ?_
            refine rk_ret ?_
            refine ⟨_, (Option.some.inj h278).symm, fun hm => ?_⟩
            subst hm
            obtain rfl := someE h0
            exact finD (.inr rfl) (v := .d (.int .i64 8)) rfl rfl (.refl _)
          · refine rk_skip ?_
            refine rk_nil ?_
            refine blk_nor ?_
            refine rk_region ?_
            refine ok_mv rfl rfl ?_
            refine ok_v (.d (.int .i64 (w64 (a279 + 1)))) rfl rfl ?_
            refine ok_as rfl rfl ?_
            refine ok_nil ?_
            refine rk_nil ?_
            exact ⟨_, (Option.some.inj h278).symm, wkE [] [] [] rfl ⟨⟨_, rfl, .d (.refl _)⟩, ⟨_, rfl, .d (.refl _)⟩, trivial⟩ trivial⟩
      · refine rk_exit ?_
        refine ⟨_, (Option.some.inj h278).symm, fun hm => ?_⟩
        subst hm
        exact ⟨_, rfl, wkE [] [] [] rfl trivial trivial⟩
    · intro b282 hb
      subst hb
      refine rk_seq ?_
      refine rk_region ?_
      refine ok_as rfl rfl ?_
      refine ok_nil ?_
      refine rk_ret ?_
      obtain rfl := someE h0
      exact finD (.inr rfl) (v := .d (.int .i64 0)) rfl rfl (.refl _)

theorem r11_Length_ok (p0 : List api_Span) (r : Int × Int) (h0 : r11_Length p0 = some r) : Pure Try.prog tab 26 [.sl 2 (p0.map enc_api_Span)] (.tup [.int .i64 r.1, .int .i64 r.2]) := by
  unfold r11_Length at h0
  refine pure_of_run Try.func26 rfl (by kernel_rfl) (by kernel_rfl) rfl ?_
  refine rk_seq ?_
  refine rk_region ?_
  refine ok_as rfl rfl ?_
  refine ok_as rfl rfl ?_
  refine ok_nil ?_
  refine rk_seq ?_
  refine rk_seq ?_
  refine rk_region ?_
  refine ok_mv rfl rfl ?_
  obtain ⟨r1, h2, h0⟩ := bindE h0
  refine ok_pc [.d (.sl 2 (p0.map enc_api_Span))] (r11_Check_ok p0 r1 h2) rfl rfl rfl (.inl rfl) ?_
  refine ok_v (.d (.bool (r1 != 0))) rfl rfl ?_
  refine ok_nil ?_
  refine rk_condH rfl h0 (fun _ h0 => ?_) (fun _ h0 => ?_)
  · refine rk_seq ?_
    refine rk_region ?_
    refine ok_mv rfl rfl ?_
    obtain ⟨r5, h6, h0⟩ := bindE h0
    refine ok_pc [.d (.sl 2 (p0.map enc_api_Span))] (r11_Check_ok p0 r5 h6) rfl rfl rfl (.inl rfl) ?_
    refine ok_as rfl rfl ?_
    refine ok_as rfl rfl ?_
    refine ok_nil ?_
    refine rk_ret ?_
    obtain rfl := someE h0
    exact finD (.inr rfl) (v := .d (.tup [.int .i64 0, .int .i64 r5])) rfl rfl (.refl _)
  · refine rk_skip ?_
    refine rk_seq ?_
    refine rk_region ?_
    refine ok_as rfl rfl ?_
    refine ok_nil ?_
    refine rk_seq ?_
    refine rk_seq ?_
    refine rk_region ?_
    refine ok_as rfl rfl ?_
    refine ok_nil ?_
    obtain ⟨m26, h27, h0⟩ := bindE h0
    refine rk_blockcut (fun b28 => b28 = m26) (fun (b28 : Int) => ⟨[(4, .d (.int .i64 b28))], [], 0⟩) (by simp) ?_ ?_
    · refine rk_loopF (r11_Length_L1 p0) (fun (a25 : Int × Int) => ⟨[(0, .d (.sl 2 (p0.map enc_api_Span))), (4, .d (.int .i64 a25.1)), (5, .d (.int .i64 a25.2))], [], 0⟩) (0, 0) m26 h27 (wkE [] [] [] rfl ⟨⟨_, rfl, .d (.refl _)⟩, ⟨_, rfl, .d (.refl _)⟩, ⟨_, rfl, .d (.refl _)⟩, trivial⟩ trivial) ?_
      intro a25 y23 h24
      unfold r11_Length_L1 at h24
      refine rk_seq ?_
      refine rk_seq ?_
      refine rk_region ?_
      refine ok_mv rfl rfl ?_
      refine ok_mv rfl rfl ?_
      refine ok_ln rfl rfl rfl rfl ?_
      refine ok_v (.d (.bool (decide (a25.2 < (p0.length : Int))))) rfl rfl ?_
      refine ok_nil ?_
      refine rk_condH rfl h24 (fun _ h24 => ?_) (fun _ h24 => ?_)
      · refine rk_skip ?_
        refine rk_seq ?_
        refine rk_block ?_
        refine rk_regionD (by kernel_rfl) ?_
        refine ok_mv rfl rfl ?_
        refine ok_mv rfl rfl ?_
        refine ok_mv rfl rfl ?_
        obtain ⟨v33, h34, h24⟩ := bindE h24
        refine ok_ix (enc := enc_api_Span) h34 rfl rfl rfl rfl rfl rfl ?_
        refine ok_v (.dref [.int .i64 v33.Lo, .int .i64 v33.Hi] 1) rfl rfl ?_
        refine ok_v (.d (.int .i64 v33.Hi)) rfl rfl ?_
        refine ok_v (.d (.int .i64 (w64 (a25.1 + v33.Hi)))) rfl rfl ?_
        refine ok_mv rfl rfl ?_
        refine ok_mv rfl rfl ?_
        obtain ⟨v35, h36, h24⟩ := bindE h24
        refine ok_ix (enc := enc_api_Span) h36 rfl rfl rfl rfl rfl rfl ?_
        refine ok_v (.dref [.int .i64 v35.Lo, .int .i64 v35.Hi] 0) rfl rfl ?_
        refine ok_v (.d (.int .i64 v35.Lo)) rfl rfl ?_
        refine ok_v (.d (.int .i64 (w64 ((w64 (a25.1 + v33.Hi)) - v35.Lo)))) rfl rfl ?_
        refine ok_as rfl rfl ?_
        refine ok_nil ?_
        refine rk_nil ?_
        refine blk_nor ?_
        refine rk_region ?_
        refine ok_mv rfl rfl ?_
        refine ok_v (.d (.int .i64 (w64 (a25.2 + 1)))) rfl rfl ?_
        refine ok_as rfl rfl ?_
        refine ok_nil ?_
        refine rk_nil ?_
        exact ⟨_, (Option.some.inj h24).symm, wkE [] [] [] rfl ⟨⟨_, rfl, .d (.refl _)⟩, ⟨_, rfl, .d (.refl _)⟩, ⟨_, rfl, .d (.refl _)⟩, trivial⟩ trivial⟩
      · refine rk_exit ?_
        refine ⟨_, (Option.some.inj h24).symm, fun hm => ?_⟩
        subst hm
        exact ⟨_, rfl, wkE [] [] [] rfl ⟨⟨_, rfl, .d (.refl _)⟩, trivial⟩ trivial⟩
    · intro b28 hb
      subst hb
      refine rk_seq ?_
      refine rk_region ?_
      refine ok_mv rfl rfl ?_
      refine ok_as rfl rfl ?_
      refine ok_as rfl rfl ?_
      refine ok_nil ?_
      refine rk_ret ?_
      obtain rfl := someE h0
      exact finD (.inr rfl) (v := .d (.tup [.int .i64 b28, .int .i64 0])) rfl rfl (.refl _)

theorem r11_Same_ok (p0 : List api_Span) (p1 : List api_Span) (r : Bool) (h0 : r11_Same p0 p1 = some r) : Pure Try.prog tab 17 [.sl 2 (p0.map enc_api_Span), .sl 2 (p1.map enc_api_Span)] (.bool r) := by
  unfold r11_Same at h0
  refine pure_of_run Try.func17 rfl (by kernel_rfl) (by kernel_rfl) rfl ?_
  refine rk_seq ?_
  refine rk_region ?_
  refine ok_as rfl rfl ?_
  refine ok_nil ?_
  refine rk_seq ?_
  refine rk_seq ?_
  refine rk_region ?_
  refine ok_mv rfl rfl ?_
  refine ok_ln rfl rfl rfl rfl ?_
  refine ok_mv rfl rfl ?_
  refine ok_ln rfl rfl rfl rfl ?_
  refine ok_v (.d (.bool ((p0.length : Int) != (p1.length : Int)))) rfl rfl ?_
  refine ok_nil ?_
  refine rk_condH rfl h0 (fun _ h0 => ?_) (fun _ h0 => ?_)
  · refine rk_seq ?_
    refine rk_region ?_
    refine ok_as rfl rfl ?_
    refine ok_nil ?_
    refine rk_ret ?_
    obtain rfl := someE h0
    exact finD (.inr rfl) (v := .d (.bool false)) rfl rfl (.refl _)
  · refine rk_skip ?_
    refine rk_seq ?_
    refine rk_seq ?_
    refine rk_region ?_
    refine ok_as rfl rfl ?_
    refine ok_nil ?_
    obtain ⟨m20, h21, h0⟩ := bindE h0
    refine rk_blockcut (fun b22 => .inl b22 = m20) (fun (b22 : Unit) => ⟨[], [], 0⟩) (by simp) ?_ ?_
    · refine rk_loopF (r11_Same_L1 p0 p1) (fun (a19 : Int) => ⟨[(0, .d (.sl 2 (p0.map enc_api_Span))), (1, .d (.sl 2 (p1.map enc_api_Span))), (5, .d (.int .i64 a19))], [], 0⟩) 0 m20 h21 (wkE [] [] [] rfl ⟨⟨_, rfl, .d (.refl _)⟩, ⟨_, rfl, .d (.refl _)⟩, ⟨_, rfl, .d (.refl _)⟩, trivial⟩ trivial) ?_
      intro a19 y17 h18
      unfold r11_Same_L1 at h18
      refine rk_seq ?_
      refine rk_seq ?_
      refine rk_region ?_
      refine ok_mv rfl rfl ?_
      refine ok_mv rfl rfl ?_
      refine ok_ln rfl rfl rfl rfl ?_
      refine ok_v (.d (.bool (decide (a19 < (p0.length : Int))))) rfl rfl ?_
      refine ok_nil ?_
      refine rk_condH rfl h18 (fun _ h18 => ?_) (fun _ h18 => ?_)
      · refine rk_skip ?_
        refine rk_seq ?_
        refine rk_block ?_
        refine rk_seq ?_
        refine rk_regionD (by kernel_rfl) ?_
        refine ok_mv rfl rfl ?_
        refine ok_mv rfl rfl ?_
        obtain ⟨v27, h28, h18⟩ := bindE h18
        refine ok_ix (enc := enc_api_Span) h28 rfl rfl rfl rfl rfl rfl ?_
        refine ok_v (.d (.agg [.int .i64 v27.Lo, .int .i64 v27.Hi])) rfl rfl ?_
        refine ok_mv rfl rfl ?_
        refine ok_mv rfl rfl ?_
        obtain ⟨v29, h30, h18⟩ := bindE h18
        refine ok_ix (enc := enc_api_Span) h30 rfl rfl rfl rfl rfl rfl ?_
        refine ok_v (.d (.agg [.int .i64 v29.Lo, .int .i64 v29.Hi])) rfl rfl ?_
        refine ok_v (.d (.bool (!((v27.Lo == v29.Lo) && ((v27.Hi == v29.Hi) && true))))) rfl rfl ?_
        refine ok_nil ?_
        refine rk_condH rfl h18 (fun _ h18 => ?_) (fun _ h18 => ?_)
        · refine rk_seq ?_
          refine rk_region ?_
          refine ok_as rfl rfl ?_
          refine ok_nil ?_
          refine rk_ret ?_
          refine ⟨_, (Option.some.inj h18).symm, fun hm => ?_⟩
          subst hm
          obtain rfl := someE h0
          exact finD (.inr rfl) (v := .d (.bool false)) rfl rfl (.refl _)
        · refine rk_skip ?_
          refine rk_nil ?_
          refine blk_nor ?_
          refine rk_region ?_
          refine ok_mv rfl rfl ?_
          refine ok_v (.d (.int .i64 (w64 (a19 + 1)))) rfl rfl ?_
          refine ok_as rfl rfl ?_
          refine ok_nil ?_
          refine rk_nil ?_
          exact ⟨_, (Option.some.inj h18).symm, wkE [] [] [] rfl ⟨⟨_, rfl, .d (.refl _)⟩, ⟨_, rfl, .d (.refl _)⟩, ⟨_, rfl, .d (.refl _)⟩, trivial⟩ trivial⟩
      · refine rk_exit ?_
        refine ⟨_, (Option.some.inj h18).symm, fun hm => ?_⟩
        subst hm
        exact ⟨_, rfl, wkE [] [] [] rfl trivial trivial⟩
    · intro b22 hb
      subst hb
      refine rk_seq ?_
      refine rk_region ?_
      refine ok_as rfl rfl ?_
      refine ok_nil ?_
      refine rk_ret ?_
      obtain rfl := someE h0
      exact finD (.inr rfl) (v := .d (.bool true)) rfl rfl (.refl _)

theorem span_Has_1_ok (p0 : api_Span) (p1 : Int) (r : Bool) (h0 : span_Has_1 p0 p1 = some r) : Pure Try.prog tab 45 [.agg [.int .i64 p0.Lo, .int .i64 p0.Hi], .box [.int .i64 p1]] (.bool r) := by
  unfold span_Has_1 at h0
  refine pure_of_run Try.func45 rfl (by kernel_rfl) (by kernel_rfl) rfl ?_
  refine rk_seq ?_
  refine rk_region ?_
  refine ok_new (.ref 0 2 0 0) (.dat 2 [[.int .i64 p0.Lo, .int .i64 p0.Hi]]) rfl rfl ?_
  refine ok_as rfl rfl ?_
  refine ok_nil ?_
  refine rk_seq ?_
  refine rk_region ?_
  refine ok_v (.ref 0 2 0 0) rfl rfl ?_
  refine ok_v (.d (.int .i64 p0.Lo)) rfl rfl ?_
  refine ok_v (.d (.int .i64 p1)) rfl rfl ?_
  refine ok_v (.d (.bool (decide (p0.Lo ≤ p1)))) rfl rfl ?_
  obtain ⟨c1, h2, h0⟩ := bindE h0
  refine ok_cutQ 6 (fun A st => ∃ (j3 j4 j5 j6 j7 : V), st = A [(13, .d (.bool c1)), (12, j7), (11, j6), (10, j5), (9, j4), (8, j3)]) ?_ ?_
  · refine ok_mvB rfl rfl h2 (fun h2 => ?_) (fun h2 => ?_)
    · refine ok_v (.d (.int .i64 p1)) rfl rfl ?_
      refine ok_v (.ref 0 2 0 1) rfl rfl ?_
      refine ok_v (.d (.int .i64 p0.Hi)) rfl rfl ?_
      refine ok_v (.d (.bool (decide (p1 < p0.Hi)))) rfl rfl ?_
      refine ok_v (.d (.bool (decide (p1 < p0.Hi)))) rfl rfl ?_
      refine ok_nil ?_
      obtain rfl := someE h2
      exact ⟨_, _, _, _, _, rfl⟩
    · refine ok_sg rfl ?_
      refine ok_sg rfl ?_
      refine ok_sg rfl ?_
      refine ok_sg rfl ?_
      refine ok_v (.d (.bool false)) rfl rfl ?_
      refine ok_nil ?_
      obtain rfl := someE h2
      exact ⟨_, _, _, _, _, rfl⟩
  · rintro _ ⟨j3, j4, j5, j6, j7, rfl⟩
    refine ok_as rfl rfl ?_
    refine ok_nil ?_
    refine rk_ret ?_
    obtain rfl := someE h0
    exact finD (.inr rfl) (v := .d (.bool c1)) rfl rfl (.refl _)

theorem span_Has_ok (p0 : List api_Span) (p1 : Int) (r : Bool) (h0 : span_Has p0 p1 = some r) : Pure Try.prog tab 29 [.sl 2 (p0.map enc_api_Span), .int .i64 p1] (.bool r) := by
  unfold span_Has at h0
  refine pure_of_run Try.func29 rfl (by kernel_rfl) (by kernel_rfl) rfl ?_
  refine rk_seq ?_
  refine rk_region ?_
  refine ok_new (.ref 0 1 0 0) (.dat 1 [[.int .i64 p1]]) rfl rfl ?_
  refine ok_as rfl rfl ?_
  refine ok_nil ?_
  refine rk_seq ?_
  refine rk_region ?_
  refine ok_mv rfl rfl ?_
  refine ok_v (.fn 45 [.ref 0 1 0 0]) rfl rfl ?_
  obtain ⟨r1, h2, h0⟩ := bindE h0
  refine ok_pc [.d (.sl 2 (p0.map enc_api_Span)), .fn 45 [.ref 0 1 0 0]] (slices_ContainsFunc_api_Span_api_Span_ok p0 (fun x0 => span_Has_1 x0 p1) 45 [.box [.int .i64 p1]] (fun x0 r hr => span_Has_1_ok x0 p1 r hr) r1 h2) rfl rfl (af_cons rfl (af_cons (td_fn (mm_cons rfl rfl)) rfl)) (.inr rfl) ?_
  refine ok_as rfl rfl ?_
  refine ok_nil ?_
  refine rk_ret ?_
  obtain rfl := someE h0
  exact finD (.inr rfl) (v := .d (.bool r1)) rfl rfl (.refl _)

theorem l11_SpanMakes_ok (p0 : List api_Span) (p1 : Int) (r : Bool) (h0 : l11_SpanMakes p0 p1 = some r) : Pure Try.prog tab 5 [.sl 2 (p0.map enc_api_Span), .int .i64 p1] (.bool r) := by
  unfold l11_SpanMakes at h0
  refine pure_of_run Try.func5 rfl (by kernel_rfl) (by kernel_rfl) rfl ?_
  refine rk_seq ?_
  refine rk_region ?_
  refine ok_as rfl rfl ?_
  refine ok_nil ?_
  refine rk_seq ?_
  refine rk_seq ?_
  refine rk_region ?_
  refine ok_mv rfl rfl ?_
  refine ok_ln rfl rfl rfl rfl ?_
  refine ok_v (.d (.bool (decide ((p0.length : Int) > 450)))) rfl rfl ?_
  refine ok_nil ?_
  refine rk_condH rfl h0 (fun _ h0 => ?_) (fun _ h0 => ?_)
  · refine rk_seq ?_
    refine rk_region ?_
    refine ok_as rfl rfl ?_
    refine ok_nil ?_
    refine rk_ret ?_
    obtain rfl := someE h0
    exact finD (.inr rfl) (v := .d (.bool true)) rfl rfl (.refl _)
  · refine rk_skip ?_
    refine rk_seq ?_
    refine rk_region ?_
    refine ok_mv rfl rfl ?_
    obtain ⟨r1, h2, h0⟩ := bindE h0
    refine ok_pc [.d (.sl 2 (p0.map enc_api_Span))] (l11_copied_ok p0 r1 h2) rfl rfl rfl (.inl rfl) ?_
    refine ok_as rfl rfl ?_
    refine ok_nil ?_
    refine rk_seq ?_
    refine rk_region ?_
    refine ok_mv rfl rfl ?_
    obtain ⟨r3, h4, h0⟩ := bindE h0
    refine ok_pc [.d (.sl 2 (r1.map enc_api_Span))] (span_Make_ok r1 r3 h4) rfl rfl rfl (.inl rfl) ?_
    refine ok_mv rfl rfl ?_
    refine ok_v (.d (.sl 2 (r3.1.map enc_api_Span))) rfl rfl ?_
    refine ok_v (.d (.int .i64 r3.2)) rfl rfl ?_
    refine ok_as rfl rfl ?_
    refine ok_as rfl rfl ?_
    refine ok_nil ?_
    refine rk_seq ?_
    refine rk_region ?_
    refine ok_mv rfl rfl ?_
    obtain ⟨r5, h6, h0⟩ := bindE h0
    refine ok_pc [.d (.sl 2 (p0.map enc_api_Span))] (r11_Make_ok p0 r5 h6) rfl rfl rfl (.inl rfl) ?_
    refine ok_mv rfl rfl ?_
    refine ok_v (.d (.sl 2 (r5.1.map enc_api_Span))) rfl rfl ?_
    refine ok_v (.d (.int .i64 r5.2)) rfl rfl ?_
    refine ok_as rfl rfl ?_
    refine ok_as rfl rfl ?_
    refine ok_nil ?_
    refine rk_seq ?_
    refine rk_region ?_
    refine ok_mv rfl rfl ?_
    obtain ⟨r7, h8, h0⟩ := bindE h0
    refine ok_pc [.d (.sl 2 (r1.map enc_api_Span))] (span_Length_ok r1 r7 h8) rfl rfl rfl (.inl rfl) ?_
    refine ok_mv rfl rfl ?_
    refine ok_v (.d (.int .i64 r7.1)) rfl rfl ?_
    refine ok_v (.d (.int .i64 r7.2)) rfl rfl ?_
    refine ok_as rfl rfl ?_
    refine ok_as rfl rfl ?_
    refine ok_nil ?_
    refine rk_seq ?_
    refine rk_region ?_
    refine ok_mv rfl rfl ?_
    obtain ⟨r9, h10, h0⟩ := bindE h0
    refine ok_pc [.d (.sl 2 (p0.map enc_api_Span))] (r11_Length_ok p0 r9 h10) rfl rfl rfl (.inl rfl) ?_
    refine ok_mv rfl rfl ?_
    refine ok_v (.d (.int .i64 r9.1)) rfl rfl ?_
    refine ok_v (.d (.int .i64 r9.2)) rfl rfl ?_
    refine ok_as rfl rfl ?_
    refine ok_as rfl rfl ?_
    refine ok_nil ?_
    refine rk_seq ?_
    refine rk_region ?_
    refine ok_mv rfl rfl ?_
    obtain ⟨r11, h12, h0⟩ := bindE h0
    refine ok_pc [.d (.sl 2 (r1.map enc_api_Span))] (span_Check_ok r1 r11 h12) rfl rfl rfl (.inl rfl) ?_
    refine ok_mv rfl rfl ?_
    obtain ⟨r13, h14, h0⟩ := bindE h0
    refine ok_pc [.d (.sl 2 (p0.map enc_api_Span))] (r11_Check_ok p0 r13 h14) rfl rfl rfl (.inl rfl) ?_
    refine ok_v (.d (.bool (r11 == r13))) rfl rfl ?_
    obtain ⟨c17, h18, h0⟩ := bindE h0
    refine ok_cutQ 5 (fun A st => ∃ (j19 j20 j21 j22 : V), st = A [(48, .d (.bool c17)), (47, j22), (46, j21), (45, j20), (44, j19)]) ?_ ?_
    · refine ok_mvB rfl rfl h18 (fun h18 => ?_) (fun h18 => ?_)
      · refine ok_mv rfl rfl ?_
        refine ok_mv rfl rfl ?_
        obtain ⟨r23, h24, h18⟩ := bindE h18
        refine ok_pc [.d (.sl 2 (r3.1.map enc_api_Span)), .d (.sl 2 (r5.1.map enc_api_Span))] (r11_Same_ok r3.1 r5.1 r23 h24) rfl rfl rfl (.inl rfl) ?_
        refine ok_v (.d (.bool r23)) rfl rfl ?_
        refine ok_nil ?_
        obtain rfl := someE h18
        exact ⟨_, _, _, _, rfl⟩
      · refine ok_sg rfl ?_
        refine ok_sg rfl ?_
        refine ok_sg rfl ?_
        refine ok_v (.d (.bool false)) rfl rfl ?_
        refine ok_nil ?_
        obtain rfl := someE h18
        exact ⟨_, _, _, _, rfl⟩
    · rintro _ ⟨j19, j20, j21, j22, rfl⟩
      obtain ⟨c25, h26, h0⟩ := bindE h0
      refine ok_cutQ 5 (fun A st => ∃ (j27 j28 j29 j30 : V), st = A [(53, .d (.bool c25)), (52, j30), (51, j29), (50, j28), (49, j27)]) ?_ ?_
      · refine ok_mvB rfl rfl h26 (fun h26 => ?_) (fun h26 => ?_)
        · refine ok_mv rfl rfl ?_
          refine ok_mv rfl rfl ?_
          refine ok_v (.d (.bool (r3.2 == r5.2))) rfl rfl ?_
          refine ok_v (.d (.bool (r3.2 == r5.2))) rfl rfl ?_
          refine ok_nil ?_
          obtain rfl := someE h26
          exact ⟨_, _, _, _, rfl⟩
        · refine ok_sg rfl ?_
          refine ok_sg rfl ?_
          refine ok_sg rfl ?_
          refine ok_v (.d (.bool false)) rfl rfl ?_
          refine ok_nil ?_
          obtain rfl := someE h26
          exact ⟨_, _, _, _, rfl⟩
      · rintro _ ⟨j27, j28, j29, j30, rfl⟩
        obtain ⟨c31, h32, h0⟩ := bindE h0
        refine ok_cutQ 5 (fun A st => ∃ (j33 j34 j35 j36 : V), st = A [(58, .d (.bool c31)), (57, j36), (56, j35), (55, j34), (54, j33)]) ?_ ?_
        · refine ok_mvB rfl rfl h32 (fun h32 => ?_) (fun h32 => ?_)
          · refine ok_mv rfl rfl ?_
            refine ok_mv rfl rfl ?_
            refine ok_v (.d (.bool (r7.1 == r9.1))) rfl rfl ?_
            refine ok_v (.d (.bool (r7.1 == r9.1))) rfl rfl ?_
            refine ok_nil ?_
            obtain rfl := someE h32
            exact ⟨_, _, _, _, rfl⟩
          · refine ok_sg rfl ?_
            refine ok_sg rfl ?_
            refine ok_sg rfl ?_
            refine ok_v (.d (.bool false)) rfl rfl ?_
            refine ok_nil ?_
            obtain rfl := someE h32
            exact ⟨_, _, _, _, rfl⟩
        · rintro _ ⟨j33, j34, j35, j36, rfl⟩
          obtain ⟨c37, h38, h0⟩ := bindE h0
          refine ok_cutQ 5 (fun A st => ∃ (j39 j40 j41 j42 : V), st = A [(63, .d (.bool c37)), (62, j42), (61, j41), (60, j40), (59, j39)]) ?_ ?_
          · refine ok_mvB rfl rfl h38 (fun h38 => ?_) (fun h38 => ?_)
            · refine ok_mv rfl rfl ?_
              refine ok_mv rfl rfl ?_
              refine ok_v (.d (.bool (r7.2 == r9.2))) rfl rfl ?_
              refine ok_v (.d (.bool (r7.2 == r9.2))) rfl rfl ?_
              refine ok_nil ?_
              obtain rfl := someE h38
              exact ⟨_, _, _, _, rfl⟩
            · refine ok_sg rfl ?_
              refine ok_sg rfl ?_
              refine ok_sg rfl ?_
              refine ok_v (.d (.bool false)) rfl rfl ?_
              refine ok_nil ?_
              obtain rfl := someE h38
              exact ⟨_, _, _, _, rfl⟩
          · rintro _ ⟨j39, j40, j41, j42, rfl⟩
            obtain ⟨c47, h48, h0⟩ := bindE h0
            refine ok_cutQ 9 (fun A st => ∃ (j49 j50 j51 j52 j53 j54 j55 j56 : V), st = A [(72, .d (.bool c47)), (71, j56), (70, j55), (69, j54), (68, j53), (67, j52), (66, j51), (65, j50), (64, j49)]) ?_ ?_
            · refine ok_mvB rfl rfl h48 (fun h48 => ?_) (fun h48 => ?_)
              · refine ok_mv rfl rfl ?_
                refine ok_mv rfl rfl ?_
                obtain ⟨r57, h58, h48⟩ := bindE h48
                refine ok_pc [.d (.sl 2 (r1.map enc_api_Span)), .d (.int .i64 p1)] (span_Has_ok r1 p1 r57 h58) rfl rfl rfl (.inl rfl) ?_
                refine ok_mv rfl rfl ?_
                refine ok_mv rfl rfl ?_
                obtain ⟨r59, h60, h48⟩ := bindE h48
                refine ok_pc [.d (.sl 2 (p0.map enc_api_Span)), .d (.int .i64 p1)] (r11_Has_ok p0 p1 r59 h60) rfl rfl rfl (.inl rfl) ?_
                refine ok_v (.d (.bool (r57 == r59))) rfl rfl ?_
                refine ok_v (.d (.bool (r57 == r59))) rfl rfl ?_
                refine ok_nil ?_
                obtain rfl := someE h48
                exact ⟨_, _, _, _, _, _, _, _, rfl⟩
              · refine ok_sg rfl ?_
                refine ok_sg rfl ?_
                refine ok_sg rfl ?_
                refine ok_sg rfl ?_
                refine ok_sg rfl ?_
                refine ok_sg rfl ?_
                refine ok_sg rfl ?_
                refine ok_v (.d (.bool false)) rfl rfl ?_
                refine ok_nil ?_
                obtain rfl := someE h48
                exact ⟨_, _, _, _, _, _, _, _, rfl⟩
            · rintro _ ⟨j49, j50, j51, j52, j53, j54, j55, j56, rfl⟩
              obtain ⟨c63, h64, h0⟩ := bindE h0
              refine ok_cutQ 5 (fun A st => ∃ (j65 j66 j67 j68 : V), st = A [(77, .d (.bool c63)), (76, j68), (75, j67), (74, j66), (73, j65)]) ?_ ?_
              · refine ok_mvB rfl rfl h64 (fun h64 => ?_) (fun h64 => ?_)
                · refine ok_mv rfl rfl ?_
                  refine ok_mv rfl rfl ?_
                  obtain ⟨r69, h70, h64⟩ := bindE h64
                  refine ok_pc [.d (.sl 2 (r1.map enc_api_Span)), .d (.sl 2 (p0.map enc_api_Span))] (r11_Same_ok r1 p0 r69 h70) rfl rfl rfl (.inl rfl) ?_
                  refine ok_v (.d (.bool r69)) rfl rfl ?_
                  refine ok_nil ?_
                  obtain rfl := someE h64
                  exact ⟨_, _, _, _, rfl⟩
                · refine ok_sg rfl ?_
                  refine ok_sg rfl ?_
                  refine ok_sg rfl ?_
                  refine ok_v (.d (.bool false)) rfl rfl ?_
                  refine ok_nil ?_
                  obtain rfl := someE h64
                  exact ⟨_, _, _, _, rfl⟩
              · rintro _ ⟨j65, j66, j67, j68, rfl⟩
                refine ok_as rfl rfl ?_
                refine ok_nil ?_
                refine rk_ret ?_
                obtain rfl := someE h0
                exact finD (.inr rfl) (v := .d (.bool c63)) rfl rfl (.refl _)
end Go.Proofs.Ytcpogfjlehoabaa
