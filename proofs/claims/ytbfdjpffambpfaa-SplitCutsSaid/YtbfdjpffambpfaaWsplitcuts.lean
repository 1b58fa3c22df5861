/- THE WALKS, lifted by program. -/
import Derived.Test.YtbfdjpffambpfaaPsplitcuts
import Derived.Test.YtbfdjpffambpfaaTabsplit
namespace Go.Proofs.Ytbfdjpffambpfaa
open Go Go.Am Go.Sh
theorem slices_IndexFunc_int_int_ok (p0 : List Int) (p1 : Int → Option Bool) (p1F : FuncId) (p1C : List DV) (p1Ok : ∀ (x0 : Int) (r : Bool), p1 x0 = some r → Pure Try.prog tab p1F ([.int .i64 x0] ++ p1C) (.bool r)) (r : Int) (h0 : slices_IndexFunc_int_int p0 p1 = some r) : Pure Try.prog tab 50 [.sl 1 (p0.map (eI .i64)), .fn p1F p1C] (.int .i64 r) := by
  unfold slices_IndexFunc_int_int at h0
  refine pure_of_run Try.func50 rfl (by kernel_rfl) (by kernel_rfl) rfl ?_
  refine rk_seq ?_
  refine rk_region ?_
  refine ok_as rfl rfl ?_
  refine ok_nil ?_
  refine rk_seq ?_
  refine rk_seq ?_
  refine rk_region ?_
  refine ok_mv rfl rfl ?_
  refine ok_ln rfl rfl rfl rfl ?_
  refine ok_mv rfl rfl ?_
  refine ok_nil ?_
  obtain ⟨m20, h21, h0⟩ := bindE h0
  refine rk_blockcut (fun b22 => .inl b22 = m20) (fun (b22 : Unit) => ⟨[], [], 0⟩) (by simp) ?_ ?_
  · refine rk_loopF (slices_IndexFunc_int_int_L1 p0 p1) (fun (a19 : Int) => ⟨[(0, .d (.sl 1 (p0.map (eI .i64)))), (1, .d (.fn p1F p1C)), (7, .d (.int .i64 (p0.length : Int))), (8, .d (.int .i64 a19))], [], 0⟩) 0 m20 h21 (wkE [] [] [] rfl ⟨⟨_, rfl, .d (.refl _)⟩, ⟨_, rfl, .d (.refl _)⟩, ⟨_, rfl, .d (.refl _)⟩, ⟨_, rfl, .d (.refl _)⟩, trivial⟩ trivial) ?_
    intro a19 y17 h18
    unfold slices_IndexFunc_int_int_L1 at h18
    refine rk_seq ?_
    refine rk_region ?_
    refine ok_v (.d (.bool (decide (a19 < (p0.length : Int))))) rfl rfl ?_
    refine ok_nil ?_
    refine rk_seq ?_
    refine rk_condH rfl h18 (fun _ h18 => ?_) (fun _ h18 => ?_)
    · refine rk_skip ?_
      refine rk_seq ?_
      refine rk_block ?_
      refine rk_seq ?_
      refine rk_region ?_
      refine ok_mv rfl rfl ?_
      refine ok_as rfl rfl ?_
      refine ok_nil ?_
      refine rk_seq ?_
      refine rk_region ?_
      refine ok_mv rfl rfl ?_
      refine ok_mv rfl rfl ?_
      refine ok_mv rfl rfl ?_
      obtain ⟨v27, h28, h18⟩ := bindE h18
      refine ok_ix (enc := (eI .i64)) h28 rfl rfl rfl rfl rfl rfl ?_
      refine ok_v (.d (.int .i64 v27)) rfl rfl ?_
      obtain ⟨r29, h30, h18⟩ := bindE h18
      refine ok_pf [.d (.int .i64 v27)] (p1Ok v27 r29 h30) rfl rfl rfl (.inl rfl) ?_
      refine ok_nil ?_
      refine rk_condH rfl h18 (fun _ h18 => ?_) (fun _ h18 => ?_)
      · refine rk_seq ?_
        refine rk_region ?_
        refine ok_mv rfl rfl ?_
        refine ok_as rfl rfl ?_
        refine ok_nil ?_
        refine rk_ret ?_
        refine ⟨_, (Option.some.inj h18).symm, fun hm => ?_⟩
        subst hm
        obtain rfl := someE h0
        exact finD (.inr rfl) (v := .d (.int .i64 a19)) rfl rfl (.refl _)
      · refine rk_skip ?_
        refine rk_nil ?_
        refine blk_nor ?_
        refine rk_region ?_
        refine ok_v (.d (.int .i64 (w64 (a19 + 1)))) rfl rfl ?_
        refine ok_mv rfl rfl ?_
        refine ok_nil ?_
        refine rk_nil ?_
        exact ⟨_, (Option.some.inj h18).symm, wkE [] [] [] rfl ⟨⟨_, rfl, .d (.refl _)⟩, ⟨_, rfl, .d (.refl _)⟩, ⟨_, rfl, .d (.refl _)⟩, ⟨_, rfl, .d (.refl _)⟩, trivial⟩ trivial⟩
    · refine rk_exit ?_
      refine ⟨_, (Option.some.inj h18).symm, fun hm => ?_⟩
      subst hm
      exact ⟨_, rfl, wkE [] [] [] rfl trivial trivial⟩
  · intro b22 hb
    subst hb
    refine rk_seq ?_
    refine rk_region ?_
    refine ok_as rfl rfl ?_
    refine ok_nil ?_
    refine rk_ret ?_
    obtain rfl := someE h0
    exact finD (.inr rfl) (v := .d (.int .i64 (-1))) rfl rfl (.refl _)

theorem slices_ContainsFunc_int_int_ok (p0 : List Int) (p1 : Int → Option Bool) (p1F : FuncId) (p1C : List DV) (p1Ok : ∀ (x0 : Int) (r : Bool), p1 x0 = some r → Pure Try.prog tab p1F ([.int .i64 x0] ++ p1C) (.bool r)) (r : Bool) (h0 : slices_ContainsFunc_int_int p0 p1 = some r) : Pure Try.prog tab 34 [.sl 1 (p0.map (eI .i64)), .fn p1F p1C] (.bool r) := by
  unfold slices_ContainsFunc_int_int at h0
  refine pure_of_run Try.func34 rfl (by kernel_rfl) (by kernel_rfl) rfl ?_
  refine rk_seq ?_
  refine rk_region ?_
  refine ok_as rfl rfl ?_
  refine ok_nil ?_
  refine rk_seq ?_
  refine rk_region ?_
  refine ok_mv rfl rfl ?_
  refine ok_mv rfl rfl ?_
  obtain ⟨r1, h2, h0⟩ := bindE h0
  refine ok_pc [.d (.sl 1 (p0.map (eI .i64))), .d (.fn p1F p1C)] (slices_IndexFunc_int_int_ok p0 p1 p1F p1C p1Ok r1 h2) rfl rfl rfl (.inl rfl) ?_
  refine ok_v (.d (.bool (decide (r1 ≥ 0)))) rfl rfl ?_
  refine ok_as rfl rfl ?_
  refine ok_nil ?_
  refine rk_ret ?_
  obtain rfl := someE h0
  exact finD (.inr rfl) (v := .d (.bool (decide (r1 ≥ 0)))) rfl rfl (.refl _)

theorem split_Cuts_1_ok (p0 : Int) (r : Bool) (h0 : split_Cuts_1 p0 = some r) : Pure Try.prog tab 35 [.int .i64 p0] (.bool r) := by
  unfold split_Cuts_1 at h0
  refine pure_of_run Try.func35 rfl (by kernel_rfl) (by kernel_rfl) rfl ?_
  refine rk_seq ?_
  refine rk_region ?_
  refine ok_as rfl rfl ?_
  refine ok_nil ?_
  refine rk_seq ?_
  refine rk_region ?_
  refine ok_mv rfl rfl ?_
  refine ok_v (.d (.bool (decide (p0 < 0)))) rfl rfl ?_
  refine ok_as rfl rfl ?_
  refine ok_nil ?_
  refine rk_ret ?_
  obtain rfl := someE h0
  exact finD (.inr rfl) (v := .d (.bool (decide (p0 < 0)))) rfl rfl (.refl _)

theorem split_Cuts_ok (p0 : List Int) (r : List Int × Int) (h0 : split_Cuts p0 = some r) : Pure Try.prog tab 16 [.sl 1 (p0.map (eI .i64))] (.tup [.sl 1 (r.1.map (eI .i64)), .int .i64 r.2]) := by
  unfold split_Cuts at h0
  refine pure_of_run Try.func16 rfl (by kernel_rfl) (by kernel_rfl) rfl ?_
  refine rk_seq ?_
  refine rk_region ?_
  refine ok_as rfl rfl ?_
  refine ok_as rfl rfl ?_
  refine ok_nil ?_
  refine rk_seq ?_
  refine rk_seq ?_
  refine rk_region ?_
  refine ok_mv rfl rfl ?_
  refine ok_ln rfl rfl rfl rfl ?_
  refine ok_v (.d (.bool (decide ((p0.length : Int) > 200)))) rfl rfl ?_
  refine ok_nil ?_
  refine rk_condH rfl h0 (fun _ h0 => ?_) (fun _ h0 => ?_)
  · refine rk_seq ?_
    refine rk_region ?_
    refine ok_as rfl rfl ?_
    refine ok_as rfl rfl ?_
    refine ok_nil ?_
    refine rk_ret ?_
    obtain rfl := someE h0
    exact finD (.inr rfl) (v := .d (.tup [.nilsl, .int .i64 4])) rfl rfl (dle_tup (.cons (.nil _) (.cons (.refl _) .nil)))
  · refine rk_skip ?_
    refine rk_seq ?_
    refine rk_seq ?_
    refine rk_region ?_
    refine ok_mv rfl rfl ?_
    obtain ⟨r1, h2, h0⟩ := bindE h0
    refine ok_pc [.d (.sl 1 (p0.map (eI .i64))), .d (.fn 35 [])] (slices_ContainsFunc_int_int_ok p0 (fun x0 => split_Cuts_1 x0) 35 [] (fun x0 r hr => split_Cuts_1_ok x0 r hr) r1 h2) rfl rfl rfl (.inl rfl) ?_
    refine ok_nil ?_
    refine rk_condH rfl h0 (fun _ h0 => ?_) (fun _ h0 => ?_)
    · refine rk_seq ?_
      refine rk_region ?_
      refine ok_as rfl rfl ?_
      refine ok_as rfl rfl ?_
      refine ok_nil ?_
      refine rk_ret ?_
      obtain rfl := someE h0
      exact finD (.inr rfl) (v := .d (.tup [.nilsl, .int .i64 8])) rfl rfl (dle_tup (.cons (.nil _) (.cons (.refl _) .nil)))
    · refine rk_skip ?_
      refine rk_seq ?_
      refine rk_region ?_
      refine ok_new (.hs 0 1 0 [0].length) (.dat 1 ([0].map (eI .i64))) rfl rfl ?_
      refine ok_as rfl rfl ?_
      refine ok_nil ?_
      refine rk_seq ?_
      refine rk_seq ?_
      refine rk_region ?_
      refine ok_mv rfl rfl ?_
      refine ok_ln rfl rfl rfl rfl ?_
      refine ok_mv rfl rfl ?_
      refine ok_nil ?_
      obtain ⟨m38, h39, h0⟩ := bindE h0
      refine rk_blockcut (fun b40 => .inl b40 = m38) (fun (b40 : List Int) => ⟨[(4, .hs 0 1 0 b40.length)], [(0, .dat 1 (b40.map (eI .i64)))], 1⟩) (by simp) ?_ ?_
      · refine rk_loopF (split_Cuts_L1 p0) (fun (a37 : Int × List Int) => ⟨[(4, .hs 0 1 0 a37.2.length), (13, .d (.sl 1 (p0.map (eI .i64)))), (14, .d (.int .i64 (p0.length : Int))), (15, .d (.int .i64 a37.1))], [(0, .dat 1 (a37.2.map (eI .i64)))], 1⟩) (0, [0]) m38 h39 (wkE [(0, 0)] [] [] rfl ⟨⟨_, rfl, .hs rfl (by decide) (ltd rfl)⟩, ⟨_, rfl, .d (.refl _)⟩, ⟨_, rfl, .d (.refl _)⟩, ⟨_, rfl, .d (.refl _)⟩, trivial⟩ ⟨⟨ltd rfl, .inr ⟨by decide, _, rfl, .dat _ _⟩⟩, trivial⟩) ?_
        intro a37 y35 h36
        unfold split_Cuts_L1 at h36
        refine rk_seq ?_
        refine rk_region ?_
        refine ok_v (.d (.bool (decide (a37.1 < (p0.length : Int))))) rfl rfl ?_
        refine ok_nil ?_
        refine rk_seq ?_
        refine rk_condH rfl h36 (fun _ h36 => ?_) (fun _ h36 => ?_)
        · refine rk_skip ?_
          refine rk_seq ?_
          refine rk_block ?_
          refine rk_seq ?_
          refine rk_region ?_
          refine ok_mv rfl rfl ?_
          obtain ⟨v49, h50, h36⟩ := bindE h36
          refine ok_ix (enc := (eI .i64)) h50 rfl rfl rfl rfl rfl rfl ?_
          refine ok_v (.d (.int .i64 v49)) rfl rfl ?_
          refine ok_as rfl rfl ?_
          refine ok_as rfl rfl ?_
          refine ok_nil ?_
          refine rk_seq ?_
          refine rk_seq ?_
          refine rk_region ?_
          refine ok_mv rfl rfl ?_
          refine ok_mv rfl rfl ?_
          refine ok_mv rfl rfl ?_
          obtain ⟨v51, h52, h36⟩ := bindE h36
          refine ok_ih h52 rfl rfl rfl rfl rfl rfl rfl ?_
          refine ok_lh (.d (.int .i64 v51)) h52 rfl rfl rfl rfl rfl rfl ?_
          refine ok_v (.d (.int .i64 (w64 (1000000 - v51)))) rfl rfl ?_
          refine ok_v (.d (.bool (decide (v49 > (w64 (1000000 - v51)))))) rfl rfl ?_
          refine ok_nil ?_
          refine rk_condH rfl h36 (fun _ h36 => ?_) (fun _ h36 => ?_)
          · refine rk_seq ?_
            refine rk_region ?_
            refine ok_as rfl rfl ?_
            refine ok_as rfl rfl ?_
            refine ok_nil ?_
            refine rk_ret ?_
            refine ⟨_, (Option.some.inj h36).symm, fun hm => ?_⟩
            subst hm
            obtain rfl := someE h0
            exact finD (.inr rfl) (v := .d (.tup [.nilsl, .int .i64 16])) rfl rfl (dle_tup (.cons (.nil _) (.cons (.refl _) .nil)))
          · refine rk_skip ?_
            refine rk_region ?_
            refine ok_mv rfl rfl ?_
            refine ok_mv rfl rfl ?_
            refine ok_mv rfl rfl ?_
            obtain ⟨v53, h54, h36⟩ := bindE h36
            refine ok_ih h54 rfl rfl rfl rfl rfl rfl rfl ?_
            refine ok_lh (.d (.int .i64 v53)) h54 rfl rfl rfl rfl rfl rfl ?_
            refine ok_mv rfl rfl ?_
            refine ok_v (.d (.int .i64 (w64 (v53 + v49)))) rfl rfl ?_
            refine ok_new (.hs 1 1 0 [w64 (v53 + v49)].length) (.dat 1 ([w64 (v53 + v49)].map (eI .i64))) rfl rfl ?_
            obtain ⟨z55, h56, h36⟩ := bindE h36
            refine ok_ap (xs := a37.2) (ys := [w64 (v53 + v49)]) (enc := (eI .i64)) (.hs 1 1 0 [w64 (v53 + v49)].length) h56 rfl rfl rfl rfl rfl rfl rfl (conts_hs rfl rfl) rfl rfl rfl rfl ?_
            refine ok_as rfl rfl ?_
            refine ok_nil ?_
            refine rk_nil ?_
            refine blk_nor ?_
            refine rk_region ?_
            refine ok_v (.d (.int .i64 (w64 (a37.1 + 1)))) rfl rfl ?_
            refine ok_mv rfl rfl ?_
            refine ok_nil ?_
            refine rk_nil ?_
            exact ⟨_, (Option.some.inj h36).symm, wkE [(0, 2)] [] [] rfl ⟨⟨_, rfl, .hs rfl (by decide) (ltd rfl)⟩, ⟨_, rfl, .d (.refl _)⟩, ⟨_, rfl, .d (.refl _)⟩, ⟨_, rfl, .d (.refl _)⟩, trivial⟩ ⟨⟨ltd rfl, .inr ⟨by decide, _, rfl, .dat _ _⟩⟩, trivial⟩⟩
        · refine rk_exit ?_
          refine ⟨_, (Option.some.inj h36).symm, fun hm => ?_⟩
          subst hm
          exact ⟨_, rfl, wkE [(0, 0)] [] [] rfl ⟨⟨_, rfl, .hs rfl (by decide) (ltd rfl)⟩, trivial⟩ ⟨⟨ltd rfl, .inr ⟨by decide, _, rfl, .dat _ _⟩⟩, trivial⟩⟩
      · intro b40 hb
        subst hb
        refine rk_seq ?_
        refine rk_region ?_
        refine ok_mv rfl rfl ?_
        refine ok_as rfl rfl ?_
        refine ok_as rfl rfl ?_
        refine ok_nil ?_
        refine rk_ret ?_
        obtain rfl := someE h0
        exact finD (.inr rfl) (v := .tup [.hs 0 1 0 b40.length, .d (.int .i64 0)]) rfl (td_tup (mm_cons (td_hs rfl rfl) (mm_cons rfl rfl))) (.refl _)

theorem r23_Cuts_ok (p0 : List Int) (r : List Int × Int) (h0 : r23_Cuts p0 = some r) : Pure Try.prog tab 17 [.sl 1 (p0.map (eI .i64))] (.tup [.sl 1 (r.1.map (eI .i64)), .int .i64 r.2]) := by
  unfold r23_Cuts at h0
  refine pure_of_run Try.func17 rfl (by kernel_rfl) (by kernel_rfl) rfl ?_
  refine rk_seq ?_
  refine rk_region ?_
  refine ok_as rfl rfl ?_
  refine ok_as rfl rfl ?_
  refine ok_nil ?_
  refine rk_seq ?_
  refine rk_seq ?_
  refine rk_region ?_
  refine ok_mv rfl rfl ?_
  refine ok_ln rfl rfl rfl rfl ?_
  refine ok_v (.d (.bool (decide ((p0.length : Int) > 200)))) rfl rfl ?_
  refine ok_nil ?_
  refine rk_condH rfl h0 (fun _ h0 => ?_) (fun _ h0 => ?_)
  · refine rk_seq ?_
    refine rk_region ?_
    refine ok_as rfl rfl ?_
    refine ok_as rfl rfl ?_
    refine ok_nil ?_
    refine rk_ret ?_
    obtain rfl := someE h0
    exact finD (.inr rfl) (v := .d (.tup [.nilsl, .int .i64 4])) rfl rfl (dle_tup (.cons (.nil _) (.cons (.refl _) .nil)))
  · refine rk_skip ?_
    refine rk_seq ?_
    refine rk_seq ?_
    refine rk_region ?_
    refine ok_as rfl rfl ?_
    refine ok_nil ?_
    obtain ⟨m12, h13, h0⟩ := bindE h0
    refine rk_blockcut (fun b14 => .inl b14 = m12) (fun (b14 : Unit) => ⟨[(0, .d (.sl 1 (p0.map (eI .i64))))], [], 0⟩) (by simp) ?_ ?_
    · refine rk_loopF (r23_Cuts_L1 p0) (fun (a11 : Int) => ⟨[(0, .d (.sl 1 (p0.map (eI .i64)))), (4, .d (.int .i64 a11))], [], 0⟩) 0 m12 h13 (wkE [] [] [] rfl ⟨⟨_, rfl, .d (.refl _)⟩, ⟨_, rfl, .d (.refl _)⟩, trivial⟩ trivial) ?_
      intro a11 y9 h10
      unfold r23_Cuts_L1 at h10
      refine rk_seq ?_
      refine rk_seq ?_
      refine rk_region ?_
      refine ok_mv rfl rfl ?_
      refine ok_mv rfl rfl ?_
      refine ok_ln rfl rfl rfl rfl ?_
      refine ok_v (.d (.bool (decide (a11 < (p0.length : Int))))) rfl rfl ?_
      refine ok_nil ?_
      refine rk_condH rfl h10 (fun _ h10 => ?_) (fun _ h10 => ?_)
      · refine rk_skip ?_
        refine rk_seq ?_
        refine rk_block ?_
        refine rk_seq ?_
        refine rk_region ?_
        refine ok_mv rfl rfl ?_
        refine ok_mv rfl rfl ?_
        obtain ⟨v17, h18, h10⟩ := bindE h10
        refine ok_ix (enc := (eI .i64)) h18 rfl rfl rfl rfl rfl rfl ?_
        refine ok_v (.d (.int .i64 v17)) rfl rfl ?_
        refine ok_v (.d (.bool (decide (v17 < 0)))) rfl rfl ?_
        refine ok_nil ?_
        refine rk_condH rfl h10 (fun _ h10 => ?_) (fun _ h10 => ?_)
        · refine rk_seq ?_
          refine rk_region ?_
          refine ok_as rfl rfl ?_
          refine ok_as rfl rfl ?_
          refine ok_nil ?_
          refine rk_ret ?_
          refine ⟨_, (Option.some.inj h10).symm, fun hm => ?_⟩
          subst hm
          obtain rfl := someE h0
          exact finD (.inr rfl) (v := .d (.tup [.nilsl, .int .i64 8])) rfl rfl (dle_tup (.cons (.nil _) (.cons (.refl _) .nil)))
        · refine rk_skip ?_
          refine rk_nil ?_
          refine blk_nor ?_
          refine rk_region ?_
          refine ok_mv rfl rfl ?_
          refine ok_v (.d (.int .i64 (w64 (a11 + 1)))) rfl rfl ?_
          refine ok_as rfl rfl ?_
          refine ok_nil ?_
          refine rk_nil ?_
          exact ⟨_, (Option.some.inj h10).symm, wkE [] [] [] rfl ⟨⟨_, rfl, .d (.refl _)⟩, ⟨_, rfl, .d (.refl _)⟩, trivial⟩ trivial⟩
      · refine rk_exit ?_
        refine ⟨_, (Option.some.inj h10).symm, fun hm => ?_⟩
        subst hm
        exact ⟨_, rfl, wkE [] [] [] rfl ⟨⟨_, rfl, .d (.refl _)⟩, trivial⟩ trivial⟩
    · intro b14 hb
      subst hb
      refine rk_seq ?_
      refine rk_region ?_
      refine ok_new (.hs 0 1 0 [0].length) (.dat 1 ([0].map (eI .i64))) rfl rfl ?_
      refine ok_as rfl rfl ?_
      refine ok_nil ?_
      refine rk_seq ?_
      refine rk_seq ?_
      refine rk_region ?_
      refine ok_as rfl rfl ?_
      refine ok_nil ?_
      obtain ⟨m138, h139, h0⟩ := bindE h0
      refine rk_blockcut (fun b140 => .inl b140 = m138) (fun (b140 : List Int) => ⟨[(5, .hs 0 1 0 b140.length)], [(0, .dat 1 (b140.map (eI .i64)))], 1⟩) (by simp) ?_ ?_
      · refine rk_loopF (r23_Cuts_L2 p0) (fun (a137 : Int × List Int) => ⟨[(0, .d (.sl 1 (p0.map (eI .i64)))), (5, .hs 0 1 0 a137.2.length), (6, .d (.int .i64 a137.1))], [(0, .dat 1 (a137.2.map (eI .i64)))], 1⟩) (0, [0]) m138 h139 (wkE [(0, 0)] [] [] rfl ⟨⟨_, rfl, .d (.refl _)⟩, ⟨_, rfl, .hs rfl (by decide) (ltd rfl)⟩, ⟨_, rfl, .d (.refl _)⟩, trivial⟩ ⟨⟨ltd rfl, .inr ⟨by decide, _, rfl, .dat _ _⟩⟩, trivial⟩) ?_
        intro a137 y135 h136
        unfold r23_Cuts_L2 at h136
        refine rk_seq ?_
        refine rk_seq ?_
        refine rk_region ?_
        refine ok_mv rfl rfl ?_
        refine ok_mv rfl rfl ?_
        refine ok_ln rfl rfl rfl rfl ?_
        refine ok_v (.d (.bool (decide (a137.1 < (p0.length : Int))))) rfl rfl ?_
        refine ok_nil ?_
        refine rk_condH rfl h136 (fun _ h136 => ?_) (fun _ h136 => ?_)
        · refine rk_skip ?_
          refine rk_seq ?_
          refine rk_block ?_
          refine rk_seq ?_
          refine rk_seq ?_
          refine rk_regionD (by kernel_rfl) ?_
          refine ok_mv rfl rfl ?_
          refine ok_mv rfl rfl ?_
          obtain ⟨v170, h171, h136⟩ := bindE h136
          refine ok_ix (enc := (eI .i64)) h171 rfl rfl rfl rfl rfl rfl ?_
          refine ok_v (.d (.int .i64 v170)) rfl rfl ?_
          refine ok_v (.d (.bool (decide (v170 > 1000000)))) rfl rfl ?_
          obtain ⟨c176, h177, h136⟩ := bindE h136
          refine ok_cutQ 12 (fun A st => ∃ (j178 j179 j180 j181 j182 j183 j184 j185 j186 j187 j188 : V), st = A [(44, .d (.bool c176)), (43, j188), (42, j187), (41, j186), (40, j185), (39, j184), (38, j183), (37, j182), (36, j181), (35, j180), (34, j179), (33, j178)]) ?_ ?_
          · refine ok_mvB rfl rfl h177 (fun h177 => ?_) (fun h177 => ?_)
            · refine ok_sg rfl ?_
              refine ok_sg rfl ?_
              refine ok_sg rfl ?_
              refine ok_sg rfl ?_
              refine ok_sg rfl ?_
              refine ok_sg rfl ?_
              refine ok_sg rfl ?_
              refine ok_sg rfl ?_
              refine ok_sg rfl ?_
              refine ok_sg rfl ?_
              refine ok_v (.d (.bool true)) rfl rfl ?_
              refine ok_nil ?_
              obtain rfl := someE h177
              exact ⟨_, _, _, _, _, _, _, _, _, _, _, rfl⟩
            · refine ok_mv rfl rfl ?_
              refine ok_mv rfl rfl ?_
              obtain ⟨v189, h190, h177⟩ := bindE h177
              refine ok_ih h190 rfl rfl rfl rfl rfl rfl rfl ?_
              refine ok_lh (.d (.int .i64 v189)) h190 rfl rfl rfl rfl rfl rfl ?_
              refine ok_mv rfl rfl ?_
              refine ok_mv rfl rfl ?_
              obtain ⟨v191, h192, h177⟩ := bindE h177
              refine ok_ix (enc := (eI .i64)) h192 rfl rfl rfl rfl rfl rfl ?_
              refine ok_v (.d (.int .i64 v191)) rfl rfl ?_
              refine ok_v (.d (.int .i64 (w64 (v189 + v191)))) rfl rfl ?_
              refine ok_v (.d (.bool (decide ((w64 (v189 + v191)) > 1000000)))) rfl rfl ?_
              refine ok_v (.d (.bool (decide ((w64 (v189 + v191)) > 1000000)))) rfl rfl ?_
              refine ok_nil ?_
              obtain rfl := someE h177
              exact ⟨_, _, _, _, _, _, _, _, _, _, _, rfl⟩
          · rintro _ ⟨j178, j179, j180, j181, j182, j183, j184, j185, j186, j187, j188, rfl⟩
            refine ok_nil ?_
            refine rk_condH rfl h136 (fun _ h136 => ?_) (fun _ h136 => ?_)
            · refine rk_seq ?_
              refine rk_region ?_
              refine ok_as rfl rfl ?_
              refine ok_as rfl rfl ?_
              refine ok_nil ?_
              refine rk_ret ?_
              refine ⟨_, (Option.some.inj h136).symm, fun hm => ?_⟩
              subst hm
              obtain rfl := someE h0
              exact finD (.inr rfl) (v := .d (.tup [.nilsl, .int .i64 16])) rfl rfl (dle_tup (.cons (.nil _) (.cons (.refl _) .nil)))
            · refine rk_skip ?_
              refine rk_regionD (by kernel_rfl) ?_
              refine ok_mv rfl rfl ?_
              refine ok_mv rfl rfl ?_
              refine ok_mv rfl rfl ?_
              obtain ⟨v193, h194, h136⟩ := bindE h136
              refine ok_ih h194 rfl rfl rfl rfl rfl rfl rfl ?_
              refine ok_lh (.d (.int .i64 v193)) h194 rfl rfl rfl rfl rfl rfl ?_
              refine ok_mv rfl rfl ?_
              refine ok_mv rfl rfl ?_
              obtain ⟨v195, h196, h136⟩ := bindE h136
              refine ok_ix (enc := (eI .i64)) h196 rfl rfl rfl rfl rfl rfl ?_
              refine ok_v (.d (.int .i64 v195)) rfl rfl ?_
              refine ok_v (.d (.int .i64 (w64 (v193 + v195)))) rfl rfl ?_
              refine ok_new (.hs 1 1 0 [w64 (v193 + v195)].length) (.dat 1 ([w64 (v193 + v195)].map (eI .i64))) rfl rfl ?_
              obtain ⟨z197, h198, h136⟩ := bindE h136
              refine ok_ap (xs := a137.2) (ys := [w64 (v193 + v195)]) (enc := (eI .i64)) (.hs 1 1 0 [w64 (v193 + v195)].length) h198 rfl rfl rfl rfl rfl rfl rfl (conts_hs rfl rfl) rfl rfl rfl rfl ?_
              refine ok_as rfl rfl ?_
              refine ok_nil ?_
              refine rk_nil ?_
              refine blk_nor ?_
              refine rk_region ?_
              refine ok_mv rfl rfl ?_
              refine ok_v (.d (.int .i64 (w64 (a137.1 + 1)))) rfl rfl ?_
              refine ok_as rfl rfl ?_
              refine ok_nil ?_
              refine rk_nil ?_
              exact ⟨_, (Option.some.inj h136).symm, wkE [(0, 2)] [] [] rfl ⟨⟨_, rfl, .d (.refl _)⟩, ⟨_, rfl, .hs rfl (by decide) (ltd rfl)⟩, ⟨_, rfl, .d (.refl _)⟩, trivial⟩ ⟨⟨ltd rfl, .inr ⟨by decide, _, rfl, .dat _ _⟩⟩, trivial⟩⟩
        · refine rk_exit ?_
          refine ⟨_, (Option.some.inj h136).symm, fun hm => ?_⟩
          subst hm
          exact ⟨_, rfl, wkE [(0, 0)] [] [] rfl ⟨⟨_, rfl, .hs rfl (by decide) (ltd rfl)⟩, trivial⟩ ⟨⟨ltd rfl, .inr ⟨by decide, _, rfl, .dat _ _⟩⟩, trivial⟩⟩
      · intro b140 hb
        subst hb
        refine rk_seq ?_
        refine rk_region ?_
        refine ok_mv rfl rfl ?_
        refine ok_as rfl rfl ?_
        refine ok_as rfl rfl ?_
        refine ok_nil ?_
        refine rk_ret ?_
        obtain rfl := someE h0
        exact finD (.inr rfl) (v := .tup [.hs 0 1 0 b140.length, .d (.int .i64 0)]) rfl (td_tup (mm_cons (td_hs rfl rfl) (mm_cons rfl rfl))) (.refl _)

theorem math_bits_Mul64_ok (p0 : Int) (p1 : Int) (r : Int × Int) (h0 : math_bits_Mul64 p0 p1 = some r) : Pure Try.prog tab 67 [.int .u64 p0, .int .u64 p1] (.tup [.int .u64 r.1, .int .u64 r.2]) := by
  unfold math_bits_Mul64 at h0
  refine pure_of_run Try.func67 rfl (by kernel_rfl) (by kernel_rfl) rfl ?_
  refine rk_seq ?_
  refine rk_region ?_
  refine ok_as rfl rfl ?_
  refine ok_as rfl rfl ?_
  refine ok_nil ?_
  refine rk_seq ?_
  refine rk_region ?_
  refine ok_mv rfl rfl ?_
  refine ok_v (.d (.int .u64 (andI .u64 p0 4294967295))) rfl rfl ?_
  refine ok_as rfl rfl ?_
  refine ok_nil ?_
  refine rk_seq ?_
  refine rk_region ?_
  refine ok_mv rfl rfl ?_
  refine ok_v (.d (.int .u64 (Int.fdiv p0 (2 ^ 32)))) rfl rfl ?_
  refine ok_as rfl rfl ?_
  refine ok_nil ?_
  refine rk_seq ?_
  refine rk_region ?_
  refine ok_mv rfl rfl ?_
  refine ok_v (.d (.int .u64 (andI .u64 p1 4294967295))) rfl rfl ?_
  refine ok_as rfl rfl ?_
  refine ok_nil ?_
  refine rk_seq ?_
  refine rk_region ?_
  refine ok_mv rfl rfl ?_
  refine ok_v (.d (.int .u64 (Int.fdiv p1 (2 ^ 32)))) rfl rfl ?_
  refine ok_as rfl rfl ?_
  refine ok_nil ?_
  refine rk_seq ?_
  refine rk_region ?_
  refine ok_mv rfl rfl ?_
  refine ok_mv rfl rfl ?_
  refine ok_v (.d (.int .u64 (IntKind.wrap .u64 ((andI .u64 p0 4294967295) * (andI .u64 p1 4294967295))))) rfl rfl ?_
  refine ok_as rfl rfl ?_
  refine ok_nil ?_
  refine rk_seq ?_
  refine rk_region ?_
  refine ok_mv rfl rfl ?_
  refine ok_mv rfl rfl ?_
  refine ok_v (.d (.int .u64 (IntKind.wrap .u64 ((Int.fdiv p0 (2 ^ 32)) * (andI .u64 p1 4294967295))))) rfl rfl ?_
  refine ok_mv rfl rfl ?_
  refine ok_v (.d (.int .u64 (Int.fdiv (IntKind.wrap .u64 ((andI .u64 p0 4294967295) * (andI .u64 p1 4294967295))) (2 ^ 32)))) rfl rfl ?_
  refine ok_v (.d (.int .u64 (IntKind.wrap .u64 ((IntKind.wrap .u64 ((Int.fdiv p0 (2 ^ 32)) * (andI .u64 p1 4294967295))) + (Int.fdiv (IntKind.wrap .u64 ((andI .u64 p0 4294967295) * (andI .u64 p1 4294967295))) (2 ^ 32)))))) rfl rfl ?_
  refine ok_as rfl rfl ?_
  refine ok_nil ?_
  refine rk_seq ?_
  refine rk_region ?_
  refine ok_mv rfl rfl ?_
  refine ok_v (.d (.int .u64 (andI .u64 (IntKind.wrap .u64 ((IntKind.wrap .u64 ((Int.fdiv p0 (2 ^ 32)) * (andI .u64 p1 4294967295))) + (Int.fdiv (IntKind.wrap .u64 ((andI .u64 p0 4294967295) * (andI .u64 p1 4294967295))) (2 ^ 32)))) 4294967295))) rfl rfl ?_
  refine ok_as rfl rfl ?_
  refine ok_nil ?_
  refine rk_seq ?_
  refine rk_region ?_
  refine ok_mv rfl rfl ?_
  refine ok_v (.d (.int .u64 (Int.fdiv (IntKind.wrap .u64 ((IntKind.wrap .u64 ((Int.fdiv p0 (2 ^ 32)) * (andI .u64 p1 4294967295))) + (Int.fdiv (IntKind.wrap .u64 ((andI .u64 p0 4294967295) * (andI .u64 p1 4294967295))) (2 ^ 32)))) (2 ^ 32)))) rfl rfl ?_
  refine ok_as rfl rfl ?_
  refine ok_nil ?_
  refine rk_seq ?_
  refine rk_region ?_
  refine ok_mv rfl rfl ?_
  refine ok_mv rfl rfl ?_
  refine ok_mv rfl rfl ?_
  refine ok_v (.d (.int .u64 (IntKind.wrap .u64 ((andI .u64 p0 4294967295) * (Int.fdiv p1 (2 ^ 32)))))) rfl rfl ?_
  refine ok_v (.d (.int .u64 (IntKind.wrap .u64 ((andI .u64 (IntKind.wrap .u64 ((IntKind.wrap .u64 ((Int.fdiv p0 (2 ^ 32)) * (andI .u64 p1 4294967295))) + (Int.fdiv (IntKind.wrap .u64 ((andI .u64 p0 4294967295) * (andI .u64 p1 4294967295))) (2 ^ 32)))) 4294967295) + (IntKind.wrap .u64 ((andI .u64 p0 4294967295) * (Int.fdiv p1 (2 ^ 32)))))))) rfl rfl ?_
  refine ok_as rfl rfl ?_
  refine ok_nil ?_
  refine rk_seq ?_
  refine rk_region ?_
  refine ok_mv rfl rfl ?_
  refine ok_mv rfl rfl ?_
  refine ok_v (.d (.int .u64 (IntKind.wrap .u64 ((Int.fdiv p0 (2 ^ 32)) * (Int.fdiv p1 (2 ^ 32)))))) rfl rfl ?_
  refine ok_mv rfl rfl ?_
  refine ok_v (.d (.int .u64 (IntKind.wrap .u64 ((IntKind.wrap .u64 ((Int.fdiv p0 (2 ^ 32)) * (Int.fdiv p1 (2 ^ 32)))) + (Int.fdiv (IntKind.wrap .u64 ((IntKind.wrap .u64 ((Int.fdiv p0 (2 ^ 32)) * (andI .u64 p1 4294967295))) + (Int.fdiv (IntKind.wrap .u64 ((andI .u64 p0 4294967295) * (andI .u64 p1 4294967295))) (2 ^ 32)))) (2 ^ 32)))))) rfl rfl ?_
  refine ok_mv rfl rfl ?_
  refine ok_v (.d (.int .u64 (Int.fdiv (IntKind.wrap .u64 ((andI .u64 (IntKind.wrap .u64 ((IntKind.wrap .u64 ((Int.fdiv p0 (2 ^ 32)) * (andI .u64 p1 4294967295))) + (Int.fdiv (IntKind.wrap .u64 ((andI .u64 p0 4294967295) * (andI .u64 p1 4294967295))) (2 ^ 32)))) 4294967295) + (IntKind.wrap .u64 ((andI .u64 p0 4294967295) * (Int.fdiv p1 (2 ^ 32)))))) (2 ^ 32)))) rfl rfl ?_
  refine ok_v (.d (.int .u64 (IntKind.wrap .u64 ((IntKind.wrap .u64 ((IntKind.wrap .u64 ((Int.fdiv p0 (2 ^ 32)) * (Int.fdiv p1 (2 ^ 32)))) + (Int.fdiv (IntKind.wrap .u64 ((IntKind.wrap .u64 ((Int.fdiv p0 (2 ^ 32)) * (andI .u64 p1 4294967295))) + (Int.fdiv (IntKind.wrap .u64 ((andI .u64 p0 4294967295) * (andI .u64 p1 4294967295))) (2 ^ 32)))) (2 ^ 32)))) + (Int.fdiv (IntKind.wrap .u64 ((andI .u64 (IntKind.wrap .u64 ((IntKind.wrap .u64 ((Int.fdiv p0 (2 ^ 32)) * (andI .u64 p1 4294967295))) + (Int.fdiv (IntKind.wrap .u64 ((andI .u64 p0 4294967295) * (andI .u64 p1 4294967295))) (2 ^ 32)))) 4294967295) + (IntKind.wrap .u64 ((andI .u64 p0 4294967295) * (Int.fdiv p1 (2 ^ 32)))))) (2 ^ 32)))))) rfl rfl ?_
  refine ok_as rfl rfl ?_
  refine ok_nil ?_
  refine rk_seq ?_
  refine rk_region ?_
  refine ok_mv rfl rfl ?_
  refine ok_mv rfl rfl ?_
  refine ok_v (.d (.int .u64 (IntKind.wrap .u64 (p0 * p1)))) rfl rfl ?_
  refine ok_as rfl rfl ?_
  refine ok_nil ?_
  refine rk_ret ?_
  obtain rfl := someE h0
  exact finD (.inr rfl) (v := .d (.tup [.int .u64 (IntKind.wrap .u64 ((IntKind.wrap .u64 ((IntKind.wrap .u64 ((Int.fdiv p0 (2 ^ 32)) * (Int.fdiv p1 (2 ^ 32)))) + (Int.fdiv (IntKind.wrap .u64 ((IntKind.wrap .u64 ((Int.fdiv p0 (2 ^ 32)) * (andI .u64 p1 4294967295))) + (Int.fdiv (IntKind.wrap .u64 ((andI .u64 p0 4294967295) * (andI .u64 p1 4294967295))) (2 ^ 32)))) (2 ^ 32)))) + (Int.fdiv (IntKind.wrap .u64 ((andI .u64 (IntKind.wrap .u64 ((IntKind.wrap .u64 ((Int.fdiv p0 (2 ^ 32)) * (andI .u64 p1 4294967295))) + (Int.fdiv (IntKind.wrap .u64 ((andI .u64 p0 4294967295) * (andI .u64 p1 4294967295))) (2 ^ 32)))) 4294967295) + (IntKind.wrap .u64 ((andI .u64 p0 4294967295) * (Int.fdiv p1 (2 ^ 32)))))) (2 ^ 32)))), .int .u64 (IntKind.wrap .u64 (p0 * p1))])) rfl rfl (.refl _)

theorem math_bits_Mul_ok (p0 : Int) (p1 : Int) (r : Int × Int) (h0 : math_bits_Mul p0 p1 = some r) : Pure Try.prog tab 52 [.int .u64 p0, .int .u64 p1] (.tup [.int .u64 r.1, .int .u64 r.2]) := by
  unfold math_bits_Mul at h0
  refine pure_of_run Try.func52 rfl (by kernel_rfl) (by kernel_rfl) rfl ?_
  refine rk_seq ?_
  refine rk_region ?_
  refine ok_as rfl rfl ?_
  refine ok_as rfl rfl ?_
  refine ok_nil ?_
  refine rk_seq ?_
  refine rk_condF rfl ?_
  refine rk_skip ?_
  refine rk_seq ?_
  refine rk_region ?_
  refine ok_mv rfl rfl ?_
  refine ok_mv rfl rfl ?_
  obtain ⟨r1, h2, h0⟩ := bindE h0
  refine ok_pc [.d (.int .u64 p0), .d (.int .u64 p1)] (math_bits_Mul64_ok p0 p1 r1 h2) rfl rfl rfl (.inl rfl) ?_
  refine ok_mv rfl rfl ?_
  refine ok_v (.d (.int .u64 r1.1)) rfl rfl ?_
  refine ok_v (.d (.int .u64 r1.2)) rfl rfl ?_
  refine ok_as rfl rfl ?_
  refine ok_as rfl rfl ?_
  refine ok_nil ?_
  refine rk_seq ?_
  refine rk_region ?_
  refine ok_mv rfl rfl ?_
  refine ok_mv rfl rfl ?_
  refine ok_as rfl rfl ?_
  refine ok_as rfl rfl ?_
  refine ok_nil ?_
  refine rk_ret ?_
  obtain rfl := someE h0
  exact finD (.inr rfl) (v := .d (.tup [.int .u64 r1.1, .int .u64 r1.2])) rfl rfl (.refl _)

theorem slices_Repeat_int_int_ok (p0 : List Int) (p1 : Int) (r : List Int) (h0 : slices_Repeat_int_int p0 p1 = some r) : Pure Try.prog tab 37 [.sl 1 (p0.map (eI .i64)), .int .i64 p1] (.sl 1 (r.map (eI .i64))) := by
  unfold slices_Repeat_int_int at h0
  refine pure_of_run Try.func37 rfl (by kernel_rfl) (by kernel_rfl) rfl ?_
  refine rk_seq ?_
  refine rk_region ?_
  refine ok_as rfl rfl ?_
  refine ok_nil ?_
  refine rk_seq ?_
  refine rk_seq ?_
  refine rk_region ?_
  refine ok_mv rfl rfl ?_
  refine ok_v (.d (.bool (decide (p1 < 0)))) rfl rfl ?_
  refine ok_nil ?_
  refine rk_condH rfl h0 (fun _ h0 => ?_) (fun _ h0 => ?_)
  · refine rk_region ?_
    cases h0
  · refine rk_skip ?_
    refine rk_seq ?_
    refine rk_region ?_
    refine ok_mv rfl rfl ?_
    refine ok_ln rfl rfl rfl rfl ?_
    refine ok_v (.d (.int .u64 (IntKind.wrap .u64 (p0.length : Int)))) rfl rfl ?_
    refine ok_mv rfl rfl ?_
    refine ok_v (.d (.int .u64 (IntKind.wrap .u64 p1))) rfl rfl ?_
    obtain ⟨r1, h2, h0⟩ := bindE h0
    refine ok_pc [.d (.int .u64 (IntKind.wrap .u64 (p0.length : Int))), .d (.int .u64 (IntKind.wrap .u64 p1))] (math_bits_Mul_ok (IntKind.wrap .u64 (p0.length : Int)) (IntKind.wrap .u64 p1) r1 h2) rfl rfl rfl (.inl rfl) ?_
    refine ok_mv rfl rfl ?_
    refine ok_v (.d (.int .u64 r1.1)) rfl rfl ?_
    refine ok_v (.d (.int .u64 r1.2)) rfl rfl ?_
    refine ok_as rfl rfl ?_
    refine ok_as rfl rfl ?_
    refine ok_nil ?_
    refine rk_seq ?_
    refine rk_seq ?_
    refine rk_region ?_
    refine ok_mv rfl rfl ?_
    refine ok_v (.d (.bool (decide (r1.1 > 0)))) rfl rfl ?_
    obtain ⟨c3, h4, h0⟩ := bindE h0
    refine ok_cutQ 4 (fun A st => ∃ (j5 j6 j7 : V), st = A [(26, .d (.bool c3)), (25, j7), (24, j6), (23, j5)]) ?_ ?_
    · refine ok_mvB rfl rfl h4 (fun h4 => ?_) (fun h4 => ?_)
      · refine ok_sg rfl ?_
        refine ok_sg rfl ?_
        refine ok_v (.d (.bool true)) rfl rfl ?_
        refine ok_nil ?_
        obtain rfl := someE h4
        exact ⟨_, _, _, rfl⟩
      · refine ok_mv rfl rfl ?_
        refine ok_v (.d (.bool (decide (r1.2 > 9223372036854775807)))) rfl rfl ?_
        refine ok_v (.d (.bool (decide (r1.2 > 9223372036854775807)))) rfl rfl ?_
        refine ok_nil ?_
        obtain rfl := someE h4
        exact ⟨_, _, _, rfl⟩
    · rintro _ ⟨j5, j6, j7, rfl⟩
      refine ok_nil ?_
      refine rk_condH rfl h0 (fun _ h0 => ?_) (fun _ h0 => ?_)
      · refine rk_region ?_
        cases h0
      · refine rk_skip ?_
        refine rk_seq ?_
        refine rk_region ?_
        refine ok_mv rfl rfl ?_
        refine ok_v (.d (.int .i64 (w64 r1.2))) rfl rfl ?_
        obtain ⟨z8, h9, h0⟩ := bindE h0
        refine ok_mks (z := 0) (enc := (eI .i64)) h9 rfl rfl rfl rfl rfl rfl ?_
        refine ok_as rfl rfl ?_
        refine ok_nil ?_
        refine rk_seq ?_
        refine rk_region ?_
        refine ok_mv rfl rfl ?_
        refine ok_mv rfl rfl ?_
        refine ok_cpy (w := (0, z8.length)) (xs := z8) (ys := p0) (enc := (eI .i64)) (.d (.sl 1 (p0.map (eI .i64)))) (by simp) rfl rfl rfl rfl rfl rfl contsDsl rfl rfl rfl rfl ?_
        have h10 := @cpyw_len _ z8 p0 (0, z8.length) (by simp)
        refine ok_as rfl rfl ?_
        refine ok_nil ?_
        refine rk_seq ?_
        obtain ⟨m24, h25, h0⟩ := bindE h0
        refine rk_blockcut (fun b26 => b26 = m24) (fun (b26 : List Int) => ⟨[(7, .hs 0 1 0 b26.length)], [(0, .dat 1 (b26.map (eI .i64)))], 1⟩) (by simp) ?_ ?_
        · refine rk_loopF (slices_Repeat_int_int_L1) (fun (a23 : Int × List Int) => ⟨[(7, .hs 0 1 0 a23.2.length), (8, .d (.int .i64 a23.1))], [(0, .dat 1 (a23.2.map (eI .i64)))], 1⟩) (((min p0.length (0, z8.length).2 : Nat) : Int), cpyw z8 (0, z8.length) p0) m24 h25 (wkE [(0, 0)] [] [] rfl ⟨⟨_, rfl, wv_hsL (by simp [h10]) rfl (by decide) (ltd rfl)⟩, ⟨_, rfl, .d (.refl _)⟩, trivial⟩ ⟨⟨ltd rfl, .inr ⟨by decide, _, rfl, .dat _ _⟩⟩, trivial⟩) ?_
          intro a23 y21 h22
          unfold slices_Repeat_int_int_L1 at h22
          refine rk_seq ?_
          refine rk_seq ?_
          refine rk_region ?_
          refine ok_mv rfl rfl ?_
          refine ok_mv rfl rfl ?_
          refine ok_v (.d (.int .i64 (a23.2.length : Int))) rfl rfl ?_
          refine ok_v (.d (.bool (decide (a23.1 < (a23.2.length : Int))))) rfl rfl ?_
          refine ok_nil ?_
          refine rk_condH rfl h22 (fun _ h22 => ?_) (fun _ h22 => ?_)
          · refine rk_skip ?_
            refine rk_block ?_
            refine rk_regionD (by kernel_rfl) ?_
            refine ok_mv rfl rfl ?_
            refine ok_mv rfl rfl ?_
            refine ok_mv rfl rfl ?_
            obtain ⟨w27, h28, h22⟩ := bindE h22
            refine ok_slh h28 rfl rfl rfl rfl rfl (bound_v rfl) (fun _ => rfl) ?_
            refine ok_mv rfl rfl ?_
            refine ok_mv rfl rfl ?_
            obtain ⟨w29, h30, h22⟩ := bindE h22
            refine ok_slh h30 rfl rfl rfl rfl rfl (fun _ => rfl) (bound_v rfl) ?_
            refine ok_cpy (w := w27) (xs := a23.2) (ys := (a23.2.drop w29.1).take w29.2) (enc := (eI .i64)) (.hs 0 1 w29.1 w29.2) (sub2_some h28) rfl rfl rfl rfl rfl rfl (conts_sub (sub2_some h30) rfl) rfl rfl rfl rfl ?_
            have h31 := @cpyw_len _ a23.2 ((a23.2.drop w29.1).take w29.2) w27 (sub2_some h28)
            refine ok_v (.d (.int .i64 (w64 (a23.1 + ((min ((a23.2.drop w29.1).take w29.2).length w27.2 : Nat) : Int))))) rfl rfl ?_
            refine ok_as rfl rfl ?_
            refine ok_nil ?_
            refine rk_nil ?_
            refine blk_nor ?_
            refine rk_nil ?_
            exact ⟨_, (Option.some.inj h22).symm, wkE [(0, 0)] [] [] rfl ⟨⟨_, rfl, wv_hsL (by simp [h31]) rfl (by decide) (ltd rfl)⟩, ⟨_, rfl, .d (.refl _)⟩, trivial⟩ ⟨⟨ltd rfl, .inr ⟨by decide, _, rfl, .dat _ _⟩⟩, trivial⟩⟩
          · refine rk_exit ?_
            refine ⟨_, (Option.some.inj h22).symm, fun hm => ?_⟩
            subst hm
            exact ⟨_, rfl, wkE [(0, 0)] [] [] rfl ⟨⟨_, rfl, .hs rfl (by decide) (ltd rfl)⟩, trivial⟩ ⟨⟨ltd rfl, .inr ⟨by decide, _, rfl, .dat _ _⟩⟩, trivial⟩⟩
        · intro b26 hb
          subst hb
          refine rk_seq ?_
          refine rk_region ?_
          refine ok_mv rfl rfl ?_
          refine ok_as rfl rfl ?_
          refine ok_nil ?_
          refine rk_ret ?_
          obtain rfl := someE h0
          exact finD (.inr rfl) (v := .hs 0 1 0 b26.length) rfl (td_hs rfl rfl) (.refl _)

theorem split_Repeat_ok (p0 : Int) (p1 : Int) (r : List Int × Int) (h0 : split_Repeat p0 p1 = some r) : Pure Try.prog tab 18 [.int .i64 p0, .int .i64 p1] (.tup [.sl 1 (r.1.map (eI .i64)), .int .i64 r.2]) := by
  unfold split_Repeat at h0
  refine pure_of_run Try.func18 rfl (by kernel_rfl) (by kernel_rfl) rfl ?_
  refine rk_seq ?_
  refine rk_region ?_
  refine ok_as rfl rfl ?_
  refine ok_as rfl rfl ?_
  refine ok_nil ?_
  refine rk_seq ?_
  refine rk_seq ?_
  refine rk_region ?_
  refine ok_mv rfl rfl ?_
  refine ok_v (.d (.bool (decide (p0 < 0)))) rfl rfl ?_
  obtain ⟨c1, h2, h0⟩ := bindE h0
  refine ok_cutQ 4 (fun A st => ∃ (j3 j4 j5 : V), st = A [(12, .d (.bool c1)), (11, j5), (10, j4), (9, j3)]) ?_ ?_
  · refine ok_mvB rfl rfl h2 (fun h2 => ?_) (fun h2 => ?_)
    · refine ok_sg rfl ?_
      refine ok_sg rfl ?_
      refine ok_v (.d (.bool true)) rfl rfl ?_
      refine ok_nil ?_
      obtain rfl := someE h2
      exact ⟨_, _, _, rfl⟩
    · refine ok_mv rfl rfl ?_
      refine ok_v (.d (.bool (decide (p0 > 1000000)))) rfl rfl ?_
      refine ok_v (.d (.bool (decide (p0 > 1000000)))) rfl rfl ?_
      refine ok_nil ?_
      obtain rfl := someE h2
      exact ⟨_, _, _, rfl⟩
  · rintro _ ⟨j3, j4, j5, rfl⟩
    obtain ⟨c6, h7, h0⟩ := bindE h0
    refine ok_cutQ 4 (fun A st => ∃ (j8 j9 j10 : V), st = A [(16, .d (.bool c6)), (15, j10), (14, j9), (13, j8)]) ?_ ?_
    · refine ok_mvB rfl rfl h7 (fun h7 => ?_) (fun h7 => ?_)
      · refine ok_sg rfl ?_
        refine ok_sg rfl ?_
        refine ok_v (.d (.bool true)) rfl rfl ?_
        refine ok_nil ?_
        obtain rfl := someE h7
        exact ⟨_, _, _, rfl⟩
      · refine ok_mv rfl rfl ?_
        refine ok_v (.d (.bool (decide (p1 < 1)))) rfl rfl ?_
        refine ok_v (.d (.bool (decide (p1 < 1)))) rfl rfl ?_
        refine ok_nil ?_
        obtain rfl := someE h7
        exact ⟨_, _, _, rfl⟩
    · rintro _ ⟨j8, j9, j10, rfl⟩
      obtain ⟨c11, h12, h0⟩ := bindE h0
      refine ok_cutQ 4 (fun A st => ∃ (j13 j14 j15 : V), st = A [(20, .d (.bool c11)), (19, j15), (18, j14), (17, j13)]) ?_ ?_
      · refine ok_mvB rfl rfl h12 (fun h12 => ?_) (fun h12 => ?_)
        · refine ok_sg rfl ?_
          refine ok_sg rfl ?_
          refine ok_v (.d (.bool true)) rfl rfl ?_
          refine ok_nil ?_
          obtain rfl := someE h12
          exact ⟨_, _, _, rfl⟩
        · refine ok_mv rfl rfl ?_
          refine ok_v (.d (.bool (decide (p1 > 1000000)))) rfl rfl ?_
          refine ok_v (.d (.bool (decide (p1 > 1000000)))) rfl rfl ?_
          refine ok_nil ?_
          obtain rfl := someE h12
          exact ⟨_, _, _, rfl⟩
      · rintro _ ⟨j13, j14, j15, rfl⟩
        refine ok_nil ?_
        refine rk_condH rfl h0 (fun _ h0 => ?_) (fun _ h0 => ?_)
        · refine rk_seq ?_
          refine rk_region ?_
          refine ok_as rfl rfl ?_
          refine ok_as rfl rfl ?_
          refine ok_nil ?_
          refine rk_ret ?_
          obtain rfl := someE h0
          exact finD (.inr rfl) (v := .d (.tup [.nilsl, .int .i64 2])) rfl rfl (dle_tup (.cons (.nil _) (.cons (.refl _) .nil)))
        · refine rk_skip ?_
          refine rk_seq ?_
          refine rk_region ?_
          refine ok_mv rfl rfl ?_
          refine ok_v (.d (.int .i64 (w64 (2 * p0)))) rfl rfl ?_
          refine ok_mv rfl rfl ?_
          refine ok_v (.d (.int .i64 (w64 ((w64 (2 * p0)) + p1)))) rfl rfl ?_
          refine ok_mv rfl rfl ?_
          refine ok_v (.d (.int .i64 (w64 (2 * p1)))) rfl rfl ?_
          obtain ⟨q16, h17, h0⟩ := bindE h0
          refine ok_quo h17 rfl rfl rfl ?_
          refine ok_max (r := max 1 q16) rfl rfl (by simp only [minI_max]; rfl) ?_
          refine ok_as rfl rfl ?_
          refine ok_nil ?_
          refine rk_seq ?_
          refine rk_seq ?_
          refine rk_region ?_
          refine ok_mv rfl rfl ?_
          refine ok_v (.d (.bool (decide ((max 1 q16) > 200)))) rfl rfl ?_
          refine ok_nil ?_
          refine rk_condH rfl h0 (fun _ h0 => ?_) (fun _ h0 => ?_)
          · refine rk_seq ?_
            refine rk_region ?_
            refine ok_as rfl rfl ?_
            refine ok_as rfl rfl ?_
            refine ok_nil ?_
            refine rk_ret ?_
            obtain rfl := someE h0
            exact finD (.inr rfl) (v := .d (.tup [.nilsl, .int .i64 4])) rfl rfl (dle_tup (.cons (.nil _) (.cons (.refl _) .nil)))
          · refine rk_skip ?_
            refine rk_seq ?_
            refine rk_region ?_
            refine ok_mv rfl rfl ?_
            refine ok_fzn (es := 1) ([1].map (eI .i64)) rfl rfl rfl rfl rfl ?_
            refine ok_mv rfl rfl ?_
            obtain ⟨r18, h19, h0⟩ := bindE h0
            refine ok_pc [.d (.sl 1 ([1].map (eI .i64))), .d (.int .i64 (max 1 q16))] (slices_Repeat_int_int_ok [1] (max 1 q16) r18 h19) rfl rfl rfl (.inl rfl) ?_
            obtain ⟨m30, h29, h0⟩ := bindE h0
            refine ok_callC [.d (.int .i64 p0), .d (.sl 1 (r18.map (eI .i64)))] (fun b31 => b31 = m30) (fun (b31 : Int) => ⟨[(35, .fn 46 [.ref 0 1 0 0, .ref 1 1 0 0, .ref 2 1 0 0])], [(0, .dat 1 [[.sl 1 (r18.map (eI .i64))]]), (1, .dat 1 [[.int .i64 p0]]), (2, .dat 1 [[.int .i64 b31]])], 3⟩) rfl rfl Try.func28 rfl (by kernel_rfl) (by kernel_rfl) rfl ?_ ?_
            · refine rk_seq ?_
              refine rk_region ?_
              refine ok_new (.ref 1 1 0 0) (.dat 1 [[.int .i64 p0]]) rfl rfl ?_
              refine ok_new (.ref 2 1 0 0) (.dat 1 [[.sl 1 (r18.map (eI .i64))]]) rfl rfl ?_
              refine ok_as rfl rfl ?_
              refine ok_nil ?_
              refine rk_seq ?_
              refine rk_region ?_
              refine ok_alloc rfl rfl ?_
              refine ok_sto 3 (.dat 1 [[.int .i64 0]]) rfl rfl ?_
              refine ok_nil ?_
              refine rk_seq ?_
              refine rk_seq ?_
              refine rk_region ?_
              refine ok_v (.d (.sl 1 (r18.map (eI .i64)))) rfl rfl ?_
              refine ok_ln rfl rfl rfl rfl ?_
              refine ok_mv rfl rfl ?_
              refine ok_nil ?_
              obtain ⟨m43, h44, h29⟩ := bindE h29
              refine rk_blockcut (fun b45 => b45 = m43) (fun (b45 : Int) => ⟨[(2, .ref 1 1 0 0), (3, .ref 2 1 0 0), (5, .ref 3 1 0 0)], [(1, .dat 1 [[.int .i64 p0]]), (2, .dat 1 [[.sl 1 (r18.map (eI .i64))]]), (3, .dat 1 [[.int .i64 b45]])], 4⟩) (by simp) ?_ ?_
              · refine rk_loopF (split_Repeat_L1 r18) (fun (a42 : Int × Int) => ⟨[(2, .ref 1 1 0 0), (3, .ref 2 1 0 0), (5, .ref 3 1 0 0), (8, .d (.sl 1 (r18.map (eI .i64)))), (9, .d (.int .i64 (r18.length : Int))), (10, .d (.int .i64 a42.1))], [(1, .dat 1 [[.int .i64 p0]]), (2, .dat 1 [[.sl 1 (r18.map (eI .i64))]]), (3, .dat 1 [[.int .i64 a42.2]])], 4⟩) (0, 0) m43 h44 (wkE [(1, 1), (2, 2), (3, 3)] [] [] rfl ⟨⟨_, rfl, .ref rfl (by decide) (ltd rfl)⟩, ⟨_, rfl, .ref rfl (by decide) (ltd rfl)⟩, ⟨_, rfl, .ref rfl (by decide) (ltd rfl)⟩, ⟨_, rfl, .d (.refl _)⟩, ⟨_, rfl, .d (.refl _)⟩, ⟨_, rfl, .d (.refl _)⟩, trivial⟩ ⟨⟨ltd rfl, .inr ⟨by decide, _, rfl, .dat _ _⟩⟩, ⟨ltd rfl, .inr ⟨by decide, _, rfl, .dat _ _⟩⟩, ⟨ltd rfl, .inr ⟨by decide, _, rfl, .dat _ _⟩⟩, trivial⟩) ?_
                intro a42 y40 h41
                unfold split_Repeat_L1 at h41
                refine rk_seq ?_
                refine rk_region ?_
                refine ok_v (.d (.bool (decide (a42.1 < (r18.length : Int))))) rfl rfl ?_
                refine ok_nil ?_
                refine rk_seq ?_
                refine rk_condH rfl h41 (fun _ h41 => ?_) (fun _ h41 => ?_)
                · refine rk_skip ?_
                  refine rk_seq ?_
                  refine rk_block ?_
                  refine rk_seq ?_
                  refine rk_region ?_
                  obtain ⟨v48, h49, h41⟩ := bindE h41
                  refine ok_ix (enc := (eI .i64)) h49 rfl rfl rfl rfl rfl rfl ?_
                  refine ok_v (.d (.int .i64 v48)) rfl rfl ?_
                  refine ok_as rfl rfl ?_
                  refine ok_nil ?_
                  refine rk_region ?_
                  refine ok_v (.d (.int .i64 a42.2)) rfl rfl ?_
                  refine ok_mv rfl rfl ?_
                  refine ok_v (.d (.int .i64 (w64 (a42.2 + v48)))) rfl rfl ?_
                  refine ok_sto 3 (.dat 1 [[.int .i64 (w64 (a42.2 + v48))]]) rfl rfl ?_
                  refine ok_nil ?_
                  refine rk_nil ?_
                  refine blk_nor ?_
                  refine rk_region ?_
                  refine ok_v (.d (.int .i64 (w64 (a42.1 + 1)))) rfl rfl ?_
                  refine ok_mv rfl rfl ?_
                  refine ok_nil ?_
                  refine rk_nil ?_
                  exact ⟨_, (Option.some.inj h41).symm, wkE [(1, 1), (2, 2), (3, 3)] [] [] rfl ⟨⟨_, rfl, .ref rfl (by decide) (ltd rfl)⟩, ⟨_, rfl, .ref rfl (by decide) (ltd rfl)⟩, ⟨_, rfl, .ref rfl (by decide) (ltd rfl)⟩, ⟨_, rfl, .d (.refl _)⟩, ⟨_, rfl, .d (.refl _)⟩, ⟨_, rfl, .d (.refl _)⟩, trivial⟩ ⟨⟨ltd rfl, .inr ⟨by decide, _, rfl, .dat _ _⟩⟩, ⟨ltd rfl, .inr ⟨by decide, _, rfl, .dat _ _⟩⟩, ⟨ltd rfl, .inr ⟨by decide, _, rfl, .dat _ _⟩⟩, trivial⟩⟩
                · refine rk_exit ?_
                  refine ⟨_, (Option.some.inj h41).symm, fun hm => ?_⟩
                  subst hm
                  exact ⟨_, rfl, wkE [(1, 1), (2, 2), (3, 3)] [] [] rfl ⟨⟨_, rfl, .ref rfl (by decide) (ltd rfl)⟩, ⟨_, rfl, .ref rfl (by decide) (ltd rfl)⟩, ⟨_, rfl, .ref rfl (by decide) (ltd rfl)⟩, trivial⟩ ⟨⟨ltd rfl, .inr ⟨by decide, _, rfl, .dat _ _⟩⟩, ⟨ltd rfl, .inr ⟨by decide, _, rfl, .dat _ _⟩⟩, ⟨ltd rfl, .inr ⟨by decide, _, rfl, .dat _ _⟩⟩, trivial⟩⟩
              · intro b45 hb
                subst hb
                refine rk_seq ?_
                refine rk_region ?_
                refine ok_v (.fn 46 [.ref 2 1 0 0, .ref 1 1 0 0, .ref 3 1 0 0]) rfl rfl ?_
                refine ok_as rfl rfl ?_
                refine ok_nil ?_
                refine rk_ret ?_
                refine ⟨.inr rfl, _, rfl, ?_⟩
                obtain rfl := someE h29
                exact ⟨_, rfl, wkE [(0, 2), (1, 1), (2, 3)] [] [] rfl ⟨⟨_, rfl, (wv_fn (.cons (.ref rfl (by decide) (ltd rfl)) (.cons (.ref rfl (by decide) (ltd rfl)) (.cons (.ref rfl (by decide) (ltd rfl)) .nil))))⟩, trivial⟩ ⟨⟨ltd rfl, .inr ⟨by decide, _, rfl, .dat _ _⟩⟩, ⟨ltd rfl, .inr ⟨by decide, _, rfl, .dat _ _⟩⟩, ⟨ltd rfl, .inr ⟨by decide, _, rfl, .dat _ _⟩⟩, trivial⟩⟩
            · intro b31 hb
              subst hb
              obtain ⟨m122, h121, h0⟩ := bindE h0
              refine ok_callC [.fn 46 [.ref 0 1 0 0, .ref 1 1 0 0, .ref 2 1 0 0]] (fun b123 => b123 = m122) (fun (b123 : List Int) => ⟨[(36, .hs 0 1 0 b123.length)], [(0, .dat 1 (b123.map (eI .i64)))], 1⟩) rfl rfl Try.func36 rfl (by kernel_rfl) (by kernel_rfl) rfl ?_ ?_
              · refine rk_seq ?_
                refine rk_region ?_
                refine ok_as rfl rfl ?_
                refine ok_nil ?_
                refine rk_seq ?_
                refine rk_region ?_
                refine ok_mv rfl rfl ?_
                obtain ⟨m195, h194, h121⟩ := bindE h121
                refine ok_callC [.d (.nilsl), .fn 46 [.ref 0 1 0 0, .ref 1 1 0 0, .ref 2 1 0 0]] (fun b196 => b196 = m195) (fun (b196 : List Int) => ⟨[(4, .hs 3 1 0 b196.length)], [(0, .dat 1 [[.sl 1 (r18.map (eI .i64))]]), (1, .dat 1 [[.int .i64 p0]]), (2, .dat 1 [[.int .i64 b31]]), (3, .dat 1 (b196.map (eI .i64)))], 4⟩) rfl rfl Try.func51 rfl (by kernel_rfl) (by kernel_rfl) rfl ?_ ?_
                · refine rk_seq ?_
                  refine rk_region ?_
                  refine ok_new (.ref 3 1 0 0) (.dat 1 [[.nilsl]]) rfl rfl ?_
                  refine ok_as rfl rfl ?_
                  refine ok_nil ?_
                  refine rk_seq ?_
                  refine rk_seq ?_
                  refine rk_region ?_
                  refine ok_mv rfl rfl ?_
                  refine ok_nil ?_
                  refine rk_block ?_
                  obtain ⟨m267, h266, h194⟩ := bindE h194
                  refine rk_cut0 (fun b268 => b268 = m267) (fun (b268 : List Int) => ⟨[(2, .ref 3 1 0 0)], [(0, .dat 1 [[.sl 1 (r18.map (eI .i64))]]), (1, .dat 1 [[.int .i64 p0]]), (2, .dat 1 [[.int .i64 b31]]), (3, .cel 1 [[.hs 4 1 0 b268.length]]), (4, .dat 1 (b268.map (eI .i64)))], 5⟩) ?_ ?_
                  · refine rk_wk (st' := ⟨[(2, .ref 3 1 0 0), (4, .d (.nilsl)), (6, .fn 46 [.ref 0 1 0 0, .ref 1 1 0 0, .ref 2 1 0 0])], [(0, .dat 1 [[.sl 1 (r18.map (eI .i64))]]), (1, .dat 1 [[.int .i64 p0]]), (2, .dat 1 [[.int .i64 b31]]), (3, .dat 1 [[.nilsl]])], 4⟩) (wkE [(3, 3)] [] [] rfl ⟨⟨_, rfl, .ref rfl (by decide) (ltd rfl)⟩, ⟨_, rfl, .d (.refl _)⟩, ⟨_, rfl, (wv_fn (.cons (.ref rfl (by decide) (ltd rfl)) (.cons (.ref rfl (by decide) (ltd rfl)) (.cons (.ref rfl (by decide) (ltd rfl)) .nil))))⟩, trivial⟩ ⟨⟨ltd rfl, .inr ⟨by decide, _, rfl, .dat _ _⟩⟩, ⟨ltd rfl, .inr ⟨by decide, _, rfl, .dat _ _⟩⟩, ⟨ltd rfl, .inr ⟨by decide, _, rfl, .dat _ _⟩⟩, ⟨ltd rfl, .inr ⟨by decide, _, rfl, .dat _ _⟩⟩, trivial⟩) ?_ (by simp)
                    refine rk_rangeF [.ref 0 1 0 0, .ref 1 1 0 0, .ref 2 1 0 0] (.inl rfl) Try.func46 rfl (by kernel_rfl) (by kernel_rfl) rfl ?_
                    intro A269 B270 hA269 hB270
                    refine rk_seq ?_
                    refine rk_region ?_
                    refine ok_as rfl rfl ?_
                    refine ok_as rfl rfl ?_
                    refine ok_nil ?_
                    refine rk_seq ?_
                    refine rk_region ?_
                    refine ok_v (.d (.sl 1 (r18.map (eI .i64)))) rfl rfl ?_
                    refine ok_ln rfl rfl rfl rfl ?_
                    refine ok_mv rfl rfl ?_
                    refine ok_nil ?_
                    obtain ⟨m306, h307, h266⟩ := bindE h266
                    refine rk_block ?_
                    refine rk_loopF (split_Repeat_L2 r18 p0 b31) (fun (a305 : Int × Int × Int × List Int) => ⟨[(0, .yld 4), (2, .ref 1 1 0 0), (3, .ref 2 1 0 0), (5, .d (.int .i64 a305.1)), (6, .d (.int .i64 a305.2.1)), (10, .d (.sl 1 (r18.map (eI .i64)))), (11, .d (.int .i64 (r18.length : Int))), (12, .d (.int .i64 a305.2.2.1))], [(0, .dat 1 [[.sl 1 (r18.map (eI .i64))]]), (1, .dat 1 [[.int .i64 p0]]), (2, .dat 1 [[.int .i64 b31]]), (3, .cel 1 [[.hs 5 1 0 a305.2.2.2.length]]), (4, .loop [(2, .ref 3 1 0 0), (4, .d (.nilsl)), (6, .fn 46 [.ref 0 1 0 0, .ref 1 1 0 0, .ref 2 1 0 0])] [7] A269 B270 .ready none), (5, .dat 1 (a305.2.2.2.map (eI .i64)))], 6⟩) (0, 0, 0, []) m306 h307 (wkE [] [] [5] rfl ⟨⟨_, rfl, .yld rfl (by decide) (ltd rfl)⟩, ⟨_, rfl, .ref rfl (by decide) (ltd rfl)⟩, ⟨_, rfl, .ref rfl (by decide) (ltd rfl)⟩, ⟨_, rfl, .d (.refl _)⟩, ⟨_, rfl, .d (.refl _)⟩, ⟨_, rfl, .d (.refl _)⟩, ⟨_, rfl, .d (.refl _)⟩, ⟨_, rfl, .d (.refl _)⟩, trivial⟩ ⟨⟨ltd rfl, .inr ⟨by decide, _, rfl, .dat _ _⟩⟩, ⟨ltd rfl, .inr ⟨by decide, _, rfl, .dat _ _⟩⟩, ⟨ltd rfl, .inr ⟨by decide, _, rfl, .dat _ _⟩⟩, ⟨ltd rfl, .inr ⟨by decide, _, rfl, wb_datcel1 (.cons (.nil (by decide) (ltd rfl)) rfl .nil)⟩⟩, ⟨ltd rfl, .inr ⟨by decide, _, rfl, wb_loopS (.cons rfl (.ref rfl (by decide) (ltd rfl)) (.cons rfl (.d (.refl _)) (.cons rfl ((wv_fn (.cons (.ref rfl (by decide) (ltd rfl)) (.cons (.ref rfl (by decide) (ltd rfl)) (.cons (.ref rfl (by decide) (ltd rfl)) .nil))))) .nil)))⟩⟩, ⟨ltd rfl, .inl ⟨by decide, _, by decide, rfl⟩⟩, trivial⟩) ?_
                    intro a305 y303 h304
                    unfold split_Repeat_L2 at h304
                    refine rk_seq ?_
                    refine rk_region ?_
                    refine ok_v (.d (.bool (decide (a305.2.2.1 < (r18.length : Int))))) rfl rfl ?_
                    refine ok_nil ?_
                    refine rk_seq ?_
                    refine rk_condH rfl h304 (fun _ h304 => ?_) (fun _ h304 => ?_)
                    · refine rk_skip ?_
                      refine rk_seq ?_
                      refine rk_block ?_
                      refine rk_seq ?_
                      refine rk_region ?_
                      obtain ⟨v316, h317, h304⟩ := bindE h304
                      refine ok_ix (enc := (eI .i64)) h317 rfl rfl rfl rfl rfl rfl ?_
                      refine ok_v (.d (.int .i64 v316)) rfl rfl ?_
                      refine ok_as rfl rfl ?_
                      refine ok_nil ?_
                      refine rk_seq ?_
                      refine rk_region ?_
                      refine ok_mv rfl rfl ?_
                      refine ok_mv rfl rfl ?_
                      refine ok_v (.d (.int .i64 (w64 (a305.1 + v316)))) rfl rfl ?_
                      refine ok_as rfl rfl ?_
                      refine ok_nil ?_
                      refine rk_seq ?_
                      refine rk_region ?_
                      refine ok_v (.d (.int .i64 p0)) rfl rfl ?_
                      refine ok_mv rfl rfl ?_
                      refine ok_v (.d (.int .i64 (w64 (p0 * (w64 (a305.1 + v316)))))) rfl rfl ?_
                      refine ok_v (.d (.int .i64 b31)) rfl rfl ?_
                      obtain ⟨q318, h319, h304⟩ := bindE h304
                      refine ok_quo h319 rfl rfl rfl ?_
                      refine ok_as rfl rfl ?_
                      refine ok_nil ?_
                      refine rk_seq ?_
                      refine rk_seq ?_
                      refine rk_region ?_
                      refine ok_mv rfl rfl ?_
                      refine ok_mv rfl rfl ?_
                      refine ok_mv rfl rfl ?_
                      refine ok_v (.d (.int .i64 (w64 (q318 - a305.2.1)))) rfl rfl ?_
                      obtain ⟨m323, h322, h304⟩ := bindE h304
                      refine ok_yieldC (fun b324 => b324 = m323) (fun (b324 : List Int) => ⟨[(0, .yld 4), (2, .ref 1 1 0 0), (3, .ref 2 1 0 0), (5, .d (.int .i64 (w64 (a305.1 + v316)))), (9, .d (.int .i64 q318)), (10, .d (.sl 1 (r18.map (eI .i64)))), (11, .d (.int .i64 (r18.length : Int))), (12, .d (.int .i64 a305.2.2.1)), (28, .d (.bool true))], [(0, .dat 1 [[.sl 1 (r18.map (eI .i64))]]), (1, .dat 1 [[.int .i64 p0]]), (2, .dat 1 [[.int .i64 b31]]), (3, .cel 1 [[.hs 5 1 0 b324.length]]), (4, .loop [(2, .ref 3 1 0 0), (4, .d (.nilsl)), (6, .fn 46 [.ref 0 1 0 0, .ref 1 1 0 0, .ref 2 1 0 0])] [7] A269 B270 .ready none), (5, .dat 1 (b324.map (eI .i64)))], 6⟩) hA269 hB270 rfl rfl rfl rfl rfl rfl ?_ ?_
                      · refine rk_region ?_
                        refine ok_as rfl rfl ?_
                        refine ok_nil ?_
                        refine rk_nil ?_
                        refine ⟨rfl, _, rfl, ?_⟩
                        refine rk_block ?_
                        refine rk_region ?_
                        refine ok_v (.hs 5 1 0 a305.2.2.2.length) rfl rfl ?_
                        refine ok_mv rfl rfl ?_
                        refine ok_new (.hs 6 1 0 [w64 (q318 - a305.2.1)].length) (.dat 1 ([w64 (q318 - a305.2.1)].map (eI .i64))) rfl rfl ?_
                        obtain ⟨z325, h326, h322⟩ := bindE h322
                        refine ok_ap (xs := a305.2.2.2) (ys := [w64 (q318 - a305.2.1)]) (enc := (eI .i64)) (.hs 6 1 0 [w64 (q318 - a305.2.1)].length) h326 rfl rfl rfl rfl rfl rfl rfl (conts_hs rfl rfl) rfl rfl rfl rfl ?_
                        refine ok_sto 3 (.cel 1 [[.hs 7 1 0 z325.length]]) rfl rfl ?_
                        refine ok_nil ?_
                        refine rk_nil ?_
                        refine blk_nor ?_
                        refine rk_nil ?_
                        refine ⟨_, rfl, ?_⟩
                        obtain rfl := someE h322
                        exact ⟨_, rfl, wkE [(5, 7)] [] [] rfl ⟨⟨_, rfl, .yld rfl (by decide) (ltd rfl)⟩, ⟨_, rfl, .ref rfl (by decide) (ltd rfl)⟩, ⟨_, rfl, .ref rfl (by decide) (ltd rfl)⟩, ⟨_, rfl, .d (.refl _)⟩, ⟨_, rfl, .d (.refl _)⟩, ⟨_, rfl, .d (.refl _)⟩, ⟨_, rfl, .d (.refl _)⟩, ⟨_, rfl, .d (.refl _)⟩, ⟨_, rfl, .d (.refl _)⟩, trivial⟩ ⟨⟨ltd rfl, .inr ⟨by decide, _, rfl, .dat _ _⟩⟩, ⟨ltd rfl, .inr ⟨by decide, _, rfl, .dat _ _⟩⟩, ⟨ltd rfl, .inr ⟨by decide, _, rfl, .dat _ _⟩⟩, ⟨ltd rfl, .inr ⟨by decide, _, rfl, wb_cel1 (.cons (.hs rfl (by decide) (ltd rfl)) rfl .nil)⟩⟩, ⟨ltd rfl, .inr ⟨by decide, _, rfl, wb_loopS (.cons rfl (.ref rfl (by decide) (ltd rfl)) (.cons rfl (.d (.refl _)) (.cons rfl ((wv_fn (.cons (.ref rfl (by decide) (ltd rfl)) (.cons (.ref rfl (by decide) (ltd rfl)) (.cons (.ref rfl (by decide) (ltd rfl)) .nil))))) .nil)))⟩⟩, ⟨ltd rfl, .inr ⟨by decide, _, rfl, .dat _ _⟩⟩, trivial⟩⟩
                      · intro b324 hb
                        subst hb
                        refine ok_v (.d (.bool (!true))) rfl rfl ?_
                        refine ok_nil ?_
                        refine rk_condH rfl h304 (fun _ h304 => ?_) (fun _ h304 => ?_)
                        · refine rk_ret ?_
                          refine ⟨_, (Option.some.inj h304).symm, fun hm => ?_⟩
                          subst hm
                          refine ⟨.inr rfl, _, rfl, _, _, .nor, rfl, by decide, ?_⟩
                          refine after_nor ?_
                          refine rk_nil ?_
                          obtain rfl := someE h266
                          exact ⟨_, rfl, wkE [(3, 3), (4, 5)] [] [] rfl ⟨⟨_, rfl, .ref rfl (by decide) (ltd rfl)⟩, trivial⟩ ⟨⟨ltd rfl, .inr ⟨by decide, _, rfl, .dat _ _⟩⟩, ⟨ltd rfl, .inr ⟨by decide, _, rfl, .dat _ _⟩⟩, ⟨ltd rfl, .inr ⟨by decide, _, rfl, .dat _ _⟩⟩, ⟨ltd rfl, .inr ⟨by decide, _, rfl, wb_cel1 (.cons (.hs rfl (by decide) (ltd rfl)) rfl .nil)⟩⟩, ⟨ltd rfl, .inr ⟨by decide, _, rfl, .dat _ _⟩⟩, trivial⟩⟩
                        · refine rk_skip ?_
                          refine rk_region ?_
                          refine ok_mv rfl rfl ?_
                          refine ok_as rfl rfl ?_
                          refine ok_nil ?_
                          refine rk_nil ?_
                          refine blk_nor ?_
                          refine rk_region ?_
                          refine ok_v (.d (.int .i64 (w64 (a305.2.2.1 + 1)))) rfl rfl ?_
                          refine ok_mv rfl rfl ?_
                          refine ok_nil ?_
                          refine rk_nil ?_
                          exact ⟨_, (Option.some.inj h304).symm, wkE [(5, 5)] [] [] rfl ⟨⟨_, rfl, .yld rfl (by decide) (ltd rfl)⟩, ⟨_, rfl, .ref rfl (by decide) (ltd rfl)⟩, ⟨_, rfl, .ref rfl (by decide) (ltd rfl)⟩, ⟨_, rfl, .d (.refl _)⟩, ⟨_, rfl, .d (.refl _)⟩, ⟨_, rfl, .d (.refl _)⟩, ⟨_, rfl, .d (.refl _)⟩, ⟨_, rfl, .d (.refl _)⟩, trivial⟩ ⟨⟨ltd rfl, .inr ⟨by decide, _, rfl, .dat _ _⟩⟩, ⟨ltd rfl, .inr ⟨by decide, _, rfl, .dat _ _⟩⟩, ⟨ltd rfl, .inr ⟨by decide, _, rfl, .dat _ _⟩⟩, ⟨ltd rfl, .inr ⟨by decide, _, rfl, wb_cel1 (.cons (.hs rfl (by decide) (ltd rfl)) rfl .nil)⟩⟩, ⟨ltd rfl, .inr ⟨by decide, _, rfl, wb_loopS (.cons rfl (.ref rfl (by decide) (ltd rfl)) (.cons rfl (.d (.refl _)) (.cons rfl ((wv_fn (.cons (.ref rfl (by decide) (ltd rfl)) (.cons (.ref rfl (by decide) (ltd rfl)) (.cons (.ref rfl (by decide) (ltd rfl)) .nil))))) .nil)))⟩⟩, ⟨ltd rfl, .inr ⟨by decide, _, rfl, .dat _ _⟩⟩, trivial⟩⟩
                    · refine rk_exit ?_
                      refine ⟨_, (Option.some.inj h304).symm, fun hm => ?_⟩
                      subst hm
                      refine ⟨.inl rfl, _, rfl, _, _, .nor, rfl, by decide, ?_⟩
                      refine after_nor ?_
                      refine rk_nil ?_
                      obtain rfl := someE h266
                      exact ⟨_, rfl, wkE [(3, 3), (4, 5)] [] [] rfl ⟨⟨_, rfl, .ref rfl (by decide) (ltd rfl)⟩, trivial⟩ ⟨⟨ltd rfl, .inr ⟨by decide, _, rfl, .dat _ _⟩⟩, ⟨ltd rfl, .inr ⟨by decide, _, rfl, .dat _ _⟩⟩, ⟨ltd rfl, .inr ⟨by decide, _, rfl, .dat _ _⟩⟩, ⟨ltd rfl, .inr ⟨by decide, _, rfl, wb_cel1 (.cons (.hs rfl (by decide) (ltd rfl)) rfl .nil)⟩⟩, ⟨ltd rfl, .inr ⟨by decide, _, rfl, .dat _ _⟩⟩, trivial⟩⟩
                  · intro b268 st hb hw
                    subst hb
                    refine rk_wk hw ?_ (by simp)
                    refine rk_seq ?_
                    refine rk_region ?_
                    refine ok_v (.hs 4 1 0 b268.length) rfl rfl ?_
                    refine ok_as rfl rfl ?_
                    refine ok_nil ?_
                    refine rk_ret ?_
                    refine ⟨.inr rfl, _, rfl, ?_⟩
                    obtain rfl := someE h194
                    exact ⟨_, rfl, wkE [(3, 4)] [] [] rfl ⟨⟨_, rfl, .hs rfl (by decide) (ltd rfl)⟩, trivial⟩ ⟨⟨ltd rfl, .inr ⟨by decide, _, rfl, .dat _ _⟩⟩, ⟨ltd rfl, .inr ⟨by decide, _, rfl, .dat _ _⟩⟩, ⟨ltd rfl, .inr ⟨by decide, _, rfl, .dat _ _⟩⟩, ⟨ltd rfl, .inr ⟨by decide, _, rfl, .dat _ _⟩⟩, trivial⟩⟩
                · intro b196 hb
                  subst hb
                  refine ok_as rfl rfl ?_
                  refine ok_nil ?_
                  refine rk_ret ?_
                  refine ⟨.inr rfl, _, rfl, ?_⟩
                  obtain rfl := someE h121
                  exact ⟨_, rfl, wkE [(0, 3)] [] [] rfl ⟨⟨_, rfl, .hs rfl (by decide) (ltd rfl)⟩, trivial⟩ ⟨⟨ltd rfl, .inr ⟨by decide, _, rfl, .dat _ _⟩⟩, trivial⟩⟩
              · intro b123 hb
                subst hb
                refine ok_as rfl rfl ?_
                refine ok_as rfl rfl ?_
                refine ok_nil ?_
                refine rk_ret ?_
                obtain rfl := someE h0
                exact finD (.inr rfl) (v := .tup [.hs 0 1 0 b123.length, .d (.int .i64 0)]) rfl (td_tup (mm_cons (td_hs rfl rfl) (mm_cons rfl rfl))) (.refl _)

theorem r23_Repeat_ok (p0 : Int) (p1 : Int) (r : List Int × Int) (h0 : r23_Repeat p0 p1 = some r) : Pure Try.prog tab 19 [.int .i64 p0, .int .i64 p1] (.tup [.sl 1 (r.1.map (eI .i64)), .int .i64 r.2]) := by
  unfold r23_Repeat at h0
  refine pure_of_run Try.func19 rfl (by kernel_rfl) (by kernel_rfl) rfl ?_
  refine rk_seq ?_
  refine rk_region ?_
  refine ok_as rfl rfl ?_
  refine ok_as rfl rfl ?_
  refine ok_nil ?_
  refine rk_seq ?_
  refine rk_seq ?_
  refine rk_region ?_
  refine ok_mv rfl rfl ?_
  refine ok_v (.d (.bool (decide (p0 < 0)))) rfl rfl ?_
  obtain ⟨c1, h2, h0⟩ := bindE h0
  refine ok_cutQ 4 (fun A st => ∃ (j3 j4 j5 : V), st = A [(14, .d (.bool c1)), (13, j5), (12, j4), (11, j3)]) ?_ ?_
  · refine ok_mvB rfl rfl h2 (fun h2 => ?_) (fun h2 => ?_)
    · refine ok_sg rfl ?_
      refine ok_sg rfl ?_
      refine ok_v (.d (.bool true)) rfl rfl ?_
      refine ok_nil ?_
      obtain rfl := someE h2
      exact ⟨_, _, _, rfl⟩
    · refine ok_mv rfl rfl ?_
      refine ok_v (.d (.bool (decide (p0 > 1000000)))) rfl rfl ?_
      refine ok_v (.d (.bool (decide (p0 > 1000000)))) rfl rfl ?_
      refine ok_nil ?_
      obtain rfl := someE h2
      exact ⟨_, _, _, rfl⟩
  · rintro _ ⟨j3, j4, j5, rfl⟩
    obtain ⟨c6, h7, h0⟩ := bindE h0
    refine ok_cutQ 4 (fun A st => ∃ (j8 j9 j10 : V), st = A [(18, .d (.bool c6)), (17, j10), (16, j9), (15, j8)]) ?_ ?_
    · refine ok_mvB rfl rfl h7 (fun h7 => ?_) (fun h7 => ?_)
      · refine ok_sg rfl ?_
        refine ok_sg rfl ?_
        refine ok_v (.d (.bool true)) rfl rfl ?_
        refine ok_nil ?_
        obtain rfl := someE h7
        exact ⟨_, _, _, rfl⟩
      · refine ok_mv rfl rfl ?_
        refine ok_v (.d (.bool (decide (p1 < 1)))) rfl rfl ?_
        refine ok_v (.d (.bool (decide (p1 < 1)))) rfl rfl ?_
        refine ok_nil ?_
        obtain rfl := someE h7
        exact ⟨_, _, _, rfl⟩
    · rintro _ ⟨j8, j9, j10, rfl⟩
      obtain ⟨c11, h12, h0⟩ := bindE h0
      refine ok_cutQ 4 (fun A st => ∃ (j13 j14 j15 : V), st = A [(22, .d (.bool c11)), (21, j15), (20, j14), (19, j13)]) ?_ ?_
      · refine ok_mvB rfl rfl h12 (fun h12 => ?_) (fun h12 => ?_)
        · refine ok_sg rfl ?_
          refine ok_sg rfl ?_
          refine ok_v (.d (.bool true)) rfl rfl ?_
          refine ok_nil ?_
          obtain rfl := someE h12
          exact ⟨_, _, _, rfl⟩
        · refine ok_mv rfl rfl ?_
          refine ok_v (.d (.bool (decide (p1 > 1000000)))) rfl rfl ?_
          refine ok_v (.d (.bool (decide (p1 > 1000000)))) rfl rfl ?_
          refine ok_nil ?_
          obtain rfl := someE h12
          exact ⟨_, _, _, rfl⟩
      · rintro _ ⟨j13, j14, j15, rfl⟩
        refine ok_nil ?_
        refine rk_condH rfl h0 (fun _ h0 => ?_) (fun _ h0 => ?_)
        · refine rk_seq ?_
          refine rk_region ?_
          refine ok_as rfl rfl ?_
          refine ok_as rfl rfl ?_
          refine ok_nil ?_
          refine rk_ret ?_
          obtain rfl := someE h0
          exact finD (.inr rfl) (v := .d (.tup [.nilsl, .int .i64 2])) rfl rfl (dle_tup (.cons (.nil _) (.cons (.refl _) .nil)))
        · refine rk_skip ?_
          refine rk_seq ?_
          refine rk_region ?_
          refine ok_mv rfl rfl ?_
          refine ok_mv rfl rfl ?_
          obtain ⟨q16, h17, h0⟩ := bindE h0
          refine ok_quo h17 rfl rfl rfl ?_
          refine ok_as rfl rfl ?_
          refine ok_nil ?_
          refine rk_seq ?_
          refine rk_seq ?_
          refine rk_region ?_
          refine ok_mv rfl rfl ?_
          refine ok_mv rfl rfl ?_
          refine ok_mv rfl rfl ?_
          refine ok_v (.d (.int .i64 (w64 (q16 * p1)))) rfl rfl ?_
          refine ok_v (.d (.int .i64 (w64 (p0 - (w64 (q16 * p1)))))) rfl rfl ?_
          refine ok_v (.d (.int .i64 (w64 (2 * (w64 (p0 - (w64 (q16 * p1)))))))) rfl rfl ?_
          refine ok_mv rfl rfl ?_
          refine ok_v (.d (.bool (decide ((w64 (2 * (w64 (p0 - (w64 (q16 * p1)))))) ≥ p1)))) rfl rfl ?_
          refine ok_nil ?_
          obtain ⟨m19, h18, h0⟩ := bindE h0
          refine rk_cut (fun b20 => b20 = m19) (fun (b20 : Int) => ⟨[(0, .d (.int .i64 p0)), (6, .d (.int .i64 b20))], [], 0⟩) (by simp) ?_ ?_
          · refine rk_condH rfl h18 (fun _ h18 => ?_) (fun _ h18 => ?_)
            · refine rk_region ?_
              refine ok_mv rfl rfl ?_
              refine ok_v (.d (.int .i64 (w64 (q16 + 1)))) rfl rfl ?_
              refine ok_as rfl rfl ?_
              refine ok_nil ?_
              refine rk_nil ?_
              obtain rfl := someE h18
              exact ⟨_, rfl, wkE [] [] [] rfl ⟨⟨_, rfl, .d (.refl _)⟩, ⟨_, rfl, .d (.refl _)⟩, trivial⟩ trivial⟩
            · refine rk_skip ?_
              refine rk_nil ?_
              obtain rfl := someE h18
              exact ⟨_, rfl, wkE [] [] [] rfl ⟨⟨_, rfl, .d (.refl _)⟩, ⟨_, rfl, .d (.refl _)⟩, trivial⟩ trivial⟩
          · intro b20 hb
            subst hb
            refine rk_seq ?_
            refine rk_seq ?_
            refine rk_region ?_
            refine ok_mv rfl rfl ?_
            refine ok_v (.d (.bool (b20 == 0))) rfl rfl ?_
            refine ok_nil ?_
            obtain ⟨m22, h21, h0⟩ := bindE h0
            refine rk_cut (fun b23 => b23 = m22) (fun (b23 : Int) => ⟨[(0, .d (.int .i64 p0)), (6, .d (.int .i64 b23))], [], 0⟩) (by simp) ?_ ?_
            · refine rk_condH rfl h21 (fun _ h21 => ?_) (fun _ h21 => ?_)
              · refine rk_region ?_
                refine ok_as rfl rfl ?_
                refine ok_nil ?_
                refine rk_nil ?_
                obtain rfl := someE h21
                exact ⟨_, rfl, wkE [] [] [] rfl ⟨⟨_, rfl, .d (.refl _)⟩, ⟨_, rfl, .d (.refl _)⟩, trivial⟩ trivial⟩
              · refine rk_skip ?_
                refine rk_nil ?_
                obtain rfl := someE h21
                exact ⟨_, rfl, wkE [] [] [] rfl ⟨⟨_, rfl, .d (.refl _)⟩, ⟨_, rfl, .d (.refl _)⟩, trivial⟩ trivial⟩
            · intro b23 hb
              subst hb
              refine rk_seq ?_
              refine rk_seq ?_
              refine rk_region ?_
              refine ok_mv rfl rfl ?_
              refine ok_v (.d (.bool (decide (b23 > 200)))) rfl rfl ?_
              refine ok_nil ?_
              refine rk_condH rfl h0 (fun _ h0 => ?_) (fun _ h0 => ?_)
              · refine rk_seq ?_
                refine rk_region ?_
                refine ok_as rfl rfl ?_
                refine ok_as rfl rfl ?_
                refine ok_nil ?_
                refine rk_ret ?_
                obtain rfl := someE h0
                exact finD (.inr rfl) (v := .d (.tup [.nilsl, .int .i64 4])) rfl rfl (dle_tup (.cons (.nil _) (.cons (.refl _) .nil)))
              · refine rk_skip ?_
                refine rk_seq ?_
                refine rk_region ?_
                refine ok_as rfl rfl ?_
                refine ok_nil ?_
                refine rk_seq ?_
                refine rk_seq ?_
                refine rk_region ?_
                refine ok_as rfl rfl ?_
                refine ok_nil ?_
                obtain ⟨m51, h52, h0⟩ := bindE h0
                refine rk_blockcut (fun b53 => b53 = m51) (fun (b53 : List Int) => ⟨[(7, .hs 0 1 0 b53.length)], [(0, .dat 1 (b53.map (eI .i64)))], 1⟩) (by simp) ?_ ?_
                · refine rk_loopF (r23_Repeat_L1 b23 p0) (fun (a50 : Int × List Int) => ⟨[(0, .d (.int .i64 p0)), (6, .d (.int .i64 b23)), (7, .hs 0 1 0 a50.2.length), (8, .d (.int .i64 a50.1))], [(0, .dat 1 (a50.2.map (eI .i64)))], 1⟩) (1, []) m51 h52 (wkE [] [] [0] rfl ⟨⟨_, rfl, .d (.refl _)⟩, ⟨_, rfl, .d (.refl _)⟩, ⟨_, rfl, .nil (by decide) (ltd rfl)⟩, ⟨_, rfl, .d (.refl _)⟩, trivial⟩ ⟨⟨ltd rfl, .inl ⟨by decide, _, by decide, rfl⟩⟩, trivial⟩) ?_
                  intro a50 y48 h49
                  unfold r23_Repeat_L1 at h49
                  refine rk_seq ?_
                  refine rk_seq ?_
                  refine rk_region ?_
                  refine ok_mv rfl rfl ?_
                  refine ok_mv rfl rfl ?_
                  refine ok_v (.d (.bool (decide (a50.1 ≤ b23)))) rfl rfl ?_
                  refine ok_nil ?_
                  refine rk_condH rfl h49 (fun _ h49 => ?_) (fun _ h49 => ?_)
                  · refine rk_skip ?_
                    refine rk_seq ?_
                    refine rk_block ?_
                    refine rk_regionD (by kernel_rfl) ?_
                    refine ok_mv rfl rfl ?_
                    refine ok_mv rfl rfl ?_
                    refine ok_mv rfl rfl ?_
                    refine ok_v (.d (.int .i64 (w64 (p0 * a50.1)))) rfl rfl ?_
                    refine ok_mv rfl rfl ?_
                    obtain ⟨q60, h61, h49⟩ := bindE h49
                    refine ok_quo h61 rfl rfl rfl ?_
                    refine ok_mv rfl rfl ?_
                    refine ok_mv rfl rfl ?_
                    refine ok_v (.d (.int .i64 (w64 (a50.1 - 1)))) rfl rfl ?_
                    refine ok_v (.d (.int .i64 (w64 (p0 * (w64 (a50.1 - 1)))))) rfl rfl ?_
                    refine ok_mv rfl rfl ?_
                    obtain ⟨q62, h63, h49⟩ := bindE h49
                    refine ok_quo h63 rfl rfl rfl ?_
                    refine ok_v (.d (.int .i64 (w64 (q60 - q62)))) rfl rfl ?_
                    refine ok_new (.hs 1 1 0 [w64 (q60 - q62)].length) (.dat 1 ([w64 (q60 - q62)].map (eI .i64))) rfl rfl ?_
                    obtain ⟨z64, h65, h49⟩ := bindE h49
                    refine ok_ap (xs := a50.2) (ys := [w64 (q60 - q62)]) (enc := (eI .i64)) (.hs 1 1 0 [w64 (q60 - q62)].length) h65 rfl rfl rfl rfl rfl rfl rfl (conts_hs rfl rfl) rfl rfl rfl rfl ?_
                    refine ok_as rfl rfl ?_
                    refine ok_nil ?_
                    refine rk_nil ?_
                    refine blk_nor ?_
                    refine rk_region ?_
                    refine ok_mv rfl rfl ?_
                    refine ok_v (.d (.int .i64 (w64 (a50.1 + 1)))) rfl rfl ?_
                    refine ok_as rfl rfl ?_
                    refine ok_nil ?_
                    refine rk_nil ?_
                    exact ⟨_, (Option.some.inj h49).symm, wkE [(0, 2)] [] [] rfl ⟨⟨_, rfl, .d (.refl _)⟩, ⟨_, rfl, .d (.refl _)⟩, ⟨_, rfl, .hs rfl (by decide) (ltd rfl)⟩, ⟨_, rfl, .d (.refl _)⟩, trivial⟩ ⟨⟨ltd rfl, .inr ⟨by decide, _, rfl, .dat _ _⟩⟩, trivial⟩⟩
                  · refine rk_exit ?_
                    refine ⟨_, (Option.some.inj h49).symm, fun hm => ?_⟩
                    subst hm
                    exact ⟨_, rfl, wkE [(0, 0)] [] [] rfl ⟨⟨_, rfl, .hs rfl (by decide) (ltd rfl)⟩, trivial⟩ ⟨⟨ltd rfl, .inr ⟨by decide, _, rfl, .dat _ _⟩⟩, trivial⟩⟩
                · intro b53 hb
                  subst hb
                  refine rk_seq ?_
                  refine rk_region ?_
                  refine ok_mv rfl rfl ?_
                  refine ok_as rfl rfl ?_
                  refine ok_as rfl rfl ?_
                  refine ok_nil ?_
                  refine rk_ret ?_
                  obtain rfl := someE h0
                  exact finD (.inr rfl) (v := .tup [.hs 0 1 0 b53.length, .d (.int .i64 0)]) rfl (td_tup (mm_cons (td_hs rfl rfl) (mm_cons rfl rfl))) (.refl _)

theorem cmp_isNaN_int_ok (p0 : Int) (r : Bool) (h0 : cmp_isNaN_int p0 = some r) : Pure Try.prog tab 68 [.int .i64 p0] (.bool r) := by
  unfold cmp_isNaN_int at h0
  refine pure_of_run Try.func68 rfl (by kernel_rfl) (by kernel_rfl) rfl ?_
  refine rk_seq ?_
  refine rk_region ?_
  refine ok_as rfl rfl ?_
  refine ok_nil ?_
  refine rk_seq ?_
  refine rk_region ?_
  refine ok_mv rfl rfl ?_
  refine ok_mv rfl rfl ?_
  refine ok_v (.d (.bool (p0 != p0))) rfl rfl ?_
  refine ok_as rfl rfl ?_
  refine ok_nil ?_
  refine rk_ret ?_
  obtain rfl := someE h0
  exact finD (.inr rfl) (v := .d (.bool (p0 != p0))) rfl rfl (.refl _)

theorem cmp_Less_int_ok (p0 : Int) (p1 : Int) (r : Bool) (h0 : cmp_Less_int p0 p1 = some r) : Pure Try.prog tab 53 [.int .i64 p0, .int .i64 p1] (.bool r) := by
  unfold cmp_Less_int at h0
  refine pure_of_run Try.func53 rfl (by kernel_rfl) (by kernel_rfl) rfl ?_
  refine rk_seq ?_
  refine rk_region ?_
  refine ok_as rfl rfl ?_
  refine ok_nil ?_
  refine rk_seq ?_
  refine rk_region ?_
  refine ok_mv rfl rfl ?_
  obtain ⟨r1, h2, h0⟩ := bindE h0
  refine ok_pc [.d (.int .i64 p0)] (cmp_isNaN_int_ok p0 r1 h2) rfl rfl rfl (.inl rfl) ?_
  obtain ⟨c5, h6, h0⟩ := bindE h0
  refine ok_cutQ 5 (fun A st => ∃ (j7 j8 j9 j10 : V), st = A [(11, .d (.bool c5)), (10, j10), (9, j9), (8, j8), (7, j7)]) ?_ ?_
  · refine ok_mvB rfl rfl h6 (fun h6 => ?_) (fun h6 => ?_)
    · refine ok_mv rfl rfl ?_
      obtain ⟨r11, h12, h6⟩ := bindE h6
      refine ok_pc [.d (.int .i64 p1)] (cmp_isNaN_int_ok p1 r11 h12) rfl rfl rfl (.inl rfl) ?_
      refine ok_v (.d (.bool (!r11))) rfl rfl ?_
      refine ok_v (.d (.bool (!r11))) rfl rfl ?_
      refine ok_nil ?_
      obtain rfl := someE h6
      exact ⟨_, _, _, _, rfl⟩
    · refine ok_sg rfl ?_
      refine ok_sg rfl ?_
      refine ok_sg rfl ?_
      refine ok_v (.d (.bool false)) rfl rfl ?_
      refine ok_nil ?_
      obtain rfl := someE h6
      exact ⟨_, _, _, _, rfl⟩
  · rintro _ ⟨j7, j8, j9, j10, rfl⟩
    obtain ⟨c13, h14, h0⟩ := bindE h0
    refine ok_cutQ 5 (fun A st => ∃ (j15 j16 j17 j18 : V), st = A [(16, .d (.bool c13)), (15, j18), (14, j17), (13, j16), (12, j15)]) ?_ ?_
    · refine ok_mvB rfl rfl h14 (fun h14 => ?_) (fun h14 => ?_)
      · refine ok_sg rfl ?_
        refine ok_sg rfl ?_
        refine ok_sg rfl ?_
        refine ok_v (.d (.bool true)) rfl rfl ?_
        refine ok_nil ?_
        obtain rfl := someE h14
        exact ⟨_, _, _, _, rfl⟩
      · refine ok_mv rfl rfl ?_
        refine ok_mv rfl rfl ?_
        refine ok_v (.d (.bool (decide (p0 < p1)))) rfl rfl ?_
        refine ok_v (.d (.bool (decide (p0 < p1)))) rfl rfl ?_
        refine ok_nil ?_
        obtain rfl := someE h14
        exact ⟨_, _, _, _, rfl⟩
    · rintro _ ⟨j15, j16, j17, j18, rfl⟩
      refine ok_as rfl rfl ?_
      refine ok_nil ?_
      refine rk_ret ?_
      obtain rfl := someE h0
      exact finD (.inr rfl) (v := .d (.bool c13)) rfl rfl (.refl _)

theorem slices_IsSorted_int_int_ok (p0 : List Int) (r : Bool) (h0 : slices_IsSorted_int_int p0 = some r) : Pure Try.prog tab 38 [.sl 1 (p0.map (eI .i64))] (.bool r) := by
  unfold slices_IsSorted_int_int at h0
  refine pure_of_run Try.func38 rfl (by kernel_rfl) (by kernel_rfl) rfl ?_
  refine rk_seq ?_
  refine rk_region ?_
  refine ok_as rfl rfl ?_
  refine ok_nil ?_
  refine rk_seq ?_
  refine rk_seq ?_
  refine rk_region ?_
  refine ok_mv rfl rfl ?_
  refine ok_ln rfl rfl rfl rfl ?_
  refine ok_v (.d (.int .i64 (w64 ((p0.length : Int) - 1)))) rfl rfl ?_
  refine ok_as rfl rfl ?_
  refine ok_nil ?_
  obtain ⟨m28, h29, h0⟩ := bindE h0
  refine rk_blockcut (fun b30 => .inl b30 = m28) (fun (b30 : Unit) => ⟨[], [], 0⟩) (by simp) ?_ ?_
  · refine rk_loopF (slices_IsSorted_int_int_L1 p0) (fun (a27 : Int) => ⟨[(0, .d (.sl 1 (p0.map (eI .i64)))), (3, .d (.int .i64 a27))], [], 0⟩) (w64 ((p0.length : Int) - 1)) m28 h29 (wkE [] [] [] rfl ⟨⟨_, rfl, .d (.refl _)⟩, ⟨_, rfl, .d (.refl _)⟩, trivial⟩ trivial) ?_
    intro a27 y25 h26
    unfold slices_IsSorted_int_int_L1 at h26
    refine rk_seq ?_
    refine rk_seq ?_
    refine rk_region ?_
    refine ok_mv rfl rfl ?_
    refine ok_v (.d (.bool (decide (a27 > 0)))) rfl rfl ?_
    refine ok_nil ?_
    refine rk_condH rfl h26 (fun _ h26 => ?_) (fun _ h26 => ?_)
    · refine rk_skip ?_
      refine rk_seq ?_
      refine rk_block ?_
      refine rk_seq ?_
      refine rk_regionD (by kernel_rfl) ?_
      refine ok_mv rfl rfl ?_
      refine ok_mv rfl rfl ?_
      obtain ⟨v37, h38, h26⟩ := bindE h26
      refine ok_ix (enc := (eI .i64)) h38 rfl rfl rfl rfl rfl rfl ?_
      refine ok_v (.d (.int .i64 v37)) rfl rfl ?_
      refine ok_mv rfl rfl ?_
      refine ok_mv rfl rfl ?_
      refine ok_v (.d (.int .i64 (w64 (a27 - 1)))) rfl rfl ?_
      obtain ⟨v39, h40, h26⟩ := bindE h26
      refine ok_ix (enc := (eI .i64)) h40 rfl rfl rfl rfl rfl rfl ?_
      refine ok_v (.d (.int .i64 v39)) rfl rfl ?_
      obtain ⟨r41, h42, h26⟩ := bindE h26
      refine ok_pc [.d (.int .i64 v37), .d (.int .i64 v39)] (cmp_Less_int_ok v37 v39 r41 h42) rfl rfl rfl (.inl rfl) ?_
      refine ok_nil ?_
      refine rk_condH rfl h26 (fun _ h26 => ?_) (fun _ h26 => ?_)
      · refine rk_seq ?_
        refine rk_region ?_
        refine ok_as rfl rfl ?_
        refine ok_nil ?_
        refine rk_ret ?_
        refine ⟨_, (Option.some.inj h26).symm, fun hm => ?_⟩
        subst hm
        obtain rfl := someE h0
        exact finD (.inr rfl) (v := .d (.bool false)) rfl rfl (.refl _)
      · refine rk_skip ?_
        refine rk_nil ?_
        refine blk_nor ?_
        refine rk_region ?_
        refine ok_mv rfl rfl ?_
        refine ok_v (.d (.int .i64 (w64 (a27 - 1)))) rfl rfl ?_
        refine ok_as rfl rfl ?_
        refine ok_nil ?_
        refine rk_nil ?_
        exact ⟨_, (Option.some.inj h26).symm, wkE [] [] [] rfl ⟨⟨_, rfl, .d (.refl _)⟩, ⟨_, rfl, .d (.refl _)⟩, trivial⟩ trivial⟩
    · refine rk_exit ?_
      refine ⟨_, (Option.some.inj h26).symm, fun hm => ?_⟩
      subst hm
      exact ⟨_, rfl, wkE [] [] [] rfl trivial trivial⟩
  · intro b30 hb
    subst hb
    refine rk_seq ?_
    refine rk_region ?_
    refine ok_as rfl rfl ?_
    refine ok_nil ?_
    refine rk_ret ?_
    obtain rfl := someE h0
    exact finD (.inr rfl) (v := .d (.bool true)) rfl rfl (.refl _)

theorem split_At_ok (p0 : List Int) (p1 : Int) (r : Int × Int) (h0 : split_At p0 p1 = some r) : Pure Try.prog tab 20 [.sl 1 (p0.map (eI .i64)), .int .i64 p1] (.tup [.int .i64 r.1, .int .i64 r.2]) := by
  unfold split_At at h0
  refine pure_of_run Try.func20 rfl (by kernel_rfl) (by kernel_rfl) rfl ?_
  refine rk_seq ?_
  refine rk_region ?_
  refine ok_as rfl rfl ?_
  refine ok_as rfl rfl ?_
  refine ok_nil ?_
  refine rk_seq ?_
  refine rk_seq ?_
  refine rk_region ?_
  refine ok_mv rfl rfl ?_
  refine ok_ln rfl rfl rfl rfl ?_
  refine ok_v (.d (.bool ((p0.length : Int) == 0))) rfl rfl ?_
  obtain ⟨c3, h4, h0⟩ := bindE h0
  refine ok_cutQ 6 (fun A st => ∃ (j5 j6 j7 j8 j9 : V), st = A [(15, .d (.bool c3)), (14, j9), (13, j8), (12, j7), (11, j6), (10, j5)]) ?_ ?_
  · refine ok_mvB rfl rfl h4 (fun h4 => ?_) (fun h4 => ?_)
    · refine ok_sg rfl ?_
      refine ok_sg rfl ?_
      refine ok_sg rfl ?_
      refine ok_sg rfl ?_
      refine ok_v (.d (.bool true)) rfl rfl ?_
      refine ok_nil ?_
      obtain rfl := someE h4
      exact ⟨_, _, _, _, _, rfl⟩
    · refine ok_mv rfl rfl ?_
      obtain ⟨v10, h11, h4⟩ := bindE h4
      refine ok_ix (enc := (eI .i64)) h11 rfl rfl rfl rfl rfl rfl ?_
      refine ok_v (.d (.int .i64 v10)) rfl rfl ?_
      refine ok_v (.d (.bool (v10 != 0))) rfl rfl ?_
      refine ok_v (.d (.bool (v10 != 0))) rfl rfl ?_
      refine ok_nil ?_
      obtain rfl := someE h4
      exact ⟨_, _, _, _, _, rfl⟩
  · rintro _ ⟨j5, j6, j7, j8, j9, rfl⟩
    obtain ⟨c14, h15, h0⟩ := bindE h0
    refine ok_cutQ 5 (fun A st => ∃ (j16 j17 j18 j19 : V), st = A [(20, .d (.bool c14)), (19, j19), (18, j18), (17, j17), (16, j16)]) ?_ ?_
    · refine ok_mvB rfl rfl h15 (fun h15 => ?_) (fun h15 => ?_)
      · refine ok_sg rfl ?_
        refine ok_sg rfl ?_
        refine ok_sg rfl ?_
        refine ok_v (.d (.bool true)) rfl rfl ?_
        refine ok_nil ?_
        obtain rfl := someE h15
        exact ⟨_, _, _, _, rfl⟩
      · refine ok_mv rfl rfl ?_
        obtain ⟨r20, h21, h15⟩ := bindE h15
        refine ok_pc [.d (.sl 1 (p0.map (eI .i64)))] (slices_IsSorted_int_int_ok p0 r20 h21) rfl rfl rfl (.inl rfl) ?_
        refine ok_v (.d (.bool (!r20))) rfl rfl ?_
        refine ok_v (.d (.bool (!r20))) rfl rfl ?_
        refine ok_nil ?_
        obtain rfl := someE h15
        exact ⟨_, _, _, _, rfl⟩
    · rintro _ ⟨j16, j17, j18, j19, rfl⟩
      refine ok_nil ?_
      refine rk_condH rfl h0 (fun _ h0 => ?_) (fun _ h0 => ?_)
      · refine rk_seq ?_
        refine rk_region ?_
        refine ok_as rfl rfl ?_
        refine ok_as rfl rfl ?_
        refine ok_nil ?_
        refine rk_ret ?_
        obtain rfl := someE h0
        exact finD (.inr rfl) (v := .d (.tup [.int .i64 0, .int .i64 8])) rfl rfl (.refl _)
      · refine rk_skip ?_
        refine rk_seq ?_
        refine rk_seq ?_
        refine rk_region ?_
        refine ok_mv rfl rfl ?_
        obtain ⟨z22, h23, h0⟩ := bindE h0
        refine ok_slc (enc := (eI .i64)) h23 rfl rfl rfl rfl rfl (bound_v rfl) (fun _ => rfl) ?_
        refine ok_ln rfl rfl rfl rfl ?_
        refine ok_mv rfl rfl ?_
        refine ok_nil ?_
        obtain ⟨m91, h92, h0⟩ := bindE h0
        refine rk_blockcut (fun b93 => .inl b93 = m91) (fun (b93 : Unit) => ⟨[], [], 0⟩) (by simp) ?_ ?_
        · refine rk_loopF (split_At_L1 z22 p0 p1) (fun (a90 : Int) => ⟨[(0, .d (.sl 1 (p0.map (eI .i64)))), (1, .d (.int .i64 p1)), (23, .d (.int .i64 (z22.length : Int))), (24, .d (.int .i64 a90))], [], 0⟩) 0 m91 h92 (wkE [] [] [] rfl ⟨⟨_, rfl, .d (.refl _)⟩, ⟨_, rfl, .d (.refl _)⟩, ⟨_, rfl, .d (.refl _)⟩, ⟨_, rfl, .d (.refl _)⟩, trivial⟩ trivial) ?_
          intro a90 y88 h89
          unfold split_At_L1 at h89
          refine rk_seq ?_
          refine rk_region ?_
          refine ok_v (.d (.bool (decide (a90 < (z22.length : Int))))) rfl rfl ?_
          refine ok_nil ?_
          refine rk_seq ?_
          refine rk_condH rfl h89 (fun _ h89 => ?_) (fun _ h89 => ?_)
          · refine rk_skip ?_
            refine rk_seq ?_
            refine rk_block ?_
            refine rk_seq ?_
            refine rk_region ?_
            refine ok_mv rfl rfl ?_
            refine ok_as rfl rfl ?_
            refine ok_nil ?_
            refine rk_seq ?_
            refine rk_region ?_
            refine ok_mv rfl rfl ?_
            refine ok_mv rfl rfl ?_
            obtain ⟨v110, h111, h89⟩ := bindE h89
            refine ok_ix (enc := (eI .i64)) h111 rfl rfl rfl rfl rfl rfl ?_
            refine ok_v (.d (.int .i64 v110)) rfl rfl ?_
            refine ok_mv rfl rfl ?_
            refine ok_v (.d (.bool (decide (v110 ≤ p1)))) rfl rfl ?_
            obtain ⟨c114, h115, h89⟩ := bindE h89
            refine ok_cutQ 9 (fun A st => ∃ (j116 j117 j118 j119 j120 j121 j122 j123 : V), st = A [(41, .d (.bool c114)), (40, j123), (39, j122), (38, j121), (37, j120), (36, j119), (35, j118), (34, j117), (33, j116)]) ?_ ?_
            · refine ok_mvB rfl rfl h115 (fun h115 => ?_) (fun h115 => ?_)
              · refine ok_mv rfl rfl ?_
                refine ok_mv rfl rfl ?_
                refine ok_mv rfl rfl ?_
                refine ok_v (.d (.int .i64 (w64 (a90 + 1)))) rfl rfl ?_
                obtain ⟨v124, h125, h115⟩ := bindE h115
                refine ok_ix (enc := (eI .i64)) h125 rfl rfl rfl rfl rfl rfl ?_
                refine ok_v (.d (.int .i64 v124)) rfl rfl ?_
                refine ok_v (.d (.bool (decide (p1 < v124)))) rfl rfl ?_
                refine ok_v (.d (.bool (decide (p1 < v124)))) rfl rfl ?_
                refine ok_nil ?_
                obtain rfl := someE h115
                exact ⟨_, _, _, _, _, _, _, _, rfl⟩
              · refine ok_sg rfl ?_
                refine ok_sg rfl ?_
                refine ok_sg rfl ?_
                refine ok_sg rfl ?_
                refine ok_sg rfl ?_
                refine ok_sg rfl ?_
                refine ok_sg rfl ?_
                refine ok_v (.d (.bool false)) rfl rfl ?_
                refine ok_nil ?_
                obtain rfl := someE h115
                exact ⟨_, _, _, _, _, _, _, _, rfl⟩
            · rintro _ ⟨j116, j117, j118, j119, j120, j121, j122, j123, rfl⟩
              refine ok_nil ?_
              refine rk_condH rfl h89 (fun _ h89 => ?_) (fun _ h89 => ?_)
              · refine rk_seq ?_
                refine rk_region ?_
                refine ok_mv rfl rfl ?_
                refine ok_as rfl rfl ?_
                refine ok_as rfl rfl ?_
                refine ok_nil ?_
                refine rk_ret ?_
                refine ⟨_, (Option.some.inj h89).symm, fun hm => ?_⟩
                subst hm
                obtain rfl := someE h0
                exact finD (.inr rfl) (v := .d (.tup [.int .i64 a90, .int .i64 0])) rfl rfl (.refl _)
              · refine rk_skip ?_
                refine rk_nil ?_
                refine blk_nor ?_
                refine rk_region ?_
                refine ok_v (.d (.int .i64 (w64 (a90 + 1)))) rfl rfl ?_
                refine ok_mv rfl rfl ?_
                refine ok_nil ?_
                refine rk_nil ?_
                exact ⟨_, (Option.some.inj h89).symm, wkE [] [] [] rfl ⟨⟨_, rfl, .d (.refl _)⟩, ⟨_, rfl, .d (.refl _)⟩, ⟨_, rfl, .d (.refl _)⟩, ⟨_, rfl, .d (.refl _)⟩, trivial⟩ trivial⟩
          · refine rk_exit ?_
            refine ⟨_, (Option.some.inj h89).symm, fun hm => ?_⟩
            subst hm
            exact ⟨_, rfl, wkE [] [] [] rfl trivial trivial⟩
        · intro b93 hb
          subst hb
          refine rk_seq ?_
          refine rk_region ?_
          refine ok_as rfl rfl ?_
          refine ok_as rfl rfl ?_
          refine ok_nil ?_
          refine rk_ret ?_
          obtain rfl := someE h0
          exact finD (.inr rfl) (v := .d (.tup [.int .i64 0, .int .i64 2])) rfl rfl (.refl _)

theorem r23_At_ok (p0 : List Int) (p1 : Int) (r : Int × Int) (h0 : r23_At p0 p1 = some r) : Pure Try.prog tab 21 [.sl 1 (p0.map (eI .i64)), .int .i64 p1] (.tup [.int .i64 r.1, .int .i64 r.2]) := by
  unfold r23_At at h0
  refine pure_of_run Try.func21 rfl (by kernel_rfl) (by kernel_rfl) rfl ?_
  refine rk_seq ?_
  refine rk_region ?_
  refine ok_as rfl rfl ?_
  refine ok_as rfl rfl ?_
  refine ok_nil ?_
  refine rk_seq ?_
  refine rk_seq ?_
  refine rk_region ?_
  refine ok_mv rfl rfl ?_
  refine ok_ln rfl rfl rfl rfl ?_
  refine ok_v (.d (.bool ((p0.length : Int) == 0))) rfl rfl ?_
  obtain ⟨c3, h4, h0⟩ := bindE h0
  refine ok_cutQ 6 (fun A st => ∃ (j5 j6 j7 j8 j9 : V), st = A [(16, .d (.bool c3)), (15, j9), (14, j8), (13, j7), (12, j6), (11, j5)]) ?_ ?_
  · refine ok_mvB rfl rfl h4 (fun h4 => ?_) (fun h4 => ?_)
    · refine ok_sg rfl ?_
      refine ok_sg rfl ?_
      refine ok_sg rfl ?_
      refine ok_sg rfl ?_
      refine ok_v (.d (.bool true)) rfl rfl ?_
      refine ok_nil ?_
      obtain rfl := someE h4
      exact ⟨_, _, _, _, _, rfl⟩
    · refine ok_mv rfl rfl ?_
      obtain ⟨v10, h11, h4⟩ := bindE h4
      refine ok_ix (enc := (eI .i64)) h11 rfl rfl rfl rfl rfl rfl ?_
      refine ok_v (.d (.int .i64 v10)) rfl rfl ?_
      refine ok_v (.d (.bool (v10 != 0))) rfl rfl ?_
      refine ok_v (.d (.bool (v10 != 0))) rfl rfl ?_
      refine ok_nil ?_
      obtain rfl := someE h4
      exact ⟨_, _, _, _, _, rfl⟩
  · rintro _ ⟨j5, j6, j7, j8, j9, rfl⟩
    refine ok_nil ?_
    refine rk_condH rfl h0 (fun _ h0 => ?_) (fun _ h0 => ?_)
    · refine rk_seq ?_
      refine rk_region ?_
      refine ok_as rfl rfl ?_
      refine ok_as rfl rfl ?_
      refine ok_nil ?_
      refine rk_ret ?_
      obtain rfl := someE h0
      exact finD (.inr rfl) (v := .d (.tup [.int .i64 0, .int .i64 8])) rfl rfl (.refl _)
    · refine rk_skip ?_
      refine rk_seq ?_
      refine rk_seq ?_
      refine rk_region ?_
      refine ok_as rfl rfl ?_
      refine ok_nil ?_
      obtain ⟨m31, h32, h0⟩ := bindE h0
      refine rk_blockcut (fun b33 => .inl b33 = m31) (fun (b33 : Unit) => ⟨[(0, .d (.sl 1 (p0.map (eI .i64)))), (1, .d (.int .i64 p1))], [], 0⟩) (by simp) ?_ ?_
      · refine rk_loopF (r23_At_L1 p0) (fun (a30 : Int) => ⟨[(0, .d (.sl 1 (p0.map (eI .i64)))), (1, .d (.int .i64 p1)), (6, .d (.int .i64 a30))], [], 0⟩) 1 m31 h32 (wkE [] [] [] rfl ⟨⟨_, rfl, .d (.refl _)⟩, ⟨_, rfl, .d (.refl _)⟩, ⟨_, rfl, .d (.refl _)⟩, trivial⟩ trivial) ?_
        intro a30 y28 h29
        unfold r23_At_L1 at h29
        refine rk_seq ?_
        refine rk_seq ?_
        refine rk_region ?_
        refine ok_mv rfl rfl ?_
        refine ok_mv rfl rfl ?_
        refine ok_ln rfl rfl rfl rfl ?_
        refine ok_v (.d (.bool (decide (a30 < (p0.length : Int))))) rfl rfl ?_
        refine ok_nil ?_
        refine rk_condH rfl h29 (fun _ h29 => ?_) (fun _ h29 => ?_)
        · refine rk_skip ?_
          refine rk_seq ?_
          refine rk_block ?_
          refine rk_seq ?_
          refine rk_regionD (by kernel_rfl) ?_
          refine ok_mv rfl rfl ?_
          refine ok_mv rfl rfl ?_
          obtain ⟨v38, h39, h29⟩ := bindE h29
          refine ok_ix (enc := (eI .i64)) h39 rfl rfl rfl rfl rfl rfl ?_
          refine ok_v (.d (.int .i64 v38)) rfl rfl ?_
          refine ok_mv rfl rfl ?_
          refine ok_mv rfl rfl ?_
          refine ok_v (.d (.int .i64 (w64 (a30 - 1)))) rfl rfl ?_
          obtain ⟨v40, h41, h29⟩ := bindE h29
          refine ok_ix (enc := (eI .i64)) h41 rfl rfl rfl rfl rfl rfl ?_
          refine ok_v (.d (.int .i64 v40)) rfl rfl ?_
          refine ok_v (.d (.bool (decide (v38 < v40)))) rfl rfl ?_
          refine ok_nil ?_
          refine rk_condH rfl h29 (fun _ h29 => ?_) (fun _ h29 => ?_)
          · refine rk_seq ?_
            refine rk_region ?_
            refine ok_as rfl rfl ?_
            refine ok_as rfl rfl ?_
            refine ok_nil ?_
            refine rk_ret ?_
            refine ⟨_, (Option.some.inj h29).symm, fun hm => ?_⟩
            subst hm
            obtain rfl := someE h0
            exact finD (.inr rfl) (v := .d (.tup [.int .i64 0, .int .i64 8])) rfl rfl (.refl _)
          · refine rk_skip ?_
            refine rk_nil ?_
            refine blk_nor ?_
            refine rk_region ?_
            refine ok_mv rfl rfl ?_
            refine ok_v (.d (.int .i64 (w64 (a30 + 1)))) rfl rfl ?_
            refine ok_as rfl rfl ?_
            refine ok_nil ?_
            refine rk_nil ?_
            exact ⟨_, (Option.some.inj h29).symm, wkE [] [] [] rfl ⟨⟨_, rfl, .d (.refl _)⟩, ⟨_, rfl, .d (.refl _)⟩, ⟨_, rfl, .d (.refl _)⟩, trivial⟩ trivial⟩
        · refine rk_exit ?_
          refine ⟨_, (Option.some.inj h29).symm, fun hm => ?_⟩
          subst hm
          exact ⟨_, rfl, wkE [] [] [] rfl ⟨⟨_, rfl, .d (.refl _)⟩, ⟨_, rfl, .d (.refl _)⟩, trivial⟩ trivial⟩
      · intro b33 hb
        subst hb
        refine rk_seq ?_
        refine rk_seq ?_
        refine rk_region ?_
        refine ok_as rfl rfl ?_
        refine ok_nil ?_
        obtain ⟨m109, h110, h0⟩ := bindE h0
        refine rk_blockcut (fun b111 => .inl b111 = m109) (fun (b111 : Unit) => ⟨[], [], 0⟩) (by simp) ?_ ?_
        · refine rk_loopF (r23_At_L2 p0 p1) (fun (a108 : Int) => ⟨[(0, .d (.sl 1 (p0.map (eI .i64)))), (1, .d (.int .i64 p1)), (7, .d (.int .i64 a108))], [], 0⟩) 0 m109 h110 (wkE [] [] [] rfl ⟨⟨_, rfl, .d (.refl _)⟩, ⟨_, rfl, .d (.refl _)⟩, ⟨_, rfl, .d (.refl _)⟩, trivial⟩ trivial) ?_
          intro a108 y106 h107
          unfold r23_At_L2 at h107
          refine rk_seq ?_
          refine rk_seq ?_
          refine rk_region ?_
          refine ok_mv rfl rfl ?_
          refine ok_v (.d (.int .i64 (w64 (a108 + 1)))) rfl rfl ?_
          refine ok_mv rfl rfl ?_
          refine ok_ln rfl rfl rfl rfl ?_
          refine ok_v (.d (.bool (decide ((w64 (a108 + 1)) < (p0.length : Int))))) rfl rfl ?_
          refine ok_nil ?_
          refine rk_condH rfl h107 (fun _ h107 => ?_) (fun _ h107 => ?_)
          · refine rk_skip ?_
            refine rk_seq ?_
            refine rk_block ?_
            refine rk_seq ?_
            refine rk_region ?_
            refine ok_mv rfl rfl ?_
            refine ok_mv rfl rfl ?_
            refine ok_mv rfl rfl ?_
            obtain ⟨v128, h129, h107⟩ := bindE h107
            refine ok_ix (enc := (eI .i64)) h129 rfl rfl rfl rfl rfl rfl ?_
            refine ok_v (.d (.int .i64 v128)) rfl rfl ?_
            refine ok_v (.d (.bool (decide (p1 ≥ v128)))) rfl rfl ?_
            obtain ⟨c132, h133, h107⟩ := bindE h107
            refine ok_cutQ 9 (fun A st => ∃ (j134 j135 j136 j137 j138 j139 j140 j141 : V), st = A [(54, .d (.bool c132)), (53, j141), (52, j140), (51, j139), (50, j138), (49, j137), (48, j136), (47, j135), (46, j134)]) ?_ ?_
            · refine ok_mvB rfl rfl h133 (fun h133 => ?_) (fun h133 => ?_)
              · refine ok_mv rfl rfl ?_
                refine ok_mv rfl rfl ?_
                refine ok_mv rfl rfl ?_
                refine ok_v (.d (.int .i64 (w64 (a108 + 1)))) rfl rfl ?_
                obtain ⟨v142, h143, h133⟩ := bindE h133
                refine ok_ix (enc := (eI .i64)) h143 rfl rfl rfl rfl rfl rfl ?_
                refine ok_v (.d (.int .i64 v142)) rfl rfl ?_
                refine ok_v (.d (.bool (decide (p1 < v142)))) rfl rfl ?_
                refine ok_v (.d (.bool (decide (p1 < v142)))) rfl rfl ?_
                refine ok_nil ?_
                obtain rfl := someE h133
                exact ⟨_, _, _, _, _, _, _, _, rfl⟩
              · refine ok_sg rfl ?_
                refine ok_sg rfl ?_
                refine ok_sg rfl ?_
                refine ok_sg rfl ?_
                refine ok_sg rfl ?_
                refine ok_sg rfl ?_
                refine ok_sg rfl ?_
                refine ok_v (.d (.bool false)) rfl rfl ?_
                refine ok_nil ?_
                obtain rfl := someE h133
                exact ⟨_, _, _, _, _, _, _, _, rfl⟩
            · rintro _ ⟨j134, j135, j136, j137, j138, j139, j140, j141, rfl⟩
              refine ok_nil ?_
              refine rk_condH rfl h107 (fun _ h107 => ?_) (fun _ h107 => ?_)
              · refine rk_seq ?_
                refine rk_region ?_
                refine ok_mv rfl rfl ?_
                refine ok_as rfl rfl ?_
                refine ok_as rfl rfl ?_
                refine ok_nil ?_
                refine rk_ret ?_
                refine ⟨_, (Option.some.inj h107).symm, fun hm => ?_⟩
                subst hm
                obtain rfl := someE h0
                exact finD (.inr rfl) (v := .d (.tup [.int .i64 a108, .int .i64 0])) rfl rfl (.refl _)
              · refine rk_skip ?_
                refine rk_nil ?_
                refine blk_nor ?_
                refine rk_region ?_
                refine ok_mv rfl rfl ?_
                refine ok_v (.d (.int .i64 (w64 (a108 + 1)))) rfl rfl ?_
                refine ok_as rfl rfl ?_
                refine ok_nil ?_
                refine rk_nil ?_
                exact ⟨_, (Option.some.inj h107).symm, wkE [] [] [] rfl ⟨⟨_, rfl, .d (.refl _)⟩, ⟨_, rfl, .d (.refl _)⟩, ⟨_, rfl, .d (.refl _)⟩, trivial⟩ trivial⟩
          · refine rk_exit ?_
            refine ⟨_, (Option.some.inj h107).symm, fun hm => ?_⟩
            subst hm
            exact ⟨_, rfl, wkE [] [] [] rfl trivial trivial⟩
        · intro b111 hb
          subst hb
          refine rk_seq ?_
          refine rk_region ?_
          refine ok_as rfl rfl ?_
          refine ok_as rfl rfl ?_
          refine ok_nil ?_
          refine rk_ret ?_
          obtain rfl := someE h0
          exact finD (.inr rfl) (v := .d (.tup [.int .i64 0, .int .i64 2])) rfl rfl (.refl _)

theorem r23_Same_ok (p0 : List Int) (p1 : List Int) (r : Bool) (h0 : r23_Same p0 p1 = some r) : Pure Try.prog tab 15 [.sl 1 (p0.map (eI .i64)), .sl 1 (p1.map (eI .i64))] (.bool r) := by
  unfold r23_Same at h0
  refine pure_of_run Try.func15 rfl (by kernel_rfl) (by kernel_rfl) rfl ?_
  refine rk_seq ?_
  refine rk_region ?_
  refine ok_as rfl rfl ?_
  refine ok_nil ?_
  refine rk_seq ?_
  refine rk_seq ?_
  refine rk_region ?_
  refine ok_mv rfl rfl ?_
  refine ok_ln rfl rfl rfl rfl ?_
  refine ok_mv rfl rfl ?_
  refine ok_ln rfl rfl rfl rfl ?_
  refine ok_v (.d (.bool ((p0.length : Int) != (p1.length : Int)))) rfl rfl ?_
  refine ok_nil ?_
  refine rk_condH rfl h0 (fun _ h0 => ?_) (fun _ h0 => ?_)
  · refine rk_seq ?_
    refine rk_region ?_
    refine ok_as rfl rfl ?_
    refine ok_nil ?_
    refine rk_ret ?_
    obtain rfl := someE h0
    exact finD (.inr rfl) (v := .d (.bool false)) rfl rfl (.refl _)
  · refine rk_skip ?_
    refine rk_seq ?_
    refine rk_seq ?_
    refine rk_region ?_
    refine ok_as rfl rfl ?_
    refine ok_nil ?_
    obtain ⟨m20, h21, h0⟩ := bindE h0
    refine rk_blockcut (fun b22 => .inl b22 = m20) (fun (b22 : Unit) => ⟨[], [], 0⟩) (by simp) ?_ ?_
    · refine rk_loopF (r23_Same_L1 p0 p1) (fun (a19 : Int) => ⟨[(0, .d (.sl 1 (p0.map (eI .i64)))), (1, .d (.sl 1 (p1.map (eI .i64)))), (5, .d (.int .i64 a19))], [], 0⟩) 0 m20 h21 (wkE [] [] [] rfl ⟨⟨_, rfl, .d (.refl _)⟩, ⟨_, rfl, .d (.refl _)⟩, ⟨_, rfl, .d (.refl _)⟩, trivial⟩ trivial) ?_
      intro a19 y17 h18
      unfold r23_Same_L1 at h18
      refine rk_seq ?_
      refine rk_seq ?_
      refine rk_region ?_
      refine ok_mv rfl rfl ?_
      refine ok_mv rfl rfl ?_
      refine ok_ln rfl rfl rfl rfl ?_
      refine ok_v (.d (.bool (decide (a19 < (p0.length : Int))))) rfl rfl ?_
      refine ok_nil ?_
      refine rk_condH rfl h18 (fun _ h18 => ?_) (fun _ h18 => ?_)
      · refine rk_skip ?_
        refine rk_seq ?_
        refine rk_block ?_
        refine rk_seq ?_
        refine rk_regionD (by kernel_rfl) ?_
        refine ok_mv rfl rfl ?_
        refine ok_mv rfl rfl ?_
        obtain ⟨v27, h28, h18⟩ := bindE h18
        refine ok_ix (enc := (eI .i64)) h28 rfl rfl rfl rfl rfl rfl ?_
        refine ok_v (.d (.int .i64 v27)) rfl rfl ?_
        refine ok_mv rfl rfl ?_
        refine ok_mv rfl rfl ?_
        obtain ⟨v29, h30, h18⟩ := bindE h18
        refine ok_ix (enc := (eI .i64)) h30 rfl rfl rfl rfl rfl rfl ?_
        refine ok_v (.d (.int .i64 v29)) rfl rfl ?_
        refine ok_v (.d (.bool (v27 != v29))) rfl rfl ?_
        refine ok_nil ?_
        refine rk_condH rfl h18 (fun _ h18 => ?_) (fun _ h18 => ?_)
        · refine rk_seq ?_
          refine rk_region ?_
          refine ok_as rfl rfl ?_
          refine ok_nil ?_
          refine rk_ret ?_
          refine ⟨_, (Option.some.inj h18).symm, fun hm => ?_⟩
          subst hm
          obtain rfl := someE h0
          exact finD (.inr rfl) (v := .d (.bool false)) rfl rfl (.refl _)
        · refine rk_skip ?_
          refine rk_nil ?_
          refine blk_nor ?_
          refine rk_region ?_
          refine ok_mv rfl rfl ?_
          refine ok_v (.d (.int .i64 (w64 (a19 + 1)))) rfl rfl ?_
          refine ok_as rfl rfl ?_
          refine ok_nil ?_
          refine rk_nil ?_
          exact ⟨_, (Option.some.inj h18).symm, wkE [] [] [] rfl ⟨⟨_, rfl, .d (.refl _)⟩, ⟨_, rfl, .d (.refl _)⟩, ⟨_, rfl, .d (.refl _)⟩, trivial⟩ trivial⟩
      · refine rk_exit ?_
        refine ⟨_, (Option.some.inj h18).symm, fun hm => ?_⟩
        subst hm
        exact ⟨_, rfl, wkE [] [] [] rfl trivial trivial⟩
    · intro b22 hb
      subst hb
      refine rk_seq ?_
      refine rk_region ?_
      refine ok_as rfl rfl ?_
      refine ok_nil ?_
      refine rk_ret ?_
      obtain rfl := someE h0
      exact finD (.inr rfl) (v := .d (.bool true)) rfl rfl (.refl _)

theorem l23_SplitCuts_ok (p0 : List Int) (p1 : Int) (p2 : Int) (p3 : Int) (r : Bool) (h0 : l23_SplitCuts p0 p1 p2 p3 = some r) : Pure Try.prog tab 4 [.sl 1 (p0.map (eI .i64)), .int .i64 p1, .int .i64 p2, .int .i64 p3] (.bool r) := by
  unfold l23_SplitCuts at h0
  refine pure_of_run Try.func4 rfl (by kernel_rfl) (by kernel_rfl) rfl ?_
  refine rk_seq ?_
  refine rk_region ?_
  refine ok_as rfl rfl ?_
  refine ok_nil ?_
  refine rk_seq ?_
  refine rk_seq ?_
  refine rk_region ?_
  refine ok_mv rfl rfl ?_
  refine ok_ln rfl rfl rfl rfl ?_
  refine ok_v (.d (.bool (decide ((p0.length : Int) > 250)))) rfl rfl ?_
  refine ok_nil ?_
  refine rk_condH rfl h0 (fun _ h0 => ?_) (fun _ h0 => ?_)
  · refine rk_seq ?_
    refine rk_region ?_
    refine ok_as rfl rfl ?_
    refine ok_nil ?_
    refine rk_ret ?_
    obtain rfl := someE h0
    exact finD (.inr rfl) (v := .d (.bool true)) rfl rfl (.refl _)
  · refine rk_skip ?_
    refine rk_seq ?_
    refine rk_region ?_
    refine ok_mv rfl rfl ?_
    obtain ⟨r1, h2, h0⟩ := bindE h0
    refine ok_pc [.d (.sl 1 (p0.map (eI .i64)))] (split_Cuts_ok p0 r1 h2) rfl rfl rfl (.inl rfl) ?_
    refine ok_mv rfl rfl ?_
    refine ok_v (.d (.sl 1 (r1.1.map (eI .i64)))) rfl rfl ?_
    refine ok_v (.d (.int .i64 r1.2)) rfl rfl ?_
    refine ok_as rfl rfl ?_
    refine ok_as rfl rfl ?_
    refine ok_nil ?_
    refine rk_seq ?_
    refine rk_region ?_
    refine ok_mv rfl rfl ?_
    obtain ⟨r3, h4, h0⟩ := bindE h0
    refine ok_pc [.d (.sl 1 (p0.map (eI .i64)))] (r23_Cuts_ok p0 r3 h4) rfl rfl rfl (.inl rfl) ?_
    refine ok_mv rfl rfl ?_
    refine ok_v (.d (.sl 1 (r3.1.map (eI .i64)))) rfl rfl ?_
    refine ok_v (.d (.int .i64 r3.2)) rfl rfl ?_
    refine ok_as rfl rfl ?_
    refine ok_as rfl rfl ?_
    refine ok_nil ?_
    refine rk_seq ?_
    refine rk_region ?_
    refine ok_mv rfl rfl ?_
    refine ok_mv rfl rfl ?_
    obtain ⟨r5, h6, h0⟩ := bindE h0
    refine ok_pc [.d (.int .i64 p1), .d (.int .i64 p2)] (split_Repeat_ok p1 p2 r5 h6) rfl rfl rfl (.inl rfl) ?_
    refine ok_mv rfl rfl ?_
    refine ok_v (.d (.sl 1 (r5.1.map (eI .i64)))) rfl rfl ?_
    refine ok_v (.d (.int .i64 r5.2)) rfl rfl ?_
    refine ok_as rfl rfl ?_
    refine ok_as rfl rfl ?_
    refine ok_nil ?_
    refine rk_seq ?_
    refine rk_region ?_
    refine ok_mv rfl rfl ?_
    refine ok_mv rfl rfl ?_
    obtain ⟨r7, h8, h0⟩ := bindE h0
    refine ok_pc [.d (.int .i64 p1), .d (.int .i64 p2)] (r23_Repeat_ok p1 p2 r7 h8) rfl rfl rfl (.inl rfl) ?_
    refine ok_mv rfl rfl ?_
    refine ok_v (.d (.sl 1 (r7.1.map (eI .i64)))) rfl rfl ?_
    refine ok_v (.d (.int .i64 r7.2)) rfl rfl ?_
    refine ok_as rfl rfl ?_
    refine ok_as rfl rfl ?_
    refine ok_nil ?_
    refine rk_seq ?_
    refine rk_region ?_
    refine ok_mv rfl rfl ?_
    refine ok_mv rfl rfl ?_
    obtain ⟨r9, h10, h0⟩ := bindE h0
    refine ok_pc [.d (.sl 1 (p0.map (eI .i64))), .d (.int .i64 p3)] (split_At_ok p0 p3 r9 h10) rfl rfl rfl (.inl rfl) ?_
    refine ok_mv rfl rfl ?_
    refine ok_v (.d (.int .i64 r9.1)) rfl rfl ?_
    refine ok_v (.d (.int .i64 r9.2)) rfl rfl ?_
    refine ok_as rfl rfl ?_
    refine ok_as rfl rfl ?_
    refine ok_nil ?_
    refine rk_seq ?_
    refine rk_region ?_
    refine ok_mv rfl rfl ?_
    refine ok_mv rfl rfl ?_
    obtain ⟨r11, h12, h0⟩ := bindE h0
    refine ok_pc [.d (.sl 1 (p0.map (eI .i64))), .d (.int .i64 p3)] (r23_At_ok p0 p3 r11 h12) rfl rfl rfl (.inl rfl) ?_
    refine ok_mv rfl rfl ?_
    refine ok_v (.d (.int .i64 r11.1)) rfl rfl ?_
    refine ok_v (.d (.int .i64 r11.2)) rfl rfl ?_
    refine ok_as rfl rfl ?_
    refine ok_as rfl rfl ?_
    refine ok_nil ?_
    refine rk_seq ?_
    refine rk_region ?_
    refine ok_mv rfl rfl ?_
    refine ok_mv rfl rfl ?_
    obtain ⟨r13, h14, h0⟩ := bindE h0
    refine ok_pc [.d (.sl 1 (r1.1.map (eI .i64))), .d (.sl 1 (r3.1.map (eI .i64)))] (r23_Same_ok r1.1 r3.1 r13 h14) rfl rfl rfl (.inl rfl) ?_
    obtain ⟨c15, h16, h0⟩ := bindE h0
    refine ok_cutQ 5 (fun A st => ∃ (j17 j18 j19 j20 : V), st = A [(65, .d (.bool c15)), (64, j20), (63, j19), (62, j18), (61, j17)]) ?_ ?_
    · refine ok_mvB rfl rfl h16 (fun h16 => ?_) (fun h16 => ?_)
      · refine ok_mv rfl rfl ?_
        refine ok_mv rfl rfl ?_
        refine ok_v (.d (.bool (r1.2 == r3.2))) rfl rfl ?_
        refine ok_v (.d (.bool (r1.2 == r3.2))) rfl rfl ?_
        refine ok_nil ?_
        obtain rfl := someE h16
        exact ⟨_, _, _, _, rfl⟩
      · refine ok_sg rfl ?_
        refine ok_sg rfl ?_
        refine ok_sg rfl ?_
        refine ok_v (.d (.bool false)) rfl rfl ?_
        refine ok_nil ?_
        obtain rfl := someE h16
        exact ⟨_, _, _, _, rfl⟩
    · rintro _ ⟨j17, j18, j19, j20, rfl⟩
      obtain ⟨c23, h24, h0⟩ := bindE h0
      refine ok_cutQ 5 (fun A st => ∃ (j25 j26 j27 j28 : V), st = A [(70, .d (.bool c23)), (69, j28), (68, j27), (67, j26), (66, j25)]) ?_ ?_
      · refine ok_mvB rfl rfl h24 (fun h24 => ?_) (fun h24 => ?_)
        · refine ok_mv rfl rfl ?_
          refine ok_mv rfl rfl ?_
          obtain ⟨r29, h30, h24⟩ := bindE h24
          refine ok_pc [.d (.sl 1 (r5.1.map (eI .i64))), .d (.sl 1 (r7.1.map (eI .i64)))] (r23_Same_ok r5.1 r7.1 r29 h30) rfl rfl rfl (.inl rfl) ?_
          refine ok_v (.d (.bool r29)) rfl rfl ?_
          refine ok_nil ?_
          obtain rfl := someE h24
          exact ⟨_, _, _, _, rfl⟩
        · refine ok_sg rfl ?_
          refine ok_sg rfl ?_
          refine ok_sg rfl ?_
          refine ok_v (.d (.bool false)) rfl rfl ?_
          refine ok_nil ?_
          obtain rfl := someE h24
          exact ⟨_, _, _, _, rfl⟩
      · rintro _ ⟨j25, j26, j27, j28, rfl⟩
        obtain ⟨c31, h32, h0⟩ := bindE h0
        refine ok_cutQ 5 (fun A st => ∃ (j33 j34 j35 j36 : V), st = A [(75, .d (.bool c31)), (74, j36), (73, j35), (72, j34), (71, j33)]) ?_ ?_
        · refine ok_mvB rfl rfl h32 (fun h32 => ?_) (fun h32 => ?_)
          · refine ok_mv rfl rfl ?_
            refine ok_mv rfl rfl ?_
            refine ok_v (.d (.bool (r5.2 == r7.2))) rfl rfl ?_
            refine ok_v (.d (.bool (r5.2 == r7.2))) rfl rfl ?_
            refine ok_nil ?_
            obtain rfl := someE h32
            exact ⟨_, _, _, _, rfl⟩
          · refine ok_sg rfl ?_
            refine ok_sg rfl ?_
            refine ok_sg rfl ?_
            refine ok_v (.d (.bool false)) rfl rfl ?_
            refine ok_nil ?_
            obtain rfl := someE h32
            exact ⟨_, _, _, _, rfl⟩
        · rintro _ ⟨j33, j34, j35, j36, rfl⟩
          obtain ⟨c37, h38, h0⟩ := bindE h0
          refine ok_cutQ 5 (fun A st => ∃ (j39 j40 j41 j42 : V), st = A [(80, .d (.bool c37)), (79, j42), (78, j41), (77, j40), (76, j39)]) ?_ ?_
          · refine ok_mvB rfl rfl h38 (fun h38 => ?_) (fun h38 => ?_)
            · refine ok_mv rfl rfl ?_
              refine ok_mv rfl rfl ?_
              refine ok_v (.d (.bool (r9.1 == r11.1))) rfl rfl ?_
              refine ok_v (.d (.bool (r9.1 == r11.1))) rfl rfl ?_
              refine ok_nil ?_
              obtain rfl := someE h38
              exact ⟨_, _, _, _, rfl⟩
            · refine ok_sg rfl ?_
              refine ok_sg rfl ?_
              refine ok_sg rfl ?_
              refine ok_v (.d (.bool false)) rfl rfl ?_
              refine ok_nil ?_
              obtain rfl := someE h38
              exact ⟨_, _, _, _, rfl⟩
          · rintro _ ⟨j39, j40, j41, j42, rfl⟩
            obtain ⟨c43, h44, h0⟩ := bindE h0
            refine ok_cutQ 5 (fun A st => ∃ (j45 j46 j47 j48 : V), st = A [(85, .d (.bool c43)), (84, j48), (83, j47), (82, j46), (81, j45)]) ?_ ?_
            · refine ok_mvB rfl rfl h44 (fun h44 => ?_) (fun h44 => ?_)
              · refine ok_mv rfl rfl ?_
                refine ok_mv rfl rfl ?_
                refine ok_v (.d (.bool (r9.2 == r11.2))) rfl rfl ?_
                refine ok_v (.d (.bool (r9.2 == r11.2))) rfl rfl ?_
                refine ok_nil ?_
                obtain rfl := someE h44
                exact ⟨_, _, _, _, rfl⟩
              · refine ok_sg rfl ?_
                refine ok_sg rfl ?_
                refine ok_sg rfl ?_
                refine ok_v (.d (.bool false)) rfl rfl ?_
                refine ok_nil ?_
                obtain rfl := someE h44
                exact ⟨_, _, _, _, rfl⟩
            · rintro _ ⟨j45, j46, j47, j48, rfl⟩
              refine ok_as rfl rfl ?_
              refine ok_nil ?_
              refine rk_ret ?_
              obtain rfl := someE h0
              exact finD (.inr rfl) (v := .d (.bool c43)) rfl rfl (.refl _)
end Go.Proofs.Ytbfdjpffambpfaa
