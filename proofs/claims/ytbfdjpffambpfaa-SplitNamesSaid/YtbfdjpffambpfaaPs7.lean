/- PLAIN, SPLIT: the scopes of the parts; the laws SplitScopes and SplitNames. -/
import Derived.Test.YtbfdjpffambpfaaPs6
import Derived.Test.YtbfdjpffambpfaaPf1
namespace Go.Sh
open Go Go.Am

theorem cuts_over {l : List Int} (hl : l.length ≤ 200) (hn : NN l) (hI : ∀ x ∈ l, I64 x) (ho : ∃ k, k ≤ l.length ∧ 1000000 < sumsTo l k) : split_Cuts l = some ([], 16) := by
  unfold split_Cuts
  have h : decide ((l.length : Int) > 200) = false := decide_eq_false (by omega)
  simp only [h, cond_false]
  obtain ⟨r, h1, h2⟩ := idxf_eq l (by omega)
  unfold slices_ContainsFunc_int_int
  rw [h1]
  rcases h2 with ⟨rfl, _⟩ | ⟨_, h2⟩
  · have e : decide ((-1 : Int) ≥ 0) = false := rfl
    simp only [Option.bind_some, e, cond_false]
    have := loop_rng (f := split_Cuts_L1 l) (σ := Unit) (fun k _ => ((k : Int), cutsTo l k)) l.length (fun k _ => ∀ j, j ≤ k → 0 ≤ sumsTo l j ∧ sumsTo l j ≤ 1000000) (fun b => b = .inr ([], 16)) ?_ ?_ (k0 := 0) (c0 := ()) (by omega) (fun j hj => by
      obtain rfl : j = 0 := by omega
      simp [sumsTo])
    · obtain ⟨b, g1, rfl⟩ := this
      have e0 : cutsTo l 0 = [0] := by simp [cutsTo, sumsTo]
      rw [e0] at g1
      have g1 : loop (split_Cuts_L1 l) (0, [0]) = some (.inr ([], 16)) := g1
      rw [g1]; rfl
    · rintro k _ hk hg
      have hb : decide ((k : Int) < (l.length : Int)) = true := decide_eq_true (by omega)
      have s1 := hg k (by omega)
      have hsucc := sumsTo_succ hk
      have hx := hn _ (List.getElem_mem hk)
      have hi := hI _ (List.getElem_mem hk)
      unfold I64 at hi
      have hw : w64 ((k : Int) + 1) = ((k + 1 : Nat) : Int) := by rw [w64_id (by omega)]; omega
      have e1 : w64 (1000000 - sumsTo l k) = 1000000 - sumsTo l k := w64_id (by omega)
      by_cases hle : sumsTo l (k + 1) ≤ 1000000
      · have e2 : decide (l[k] > 1000000 - sumsTo l k) = false := decide_eq_false (by omega)
        have e3 : w64 (sumsTo l k + l[k]) = sumsTo l (k + 1) := by rw [w64_id (by omega)]; omega
        refine .inl ⟨(), ?_, fun j hj => ?_⟩
        · simp only [split_Cuts_L1, hb, cond_true, idx_lt hk, cutsTo_get, Option.bind_some, e1, e2, cond_false, e3, hw]
          rw [app_of (by rw [cutsTo_len]; simp; omega), cutsTo_succ]; rfl
        · by_cases ej : j = k + 1
          · subst ej; omega
          · exact hg j (by omega)
      · have e2 : decide (l[k] > 1000000 - sumsTo l k) = true := decide_eq_true (by omega)
        exact .inr ⟨.inr ([], 16), by simp only [split_Cuts_L1, hb, cond_true, idx_lt hk, cutsTo_get, Option.bind_some, e1, e2], rfl⟩
    · rintro _ hg
      obtain ⟨k, hk, h⟩ := ho
      have := hg k hk
      omega
  · exact absurd hn h2
theorem cuts_full (l : List Int) (hl : l.length ≤ 1000000) (hI : ∀ x ∈ l, I64 x) : ∃ r, split_Cuts l = some r ∧ r23_Cuts l = some r ∧
    (r.2 = 0 → l.length ≤ 200 ∧ NN l ∧ (∀ k, k ≤ l.length → 0 ≤ sumsTo l k ∧ sumsTo l k ≤ 1000000) ∧ r = (cutsTo l l.length, 0)) := by
  obtain ⟨r, h1, h2, _⟩ := cuts_same l hl hI
  refine ⟨r, h1, h2, fun h0 => ?_⟩
  by_cases hlen : (l.length : Int) > 200
  · have : split_Cuts l = some ([], 4) := by
      unfold split_Cuts
      simp only [decide_eq_true hlen, cond_true]
    rw [this] at h1; cases h1; cases h0
  by_cases hn : NN l
  · have s0 : ∀ k, k ≤ l.length → 0 ≤ sumsTo l k := by
      intro k
      induction k with
      | zero => intro _; simp [sumsTo]
      | succ k ih =>
        intro hk
        have := ih (by omega)
        have := hn _ (List.getElem_mem (show k < l.length by omega))
        rw [sumsTo_succ (show k < l.length by omega)]; omega
    by_cases ho : ∃ k, k ≤ l.length ∧ 1000000 < sumsTo l k
    · rw [cuts_over (by omega) hn hI ho] at h1; cases h1; cases h0
    · have hs : ∀ k, k ≤ l.length → 0 ≤ sumsTo l k ∧ sumsTo l k ≤ 1000000 := fun k hk => ⟨s0 k hk, Int.not_lt.1 fun h => ho ⟨k, hk, h⟩⟩
      rw [cuts_eq (by omega) hn hs] at h1
      cases h1
      exact ⟨by omega, hn, hs, rfl⟩
  · obtain ⟨q, g1, g2⟩ := idxf_eq l hl
    have : split_Cuts l = some ([], 8) := by
      unfold split_Cuts slices_ContainsFunc_int_int
      simp only [decide_eq_false hlen, cond_false, g1, Option.bind_some]
      rcases g2 with ⟨_, g2⟩ | ⟨g2, _⟩
      · exact absurd g2 hn
      · simp only [decide_eq_true g2, cond_true]
    rw [this] at h1; cases h1; cases h0

/-! ### Scopes -/
def setA (v : api_Vec) (a n : Int) : api_Vec := if a = 0 then ⟨n, v.Y, v.Z⟩ else if a = 1 then ⟨v.X, n, v.Z⟩ else ⟨v.X, v.Y, n⟩
theorem along_eq (v : api_Vec) (a n : Int) : split_along v a n = some (setA v a n) := by
  unfold split_along setA
  by_cases h0 : a = 0
  · simp [h0]
  · by_cases h1 : a = 1
    · simp [h1]
    · have e0 : (a == 0) = false := by simpa using h0
      have e1 : (a == 1) = false := by simpa using h1
      rw [e0, e1, if_neg h0, if_neg h1]; rfl
theorem Set_eq (v : api_Vec) (a n : Int) : r16_Set v a n = some (setA v a n) := by
  unfold r16_Set setA
  by_cases h0 : a = 0
  · simp [h0]
  · by_cases h1 : a = 1
    · simp [h1]
    · have e0 : (a == 0) = false := by simpa using h0
      have e1 : (a == 1) = false := by simpa using h1
      rw [e0, e1, if_neg h0, if_neg h1]; rfl
theorem setA_in {v : api_Vec} {a n lo : Int} (hv : InV v lo) (hn : lo ≤ n ∧ n ≤ 1000000) : InV (setA v a n) lo := by
  unfold setA
  split
  · unfold InV at hv ⊢; simp only; omega
  · split
    · unfold InV at hv ⊢; simp only; omega
    · unfold InV at hv ⊢; simp only; omega
theorem inside0 {s : api_Scope} {a z : api_Vec} {u : Nat} (hu : s.Frame.Turn = u) (hs : SOk s) (ha : InV a (-1000000)) (hz : InV z 0) :
    frame_Inside s a z 0 = some (if FOk ⟨s.Frame.Turn, imageT u s.Frame.At a⟩ then (⟨⟨s.Frame.Turn, imageT u s.Frame.At a⟩, z⟩, 0) else (zeroS, 16)) := by
  have h : frame_Inside s a z ((0 : Nat) : Int) = _ := Inside_eq (t := 0) hu hs (by omega) ha hz
  have u24 : u < 24 := by have := hs.1.1; omega
  rw [compI_zero u u24, ← hu] at h
  exact h
theorem scopes_same_self (l : List api_Scope) (hl : l.length ≤ 1000000) : r23_SameScopes l l = some true := by
  have := loop_rng (f := r23_SameScopes_L1 l l) (σ := Unit) (fun k _ => (k : Int)) l.length (fun k _ => True) (fun b => b = .inl ()) ?_ ?_ (k0 := 0) (c0 := ()) (by omega) trivial
  · obtain ⟨b, h1, rfl⟩ := this
    have h1 : loop (r23_SameScopes_L1 l l) 0 = some (.inl ()) := h1
    unfold r23_SameScopes
    simp [h1]
  · intro k _ hk _
    have hb : decide ((k : Int) < (l.length : Int)) = true := decide_eq_true (by omega)
    refine .inl ⟨(), ?_, trivial⟩
    simp only [r23_SameScopes_L1, hb, cond_true, idx_lt hk, Option.bind_some, beq_self_eq_true, Bool.and_self, Bool.not_true, cond_false]
    rw [w64_id (by omega)]; simp
  · intro _ _
    have hb : decide ((l.length : Int) < (l.length : Int)) = false := decide_eq_false (by omega)
    exact ⟨_, by simp only [r23_SameScopes_L1, hb, cond_false], rfl⟩

theorem scopes_loops {s w : api_Scope} {a : Int} {l : List Int} {u : Nat} (hu : s.Frame.Turn = u) (hs : SOk s) (hl : l.length ≤ 200) (hn : NN l) (hsum : ∀ k, k ≤ l.length → 0 ≤ sumsTo l k ∧ sumsTo l k ≤ 1000000) (hw : w.Frame = s.Frame) :
    ∀ m k (out : List api_Scope) (x y z : Int), l.length - k = m → k ≤ l.length → out.length ≤ k →
      ∃ b, loop (split_Scopes_L1 l (cutsTo l l.length, 0) a s (w, 0)) ((k : Int), x, y, z, out) = some b ∧ loop (r23_Scopes_L1 l (cutsTo l l.length, 0) a s) ((k : Int), out) = some b ∧
        ((∃ o, b = .inl o ∧ o.length ≤ l.length) ∨ b = .inr ([], 16)) := by
  intro m
  induction m with
  | zero =>
    intro k out x y z hm hk ho
    obtain rfl : k = l.length := by omega
    have hb : decide ((l.length : Int) < (l.length : Int)) = false := decide_eq_false (by omega)
    exact ⟨.inl out, loop_done (by simp only [split_Scopes_L1, hb, cond_false]), loop_done (by simp only [r23_Scopes_L1, hb, cond_false]), .inl ⟨out, rfl, by omega⟩⟩
  | succ m ih =>
    intro k out x y z hm hk ho
    have hkl : k < l.length := by omega
    have hb : decide ((k : Int) < (l.length : Int)) = true := decide_eq_true (by omega)
    have hw1 : w64 ((k : Int) + 1) = ((k + 1 : Nat) : Int) := by rw [w64_id (by omega)]; omega
    have c := hsum k (by omega)
    have c' := hsum (k + 1) (by omega)
    have hsucc := sumsTo_succ hkl
    have hx := hn _ (List.getElem_mem hkl)
    have u24 : u < 24 := by have := hs.1.1; omega
    have hat : InV (setA ⟨0, 0, 0⟩ a (sumsTo l k)) (-1000000) := setA_in (by unfold InV; simp) (by omega)
    have hsz : InV (setA s.Size a l[k]) 0 := setA_in hs.2 (by omega)
    have hso : SOk ⟨w.Frame, s.Size⟩ := by rw [hw]; exact hs
    have e1 := inside0 (s := ⟨w.Frame, s.Size⟩) (u := u) (by rw [hw]; exact hu) hso hat hsz
    rw [hw] at e1
    have e2 := r16_Image_eq hu u24 (in_within hs.1.2 (by omega)) (in_within hat (by omega))
    have hcut : idx (cutsTo l l.length) (k : Int) = some (sumsTo l k) := cutsTo_at (by omega)
    by_cases hf : FOk ⟨s.Frame.Turn, imageT u s.Frame.At (setA ⟨0, 0, 0⟩ a (sumsTo l k))⟩
    · rw [if_pos hf] at e1
      have hok : SOk ⟨⟨s.Frame.Turn, imageT u s.Frame.At (setA ⟨0, 0, 0⟩ a (sumsTo l k))⟩, setA s.Size a l[k]⟩ := ⟨hf, hsz⟩
      have ha : ∀ p : api_Scope, app 56 out [p] = some (out ++ [p]) := fun p => app_of (by simp; omega)
      have s1 : split_Scopes_L1 l (cutsTo l l.length, 0) a s (w, 0) ((k : Int), x, y, z, out) = some (.inl (((k + 1 : Nat) : Int), s.Size.X, s.Size.Y, s.Size.Z, out ++ [⟨⟨s.Frame.Turn, imageT u s.Frame.At (setA ⟨0, 0, 0⟩ a (sumsTo l k))⟩, setA s.Size a l[k]⟩])) := by
        have h0 : ((0 : Int) != 0) = false := rfl
        simp only [split_Scopes_L1, hb, cond_true, idx_lt hkl, hcut, along_eq, Option.bind_some, hw, e1, h0, cond_false, ha, hw1]
      have s2 : r23_Scopes_L1 l (cutsTo l l.length, 0) a s ((k : Int), out) = some (.inl (((k + 1 : Nat) : Int), out ++ [⟨⟨s.Frame.Turn, imageT u s.Frame.At (setA ⟨0, 0, 0⟩ a (sumsTo l k))⟩, setA s.Size a l[k]⟩])) := by
        have h0 : ((0 : Int) != 0) = false := rfl
        simp only [r23_Scopes_L1, hb, cond_true, idx_lt hkl, hcut, Set_eq, e2, Option.bind_some, Scoped_eq, if_pos hok, h0, cond_false, ha, hw1]
      rw [loop_next s1, loop_next s2]
      exact ih (k + 1) _ _ _ _ (by omega) (by omega) (by simp; omega)
    · rw [if_neg hf] at e1
      have hno : ¬ SOk ⟨⟨s.Frame.Turn, imageT u s.Frame.At (setA ⟨0, 0, 0⟩ a (sumsTo l k))⟩, setA s.Size a l[k]⟩ := fun h => hf h.1
      have h16 : ((16 : Int) != 0) = true := rfl
      have h8 : ((8 : Int) != 0) = true := rfl
      exact ⟨.inr ([], 16), loop_done (by simp only [split_Scopes_L1, hb, cond_true, idx_lt hkl, hcut, along_eq, Option.bind_some, hw, e1, h16]),
        loop_done (by simp only [r23_Scopes_L1, hb, cond_true, idx_lt hkl, hcut, Set_eq, e2, Option.bind_some, Scoped_eq, if_neg hno, h8]), .inr rfl⟩

theorem scopes_eq (s : api_Scope) (a : Int) (l : List Int) (ht : 0 ≤ s.Frame.Turn) (hl : l.length ≤ 1000000) (hI : ∀ x ∈ l, I64 x) : ∃ r, split_Scopes s a l = some r ∧ r23_Scopes s a l = some r ∧ r.1.length ≤ 1000000 := by
  unfold split_Scopes r23_Scopes
  rw [Scoped_eq]
  by_cases hs : SOk s
  · obtain ⟨u, hu⟩ : ∃ u : Nat, s.Frame.Turn = u := ⟨s.Frame.Turn.toNat, by omega⟩
    have hin := inside0 (a := ⟨0, 0, 0⟩) (z := ⟨0, 0, 0⟩) hu hs (by unfold InV; simp) (by unfold InV; simp)
    rw [image_zero, if_pos hs.1] at hin
    rw [hin, if_pos hs]
    have h0 : ((0 : Int) != 0) = false := rfl
    have i := hs.2
    unfold InV at i
    have m1 : decide (min (min s.Size.X s.Size.Y) s.Size.Z < 0) = false := decide_eq_false (by omega)
    have m2 : decide (max (max s.Size.X s.Size.Y) s.Size.Z > 1000000) = false := decide_eq_false (by omega)
    simp only [Option.bind_some, h0, cond_false, m1, m2]
    by_cases a0 : a < 0
    · simp only [decide_eq_true a0, cond_true, Option.bind_some]; exact ⟨_, rfl, rfl, by simp⟩
    by_cases a2 : a > 2
    · simp only [decide_eq_false a0, decide_eq_true a2, cond_true, cond_false, Option.bind_some]; exact ⟨_, rfl, rfl, by simp⟩
    simp only [decide_eq_false a0, decide_eq_false a2, cond_false, Option.bind_some]
    obtain ⟨r, c1, c2, c3⟩ := cuts_full l hl hI
    rw [c1, c2]
    simp only [Option.bind_some]
    by_cases r0 : r.2 = 0
    · obtain ⟨d1, d2, d3, rfl⟩ := c3 r0
      have hc : ∃ q, idxA 3 [s.Size.X, s.Size.Y, s.Size.Z] a = some q ∧ r16_Coord s.Size a = some q := by
        have : a = 0 ∨ a = 1 ∨ a = 2 := by omega
        rcases this with rfl | rfl | rfl
        · exact ⟨_, rfl, rfl⟩
        · exact ⟨_, rfl, rfl⟩
        · exact ⟨_, rfl, rfl⟩
      obtain ⟨q, q1, q2⟩ := hc
      simp only [h0, cond_false, cutsTo_at (Nat.le_refl _), q1, q2, Option.bind_some]
      by_cases hq : sumsTo l l.length = q
      · have hq' : (sumsTo l l.length != q) = false := by simpa using hq
        simp only [hq', cond_false]
        obtain ⟨b, b1, b2, b3⟩ := scopes_loops (a := a) (w := ⟨⟨s.Frame.Turn, s.Frame.At⟩, ⟨0, 0, 0⟩⟩) hu hs d1 d2 d3 rfl l.length 0 [] 0 0 0 (by omega) (by omega) (by simp)
        have b1 : loop (split_Scopes_L1 l (cutsTo l l.length, 0) a s (⟨⟨s.Frame.Turn, s.Frame.At⟩, ⟨0, 0, 0⟩⟩, 0)) (0, 0, 0, 0, []) = some b := b1
        have b2 : loop (r23_Scopes_L1 l (cutsTo l l.length, 0) a s) (0, []) = some b := b2
        rw [b1, b2]
        rcases b3 with ⟨o, rfl, ho⟩ | rfl
        · exact ⟨_, rfl, rfl, by simp only; omega⟩
        · exact ⟨_, rfl, rfl, by simp⟩
      · have hq' : (sumsTo l l.length != q) = true := by simpa using hq
        simp only [hq', cond_true]
        exact ⟨_, rfl, rfl, by simp⟩
    · have hr : (r.2 != 0) = true := by simpa using r0
      simp only [hr, cond_true]
      exact ⟨_, rfl, rfl, by simp⟩
  · rw [Inside_bad hs, if_neg hs]
    exact ⟨([], 8), rfl, rfl, by simp⟩

/-- **THE LAW SplitScopes.** -/
theorem splitScopes (s : api_Scope) (a : Int) (l : List Int) (ht : 0 ≤ s.Frame.Turn) (hI : ∀ x ∈ l, I64 x) : l23_SplitScopes s a l = some true := by
  unfold l23_SplitScopes
  by_cases hl : (l.length : Int) > 250
  · simp only [decide_eq_true hl, cond_true]
  · simp only [decide_eq_false hl, cond_false]
    obtain ⟨r, r1, r2, r3⟩ := scopes_eq s a l ht (by omega) hI
    rw [r1, r2]
    simp only [Option.bind_some, scopes_same_self _ r3]
    simp

/-! ### SplitNames -/
def fix4 : List api_Part := [⟨1, 4, ⟨0, 0⟩⟩]
theorem sizes_at {w : Int} {l : List api_Part} {r : List Int × Int} (hI : ∀ p ∈ l, PartI p) (h : sizesS w l = r) : split_Sizes w l = some r := by rw [split_Sizes_eq w l hI, h]
theorem fix4_I : ∀ p ∈ fix4, PartI p := by
  intro p hp
  simp only [fix4, List.mem_cons, List.not_mem_nil, or_false] at hp
  subst hp; unfold PartI I64; decide
theorem one_I {p : api_Part} (h : PartI p) : ∀ q ∈ [p], PartI q := by
  intro q hq
  simp only [List.mem_cons, List.not_mem_nil, or_false] at hq
  subst hq; exact h
/-- **THE LAW SplitNames.** -/
theorem splitNames : l23_SplitNames = some true := by
  have n1 : split_Sizes 3 fix4 = some ([], 16) := sizes_at fix4_I (by decide +kernel)
  have n2 : split_Sizes 5 fix4 = some ([], 28) := sizes_at fix4_I (by decide +kernel)
  have n3 : split_Sizes 4 fix4 = some ([4], 0) := sizes_at fix4_I (by decide +kernel)
  have n4 : split_Sizes (-1) fix4 = some ([], 2) := sizes_at fix4_I (by decide +kernel)
  have n5 : split_Sizes 1000001 [] = some ([], 2) := sizes_at (by simp) (by decide +kernel)
  have n6 : split_Sizes 0 [] = some ([], 0) := sizes_at (by simp) (by decide +kernel)
  have n7 : mks 32 201 (⟨0, 0, ⟨0, 0⟩⟩ : api_Part) = some (List.replicate 201 ⟨0, 0, ⟨0, 0⟩⟩) := rfl
  have n8 : split_Check (List.replicate 201 ⟨0, 0, ⟨0, 0⟩⟩) = some 4 := by
    unfold split_Check
    have : decide (((List.replicate 201 (⟨0, 0, ⟨0, 0⟩⟩ : api_Part)).length : Int) > 200) = true := by rw [List.length_replicate]; rfl
    rw [this]; rfl
  have ck : ∀ {p : api_Part}, PartI p → ¬ VOk p → split_Check [p] = some 8 := by
    intro p hp hv
    rw [split_Check_eq _ (one_I hp)]
    unfold chk
    rw [if_neg (by simp), if_neg (fun h => hv (h p (by simp)))]
  have n9 : split_Check [⟨3, 0, ⟨0, 0⟩⟩] = some 8 := ck (by unfold PartI I64; decide) (by decide +kernel)
  have n10 : split_Check [⟨2, 0, ⟨2, 1⟩⟩] = some 8 := ck (by unfold PartI I64; decide) (by decide +kernel)
  have n11 : split_Check [⟨1, 1, ⟨0, 1⟩⟩] = some 8 := ck (by unfold PartI I64; decide) (by decide +kernel)
  have n12 : split_Cuts [1000000, 1] = some ([], 16) := cuts_over (by decide) (by unfold NN; decide) (by unfold I64; decide) ⟨2, by decide, by decide⟩
  have n13 : split_Cuts [1, -1] = some ([], 8) := by
    unfold split_Cuts slices_ContainsFunc_int_int slices_IndexFunc_int_int
    rw [show loop (slices_IndexFunc_int_int_L1 [1, -1] fun x0 => split_Cuts_1 x0) 0 = some (.inr 1) from loop_iff.2 ⟨3, by decide +kernel⟩]
    rfl
  have n14 : split_Repeat 1000000 1 = some ([], 4) := by
    obtain ⟨k, k1, k2⟩ := repeat_eq (w := 1000000) (n := 1) (by omega) (by omega)
    rw [k2, if_pos (by omega)]
  have n15 : split_Repeat 0 5 = some ([0], 0) := by
    obtain ⟨k, k1, k2⟩ := repeat_eq (w := 0) (n := 5) (by omega) (by omega)
    obtain rfl : k = 1 := by omega
    rw [k2]; decide +kernel
  have n16 : split_Repeat 5 0 = some ([], 2) := by unfold split_Repeat; rfl
  have n17 : split_At [1, 2] 1 = some (0, 8) := by unfold split_At; rfl
  have n18 : split_At [0, 2] 2 = some (0, 2) := by
    rcases at_eq (l := [0, 2]) 2 (by decide) (by decide) rfl (fun i h => by
      obtain rfl : i = 0 := by simp at h; omega
      simp) with ⟨e, _⟩ | ⟨i, h, e, h5, h6⟩
    · exact e
    · obtain rfl : i = 0 := by simp at h; omega
      simp at h6
  have ok4 : SOk ⟨⟨0, ⟨0, 0, 0⟩⟩, ⟨4, 1, 1⟩⟩ := by decide
  have in0 : frame_Inside ⟨⟨0, ⟨0, 0, 0⟩⟩, ⟨4, 1, 1⟩⟩ ⟨0, 0, 0⟩ ⟨0, 0, 0⟩ 0 = some (⟨⟨0, ⟨0, 0, 0⟩⟩, ⟨0, 0, 0⟩⟩, 0) := by
    have h := inside0 (s := ⟨⟨0, ⟨0, 0, 0⟩⟩, ⟨4, 1, 1⟩⟩) (a := ⟨0, 0, 0⟩) (z := ⟨0, 0, 0⟩) (u := 0) rfl ok4 (by decide) (by decide)
    rw [image_zero, if_pos ok4.1] at h
    exact h
  have n19 : split_Scopes ⟨⟨0, ⟨0, 0, 0⟩⟩, ⟨4, 1, 1⟩⟩ 3 [4] = some ([], 2) := by unfold split_Scopes; rw [in0]; rfl
  have n20 : split_Scopes ⟨⟨0, ⟨0, 0, 0⟩⟩, ⟨4, 1, 1⟩⟩ 0 [3] = some ([], 2) := by
    unfold split_Scopes
    rw [in0, cuts_eq (l := [3]) (by decide) (by unfold NN; decide) (fun k hk => by
      have : k = 0 ∨ k = 1 := by simp at hk; omega
      rcases this with rfl | rfl <;> decide)]
    rfl
  have n21 : ∃ x y, split_Scopes ⟨⟨0, ⟨0, 0, 0⟩⟩, ⟨4, 1, 1⟩⟩ 0 [0, 4] = some ([x, y], 0) := by
    unfold split_Scopes
    have hs : ∀ k, k ≤ [(0 : Int), 4].length → 0 ≤ sumsTo [0, 4] k ∧ sumsTo [0, 4] k ≤ 1000000 := fun k hk => by
      have : k = 0 ∨ k = 1 ∨ k = 2 := by simp at hk; omega
      rcases this with rfl | rfl | rfl <;> decide
    rw [in0, cuts_eq (l := [0, 4]) (by decide) (by unfold NN; decide) hs]
    have i1 := inside0 (s := ⟨⟨0, ⟨0, 0, 0⟩⟩, ⟨4, 1, 1⟩⟩) (a := ⟨0, 0, 0⟩) (z := ⟨0, 1, 1⟩) (u := 0) rfl ok4 (by decide) (by decide)
    have i2 := inside0 (s := ⟨⟨0, ⟨0, 0, 0⟩⟩, ⟨4, 1, 1⟩⟩) (a := ⟨0, 0, 0⟩) (z := ⟨4, 1, 1⟩) (u := 0) rfl ok4 (by decide) (by decide)
    rw [image_zero, if_pos ok4.1] at i1 i2
    have hl : loop (split_Scopes_L1 [0, 4] (cutsTo [0, 4] [(0 : Int), 4].length, 0) 0 ⟨⟨0, ⟨0, 0, 0⟩⟩, ⟨4, 1, 1⟩⟩ (⟨⟨0, ⟨0, 0, 0⟩⟩, ⟨0, 0, 0⟩⟩, 0)) (0, 0, 0, 0, []) = some (.inl [⟨⟨0, ⟨0, 0, 0⟩⟩, ⟨0, 1, 1⟩⟩, ⟨⟨0, ⟨0, 0, 0⟩⟩, ⟨4, 1, 1⟩⟩]) := by
      rw [loop_next (a' := ((1 : Int), 4, 1, 1, [⟨⟨0, ⟨0, 0, 0⟩⟩, ⟨0, 1, 1⟩⟩]))]
      · rw [loop_next (a' := ((2 : Int), 4, 1, 1, [⟨⟨0, ⟨0, 0, 0⟩⟩, ⟨0, 1, 1⟩⟩, ⟨⟨0, ⟨0, 0, 0⟩⟩, ⟨4, 1, 1⟩⟩]))]
        · exact loop_done rfl
        · have e : frame_Inside ⟨⟨0, ⟨0, 0, 0⟩⟩, ⟨4, 1, 1⟩⟩ (setA ⟨0, 0, 0⟩ 0 0) (setA ⟨4, 1, 1⟩ 0 4) 0 = _ := i2
          have c1 : idx (cutsTo [0, 4] [(0 : Int), 4].length) 1 = some 0 := by decide +kernel
          have c2 : idx [(0 : Int), 4] 1 = some 4 := rfl
          have c3 : decide ((1 : Int) < ([(0 : Int), 4].length : Int)) = true := rfl
          simp only [split_Scopes_L1, c1, c2, c3, cond_true, Option.bind_some, along_eq, e]
          rfl
      · have e : frame_Inside ⟨⟨0, ⟨0, 0, 0⟩⟩, ⟨4, 1, 1⟩⟩ (setA ⟨0, 0, 0⟩ 0 0) (setA ⟨4, 1, 1⟩ 0 0) 0 = _ := i1
        have c1 : idx (cutsTo [0, 4] [(0 : Int), 4].length) 0 = some 0 := by decide +kernel
        have c2 : idx [(0 : Int), 4] 0 = some 0 := rfl
        have c3 : decide ((0 : Int) < ([(0 : Int), 4].length : Int)) = true := rfl
        simp only [split_Scopes_L1, c1, c2, c3, cond_true, Option.bind_some, along_eq, e]
        rfl
    refine ⟨⟨⟨0, ⟨0, 0, 0⟩⟩, ⟨0, 1, 1⟩⟩, ⟨⟨0, ⟨0, 0, 0⟩⟩, ⟨4, 1, 1⟩⟩, ?_⟩
    have c1 : idx (cutsTo [0, 4] [(0 : Int), 4].length) (([(0 : Int), 4].length : Nat) : Int) = some 4 := by decide +kernel
    simp only [Option.bind_some, hl, c1]
    rfl
  obtain ⟨p, q, n21⟩ := n21
  have n22 : split_Scopes ⟨⟨24, ⟨0, 0, 0⟩⟩, ⟨0, 0, 0⟩⟩ 3 [] = some ([], 8) := by
    unfold split_Scopes
    rw [Inside_bad (by decide)]; rfl
  unfold fix4 at n1 n2 n3 n4
  unfold l23_SplitNames
  simp only [n1, n2, n3, n4, n5, n6, n7, n8, n9, n10, n11, n12, n13, n14, n15, n16, n17, n18, n19, n20, n21, n22, alive_eq, Option.bind_some]
  rw [int_same_self _ (by decide), int_same_self _ (by decide)]
  rfl
end Go.Sh
