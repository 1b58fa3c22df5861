/- PLAIN, SPLIT: cuts, repeating, the part of a point. -/
import Derived.Test.YtbfdjpffambpfaaPl0
import Derived.Test.YtbfdjpffambpfaaPsplit
namespace Go.Sh
open Go Go.Am

theorem int_same_self (s : List Int) (hl : s.length ≤ 1000000) : r23_Same s s = some true := by
  have := loop_rng (f := r23_Same_L1 s s) (σ := Unit) (fun k _ => (k : Int)) s.length (fun k _ => True) (fun b => b = .inl ()) ?_ ?_ (k0 := 0) (c0 := ()) (by omega) trivial
  · obtain ⟨b, h1, rfl⟩ := this
    have h1 : loop (r23_Same_L1 s s) 0 = some (.inl ()) := h1
    unfold r23_Same
    simp [h1]
  · intro k _ hk _
    have hb : decide ((k : Int) < (s.length : Int)) = true := decide_eq_true (by omega)
    refine .inl ⟨(), ?_, trivial⟩
    simp only [r23_Same_L1, hb, cond_true, idx_lt hk, Option.bind_some]
    rw [w64_id (by omega)]; simp
  · intro _ _
    have hb : decide ((s.length : Int) < (s.length : Int)) = false := decide_eq_false (by omega)
    exact ⟨_, by simp only [r23_Same_L1, hb, cond_false], rfl⟩

/-! ### Cuts -/
def NN (l : List Int) : Prop := ∀ x ∈ l, 0 ≤ x
theorem idxf_eq (l : List Int) (hl : l.length ≤ 1000000) : ∃ r : Int, slices_IndexFunc_int_int l (fun x0 => split_Cuts_1 x0) = some r ∧ ((r = -1 ∧ NN l) ∨ (0 ≤ r ∧ ¬ NN l)) := by
  have := loop_rng (f := slices_IndexFunc_int_int_L1 l (fun x0 => split_Cuts_1 x0)) (σ := Unit) (fun k _ => (k : Int)) l.length (fun k _ => ∀ i (h : i < l.length), i < k → 0 ≤ l[i]) (fun b => (b = .inl () ∧ NN l) ∨ ∃ k : Nat, b = .inr (k : Int) ∧ ¬ NN l) ?_ ?_ (k0 := 0) (c0 := ()) (by omega) (fun i _ h => by omega)
  · obtain ⟨b, h1, h2⟩ := this
    have h1 : loop (slices_IndexFunc_int_int_L1 l (fun x0 => split_Cuts_1 x0)) 0 = some b := h1
    unfold slices_IndexFunc_int_int
    rw [h1]
    rcases h2 with ⟨rfl, h2⟩ | ⟨k, rfl, h2⟩
    · exact ⟨-1, rfl, .inl ⟨rfl, h2⟩⟩
    · exact ⟨k, rfl, .inr ⟨by omega, h2⟩⟩
  · intro k _ hk hg
    have hb : decide ((k : Int) < (l.length : Int)) = true := decide_eq_true (by omega)
    simp only [slices_IndexFunc_int_int_L1, hb, cond_true, idx_lt hk, Option.bind_some, split_Cuts_1]
    by_cases h : l[k] < 0
    · refine .inr ⟨_, by simp only [h, decide_true, cond_true], .inr ⟨k, rfl, fun hn => ?_⟩⟩
      have := hn _ (List.getElem_mem hk); omega
    · refine .inl ⟨(), ?_, fun i hi h' => ?_⟩
      · simp only [h, decide_false, cond_false]
        rw [w64_id (by omega)]; rfl
      · by_cases e : i = k
        · subst e; omega
        · exact hg i hi (by omega)
  · intro _ hg
    have hb : decide ((l.length : Int) < (l.length : Int)) = false := decide_eq_false (by omega)
    refine ⟨_, by simp only [slices_IndexFunc_int_int_L1, hb, cond_false], .inl ⟨rfl, fun x hx => ?_⟩⟩
    obtain ⟨i, hi, rfl⟩ := List.mem_iff_getElem.1 hx
    exact hg i hi hi
theorem neg_loop (l : List Int) (hl : l.length ≤ 1000000) : ∃ b, loop (r23_Cuts_L1 l) 0 = some b ∧ ((b = .inl () ∧ NN l) ∨ (b = .inr ([], 8) ∧ ¬ NN l)) := by
  refine loop_rng (f := r23_Cuts_L1 l) (σ := Unit) (fun k _ => (k : Int)) l.length (fun k _ => ∀ i (h : i < l.length), i < k → 0 ≤ l[i]) _ ?_ ?_ (k0 := 0) (c0 := ()) (by omega) (fun i _ h => by omega)
  · intro k _ hk hg
    have hb : decide ((k : Int) < (l.length : Int)) = true := decide_eq_true (by omega)
    simp only [r23_Cuts_L1, hb, cond_true, idx_lt hk, Option.bind_some]
    by_cases h : l[k] < 0
    · refine .inr ⟨_, by simp only [h, decide_true, cond_true], .inr ⟨rfl, fun hn => ?_⟩⟩
      have := hn _ (List.getElem_mem hk); omega
    · refine .inl ⟨(), ?_, fun i hi h' => ?_⟩
      · simp only [h, decide_false, cond_false]
        rw [w64_id (by omega)]; rfl
      · by_cases e : i = k
        · subst e; omega
        · exact hg i hi (by omega)
  · intro _ hg
    have hb : decide ((l.length : Int) < (l.length : Int)) = false := decide_eq_false (by omega)
    refine ⟨_, by simp only [r23_Cuts_L1, hb, cond_false], .inl ⟨rfl, fun x hx => ?_⟩⟩
    obtain ⟨i, hi, rfl⟩ := List.mem_iff_getElem.1 hx
    exact hg i hi hi
/-- The sums of first parts. -/
def sumsTo (l : List Int) (k : Nat) : Int := (l.take k).sum
theorem sumsTo_succ {l : List Int} {k : Nat} (h : k < l.length) : sumsTo l (k + 1) = sumsTo l k + l[k] := by
  unfold sumsTo; rw [List.take_succ_eq_append_getElem h, List.sum_append]; simp
def cutsTo (l : List Int) (k : Nat) : List Int := (List.range (k + 1)).map (sumsTo l)
theorem cutsTo_len (l : List Int) (k : Nat) : (cutsTo l k).length = k + 1 := by simp [cutsTo]
theorem cutsTo_get {l : List Int} {k : Nat} : idx (cutsTo l k) (k : Int) = some (sumsTo l k) := by
  rw [idx_nat]; simp [cutsTo]
theorem cutsTo_succ (l : List Int) (k : Nat) : cutsTo l (k + 1) = cutsTo l k ++ [sumsTo l (k + 1)] := by
  unfold cutsTo; rw [List.range_succ, List.map_append]; rfl
theorem cuts_loop (l : List Int) (hl : l.length ≤ 200) (hn : NN l) (hI : ∀ x ∈ l, I64 x) : ∃ b, loop (split_Cuts_L1 l) (0, [0]) = some b ∧ loop (r23_Cuts_L2 l) (0, [0]) = some b ∧ (b = .inl (cutsTo l l.length) ∨ b = .inr ([], 16)) := by
  have step : ∀ k, k < l.length → 0 ≤ sumsTo l k ∧ sumsTo l k ≤ 1000000 → ∀ (f : Int × List Int → Option ((Int × List Int) ⊕ ((List Int) ⊕ (List Int × Int)))), f = split_Cuts_L1 l ∨ f = r23_Cuts_L2 l →
      f ((k : Int), cutsTo l k) = if sumsTo l (k + 1) ≤ 1000000 then some (.inl (((k + 1 : Nat) : Int), cutsTo l (k + 1))) else some (.inr (.inr ([], 16))) := by
    intro k hk hs f hf
    have hb : decide ((k : Int) < (l.length : Int)) = true := decide_eq_true (by omega)
    have h0 := hn _ (List.getElem_mem hk)
    have h1 := hI _ (List.getElem_mem hk)
    unfold I64 at h1
    have hsucc := sumsTo_succ hk
    have hw : w64 ((k : Int) + 1) = ((k + 1 : Nat) : Int) := by rw [w64_id (by omega)]; omega
    rcases hf with rfl | rfl
    · have e1 : w64 (1000000 - sumsTo l k) = 1000000 - sumsTo l k := w64_id (by omega)
      simp only [split_Cuts_L1, hb, cond_true, idx_lt hk, cutsTo_get, Option.bind_some, e1, hw]
      by_cases h : sumsTo l (k + 1) ≤ 1000000
      · have e2 : decide (l[k] > 1000000 - sumsTo l k) = false := decide_eq_false (by omega)
        have e3 : w64 (sumsTo l k + l[k]) = sumsTo l (k + 1) := by rw [w64_id (by omega)]; omega
        simp only [e2, cond_false, h, if_true, e3]
        rw [app_of (by rw [cutsTo_len]; simp; omega), cutsTo_succ]; rfl
      · have e2 : decide (l[k] > 1000000 - sumsTo l k) = true := decide_eq_true (by omega)
        simp only [e2, cond_true, h, if_false]
    · simp only [r23_Cuts_L2, hb, cond_true, idx_lt hk, cutsTo_get, Option.bind_some, hw]
      by_cases h : sumsTo l (k + 1) ≤ 1000000
      · have e2 : decide (l[k] > 1000000) = false := decide_eq_false (by omega)
        have e3 : w64 (sumsTo l k + l[k]) = sumsTo l (k + 1) := by rw [w64_id (by omega)]; omega
        have e4 : decide (sumsTo l (k + 1) > 1000000) = false := decide_eq_false (by omega)
        simp only [e2, cond_false, h, if_true, e3, e4, Option.bind_some]
        rw [app_of (by rw [cutsTo_len]; simp; omega), cutsTo_succ]; rfl
      · by_cases h2 : l[k] > 1000000
        · have e2 : decide (l[k] > 1000000) = true := decide_eq_true h2
          simp only [e2, cond_true, Option.bind_some, h, if_false]
        · have e2 : decide (l[k] > 1000000) = false := decide_eq_false h2
          have e3 : w64 (sumsTo l k + l[k]) = sumsTo l (k + 1) := by rw [w64_id (by omega)]; omega
          have e4 : decide (sumsTo l (k + 1) > 1000000) = true := decide_eq_true (by omega)
          simp only [e2, cond_false, h, if_false, e3, e4, Option.bind_some, cond_true]
  have stop : ∀ (f : Int × List Int → Option ((Int × List Int) ⊕ ((List Int) ⊕ (List Int × Int)))), f = split_Cuts_L1 l ∨ f = r23_Cuts_L2 l → f ((l.length : Int), cutsTo l l.length) = some (.inr (.inl (cutsTo l l.length))) := by
    intro f hf
    have hb : decide ((l.length : Int) < (l.length : Int)) = false := decide_eq_false (by omega)
    rcases hf with rfl | rfl
    · simp only [split_Cuts_L1, hb, cond_false]
    · simp only [r23_Cuts_L2, hb, cond_false]
  have main : ∀ n k, l.length - k = n → k ≤ l.length → (0 ≤ sumsTo l k ∧ sumsTo l k ≤ 1000000) → ∃ b, loop (split_Cuts_L1 l) ((k : Int), cutsTo l k) = some b ∧ loop (r23_Cuts_L2 l) ((k : Int), cutsTo l k) = some b ∧ (b = .inl (cutsTo l l.length) ∨ b = .inr ([], 16)) := by
    intro n
    induction n with
    | zero =>
      intro k hn hk hs
      obtain rfl : k = l.length := by omega
      exact ⟨_, loop_done (stop _ (.inl rfl)), loop_done (stop _ (.inr rfl)), .inl rfl⟩
    | succ n ih =>
      intro k hnk hk hs
      have s1 := step k (by omega) hs _ (.inl rfl)
      have s2 := step k (by omega) hs _ (.inr rfl)
      by_cases h : sumsTo l (k + 1) ≤ 1000000
      · rw [if_pos h] at s1 s2
        rw [loop_next s1, loop_next s2]
        refine ih (k + 1) (by omega) (by omega) ⟨?_, h⟩
        have := sumsTo_succ (show k < l.length by omega)
        have := hn _ (List.getElem_mem (show k < l.length by omega))
        omega
      · rw [if_neg h] at s1 s2
        exact ⟨_, loop_done s1, loop_done s2, .inr rfl⟩
  exact main _ 0 rfl (by omega) (by simp [sumsTo])
theorem cuts_same (l : List Int) (hl : l.length ≤ 1000000) (hI : ∀ x ∈ l, I64 x) : ∃ r, split_Cuts l = some r ∧ r23_Cuts l = some r ∧ r.1.length ≤ l.length + 1 := by
  unfold split_Cuts r23_Cuts
  by_cases h : (l.length : Int) > 200
  · simp only [h, decide_true, cond_true]
    exact ⟨_, rfl, rfl, by simp⟩
  · simp only [h, decide_false, cond_false]
    obtain ⟨r, h1, h2⟩ := idxf_eq l hl
    obtain ⟨b, h3, h4⟩ := neg_loop l hl
    unfold slices_ContainsFunc_int_int
    rw [h1, h3]
    simp only [Option.bind_some]
    rcases h2 with ⟨rfl, hn⟩ | ⟨hr, hn⟩
    · rcases h4 with ⟨rfl, _⟩ | ⟨rfl, h4⟩
      · obtain ⟨b, g1, g2, g3⟩ := cuts_loop l (by omega) hn hI
        have e : decide ((-1 : Int) ≥ 0) = false := rfl
        simp only [e, cond_false, g1, g2, Option.bind_some]
        rcases g3 with rfl | rfl
        · exact ⟨_, rfl, rfl, by simp [cutsTo_len]⟩
        · exact ⟨_, rfl, rfl, by simp⟩
      · exact absurd hn h4
    · rcases h4 with ⟨rfl, h4⟩ | ⟨rfl, _⟩
      · exact absurd h4 hn
      · have e : decide (r ≥ 0) = true := decide_eq_true hr
        simp only [e, cond_true]
        exact ⟨_, rfl, rfl, by simp⟩

/-! ### At -/
def Inc (l : List Int) : Prop := ∀ i (h : i + 1 < l.length), l[i] ≤ l[i + 1]
theorem less_eq (a b : Int) : cmp_Less_int a b = some (decide (a < b)) := by
  unfold cmp_Less_int cmp_isNaN_int
  have : (a != a) = false := by simp
  simp [this]
theorem sorted_loop (l : List Int) (hl : l.length ≤ 1000000) (h0 : l ≠ []) : ∃ b, slices_IsSorted_int_int l = some b ∧ (b = true ↔ Inc l) := by
  have hpos : 0 < l.length := List.length_pos_iff.2 h0
  have hw : w64 ((l.length : Int) - 1) = ((l.length - 1 : Nat) : Int) := by rw [w64_id (by omega)]; omega
  unfold slices_IsSorted_int_int
  rw [hw]
  have := loop_inv (f := slices_IsSorted_int_int_L1 l) (fun a : Int => ∃ k : Nat, a = k ∧ k < l.length ∧ ∀ i (h : i + 1 < l.length), k ≤ i → l[i] ≤ l[i + 1]) (fun a => a.toNat) (fun b => (b = .inl () ∧ Inc l) ∨ (b = .inr false ∧ ¬ Inc l)) ?_ (a := ((l.length - 1 : Nat) : Int)) ⟨l.length - 1, rfl, by omega, fun i h h' => by omega⟩
  · obtain ⟨b, h1, h2⟩ := this
    rw [h1]
    rcases h2 with ⟨rfl, h2⟩ | ⟨rfl, h2⟩
    · exact ⟨true, rfl, by simp [h2]⟩
    · exact ⟨false, rfl, by simp [h2]⟩
  · rintro a ⟨k, rfl, hk, hg⟩
    cases k with
    | zero => exact .inr ⟨.inl (), by simp [slices_IsSorted_int_int_L1], .inl ⟨rfl, fun i h => hg i h (by omega)⟩⟩
    | succ k =>
      have e0 : decide (((k + 1 : Nat) : Int) > 0) = true := decide_eq_true (by omega)
      have e1 : idx l (w64 (((k + 1 : Nat) : Int) - 1)) = some (l[k]'(by omega)) := by rw [w64_id (by omega)]; exact idx_of (by omega) (by omega)
      simp only [slices_IsSorted_int_int_L1, e0, cond_true, idx_lt hk, e1, Option.bind_some, less_eq]
      by_cases h : l[k+1] < l[k]
      · refine .inr ⟨.inr false, by simp only [h, decide_true, cond_true], .inr ⟨rfl, fun hi => ?_⟩⟩
        have := hi k hk; omega
      · refine .inl ⟨(k : Int), ?_, ⟨k, rfl, by omega, fun i hi h' => ?_⟩, by omega⟩
        · simp only [h, decide_false, cond_false]
          rw [w64_id (by omega)]; congr 2; omega
        · by_cases e : i = k
          · subst e; omega
          · exact hg i hi (by omega)
theorem r23_sorted_loop (l : List Int) (hl : l.length ≤ 1000000) (h0 : l ≠ []) : ∃ b, loop (r23_At_L1 l) 1 = some b ∧ ((b = .inl () ∧ Inc l) ∨ (b = .inr (0, 8) ∧ ¬ Inc l)) := by
  have hpos : 0 < l.length := List.length_pos_iff.2 h0
  refine loop_rng (f := r23_At_L1 l) (σ := Unit) (fun k _ => (k : Int)) l.length (fun k _ => 1 ≤ k ∧ ∀ i (h : i + 1 < l.length), i + 1 < k → l[i] ≤ l[i + 1]) _ ?_ ?_ (k0 := 1) (c0 := ()) (by omega) ⟨by omega, fun i h h' => by omega⟩
  · rintro k _ hk ⟨h1, hg⟩
    obtain ⟨j, rfl⟩ : ∃ j, k = j + 1 := ⟨k - 1, by omega⟩
    have hb : decide (((j + 1 : Nat) : Int) < (l.length : Int)) = true := decide_eq_true (by omega)
    have e1 : idx l (w64 (((j + 1 : Nat) : Int) - 1)) = some (l[j]'(by omega)) := by rw [w64_id (by omega)]; exact idx_of (by omega) (by omega)
    simp only [r23_At_L1, hb, cond_true, idx_lt hk, e1, Option.bind_some]
    by_cases h : l[j+1] < l[j]
    · refine .inr ⟨.inr (0, 8), by simp only [h, decide_true, cond_true], .inr ⟨rfl, fun hi => ?_⟩⟩
      have := hi j hk; omega
    · refine .inl ⟨(), ?_, by omega, fun i hi h' => ?_⟩
      · simp only [h, decide_false, cond_false]
        rw [w64_id (by omega)]; rfl
      · by_cases e : i = j
        · subst e; omega
        · exact hg i hi (by omega)
  · rintro _ ⟨h1, hg⟩
    have hb : decide ((l.length : Int) < (l.length : Int)) = false := decide_eq_false (by omega)
    exact ⟨_, by simp only [r23_At_L1, hb, cond_false], .inl ⟨rfl, fun i h => hg i h h⟩⟩
theorem at_loops (l : List Int) (x : Int) (hl : l.length ≤ 1000000) (h0 : l ≠ []) : ∃ b, loop (split_At_L1 (l.drop 1) l x) 0 = some b ∧ loop (r23_At_L2 l x) 0 = some b := by
  have hpos : 0 < l.length := List.length_pos_iff.2 h0
  have hc : loop (split_At_L1 (l.drop 1) l x) 0 = loop (r23_At_L2 l x) 0 := by
    refine loop_congr (fun a : Int => ∃ k : Nat, a = k ∧ k < l.length) ?_ ?_ ⟨0, rfl, hpos⟩
    · rintro a ⟨k, rfl, hk⟩
      have e : decide ((k : Int) < ((l.drop 1).length : Int)) = decide (w64 ((k : Int) + 1) < (l.length : Int)) := by
        rw [w64_id (by omega)]; simp; omega
      simp only [split_At_L1, r23_At_L2, e]
    · rintro a a' ⟨k, rfl, hk⟩ h
      refine ⟨k + 1, ?_⟩
      unfold split_At_L1 at h
      by_cases hlt : k + 1 < l.length
      · have hb : decide ((k : Int) < ((l.drop 1).length : Int)) = true := decide_eq_true (by simp; omega)
        have hw : w64 ((k : Int) + 1) = ((k + 1 : Nat) : Int) := by rw [w64_id (by omega)]; omega
        simp only [hb, cond_true, idx_lt hk, hw, idx_lt hlt, Option.bind_some] at h
        refine ⟨?_, hlt⟩
        by_cases h1 : l[k] ≤ x <;> by_cases h2 : x < l[k+1] <;> simp [h1, h2] at h <;> exact h.symm
      · have hb : decide ((k : Int) < ((l.drop 1).length : Int)) = false := decide_eq_false (by simp; omega)
        simp only [hb, cond_false] at h
        cases h
  have := loop_rng (f := r23_At_L2 l x) (σ := Unit) (fun k _ => (k : Int)) (l.length - 1) (fun k _ => True) (fun _ => True) ?_ ?_ (k0 := 0) (c0 := ()) (by omega) trivial
  · obtain ⟨b, h1, _⟩ := this
    have h1 : loop (r23_At_L2 l x) 0 = some b := h1
    exact ⟨b, by rw [hc]; exact h1, h1⟩
  · intro k _ hk _
    have hk1 : k + 1 < l.length := by omega
    have hk0 : k < l.length := by omega
    have hw : w64 ((k : Int) + 1) = ((k + 1 : Nat) : Int) := by rw [w64_id (by omega)]; omega
    have hb : decide (((k + 1 : Nat) : Int) < (l.length : Int)) = true := decide_eq_true (by omega)
    simp only [r23_At_L2, hw, hb, cond_true, idx_lt hk0, idx_lt hk1, Option.bind_some]
    by_cases h1 : x ≥ l[k] <;> by_cases h2 : x < l[k+1]
    · exact .inr ⟨.inr ((k : Int), 0), by simp [h1, h2], trivial⟩
    all_goals exact .inl ⟨(), by simp [h1, h2], trivial⟩
  · intro _ _
    have hb : decide (w64 (((l.length - 1 : Nat) : Int) + 1) < (l.length : Int)) = false := by rw [w64_id (by omega)]; exact decide_eq_false (by omega)
    exact ⟨.inl (), by simp only [r23_At_L2, hb, cond_false], trivial⟩
theorem at_same (l : List Int) (x : Int) (hl : l.length ≤ 1000000) : ∃ r, split_At l x = some r ∧ r23_At l x = some r := by
  unfold split_At r23_At
  by_cases h0 : l = []
  · subst h0; exact ⟨(0, 8), rfl, rfl⟩
  have hpos : 0 < l.length := List.length_pos_iff.2 h0
  have e0 : ((l.length : Int) == 0) = false := beq_eq_false_iff_ne.2 (by omega)
  have i0 : idx l 0 = some l[0] := idx_lt (k := 0) hpos
  simp only [e0, cond_false, i0, Option.bind_some]
  by_cases h1 : l[0] = 0
  · have e1 : (l[0] != 0) = false := by simpa using h1
    obtain ⟨b, s1, s2⟩ := sorted_loop l hl h0
    obtain ⟨c, t1, t2⟩ := r23_sorted_loop l hl h0
    simp only [e1, cond_false, s1, t1, Option.bind_some]
    by_cases hi : Inc l
    · obtain rfl : b = true := s2.2 hi
      rcases t2 with ⟨rfl, _⟩ | ⟨rfl, h⟩
      · have es : slc l 1 (l.length : Int) = some (l.drop 1) := by
          unfold slc
          rw [if_pos ⟨by omega, by omega, by omega⟩]
          congr 1
          exact List.take_of_length_le (by simp)
        obtain ⟨m, m1, m2⟩ := at_loops l x hl h0
        simp only [Bool.not_true, cond_false, es, Option.bind_some, m1, m2]
        cases m with
        | inl _ => exact ⟨_, rfl, rfl⟩
        | inr r => exact ⟨_, rfl, rfl⟩
      · exact absurd hi h
    · obtain rfl : b = false := by cases b <;> simp_all
      rcases t2 with ⟨rfl, h⟩ | ⟨rfl, _⟩
      · exact absurd h hi
      · exact ⟨_, rfl, rfl⟩
  · have e1 : (l[0] != 0) = true := by simpa using h1
    simp only [e1, cond_true]
    exact ⟨_, rfl, rfl⟩
end Go.Sh
