/- PLAIN, SPLIT: what cuts, repeating and the part of a point answer; the chapter's examples; the law SplitWhole. -/
import Derived.Test.YtbfdjpffambpfaaPs4
import Derived.Test.YtbfdjpffambpfaaPs2
namespace Go.Sh
open Go Go.Am

/-! ### Sums -/
theorem sums_bd {ws : List Int} (hb : ∀ x ∈ ws, 0 ≤ x ∧ x ≤ 1000000) : ∀ k, k ≤ ws.length → 0 ≤ sumsTo ws k ∧ sumsTo ws k ≤ k * 1000000
  | 0, _ => by simp [sumsTo]
  | k + 1, hk => by
    have ih := sums_bd hb k (by omega)
    have := hb _ (List.getElem_mem (show k < ws.length by omega))
    rw [sumsTo_succ (show k < ws.length by omega)]; omega
theorem sums_all (ws : List Int) : sumsTo ws ws.length = ws.sum := by simp [sumsTo]
theorem sum_eq {ws : List Int} (hl : ws.length ≤ 200) (hb : ∀ x ∈ ws, 0 ≤ x ∧ x ≤ 1000000) : r23_Sum ws = some ws.sum := by
  have := loop_rng (f := r23_Sum_L1 ws) (σ := Unit) (fun j _ => (sumsTo ws j, (j : Int))) ws.length (fun j c => True) (fun b => b = ws.sum) ?_ ?_ (k0 := 0) (c0 := ()) (by omega) trivial
  · obtain ⟨b, h1, rfl⟩ := this
    have h1 : loop (r23_Sum_L1 ws) (0, 0) = some ws.sum := h1
    unfold r23_Sum; rw [h1]; rfl
  · rintro j _ hj _
    have hb' : decide ((j : Int) < (ws.length : Int)) = true := decide_eq_true (by omega)
    refine .inl ⟨(), ?_, trivial⟩
    simp only [r23_Sum_L1, hb', cond_true, idx_lt hj, Option.bind_some]
    have b1 := sums_bd hb j (by omega)
    have b2 := sums_bd hb (j + 1) (by omega)
    have e := sumsTo_succ hj
    rw [w64_id (by omega), w64_id (by omega), ← e]; rfl
  · rintro _ _
    have hb' : decide ((ws.length : Int) < (ws.length : Int)) = false := decide_eq_false (by omega)
    exact ⟨sumsTo ws ws.length, by simp only [r23_Sum_L1, hb', cond_false], sums_all ws⟩

/-! ### Repeating -/
theorem repeat_eq {w n : Int} (hw : 0 ≤ w ∧ w ≤ 1000000) (hn : 1 ≤ n ∧ n ≤ 1000000) : ∃ k : Nat, (k : Int) = max 1 ((2 * w + n) / (2 * n)) ∧ split_Repeat w n = some (if k > 200 then ([], 4) else (parts w k k, 0)) := by
  obtain ⟨k, hk⟩ : ∃ k : Nat, (k : Int) = max 1 ((2 * w + n) / (2 * n)) := ⟨(max 1 ((2 * w + n) / (2 * n))).toNat, by omega⟩
  refine ⟨k, hk, ?_⟩
  unfold split_Repeat
  have a1 : decide (w < 0) = false := decide_eq_false (by omega)
  have a2 : decide (w > 1000000) = false := decide_eq_false (by omega)
  have a3 : decide (n < 1) = false := decide_eq_false (by omega)
  have a4 : decide (n > 1000000) = false := decide_eq_false (by omega)
  simp only [a1, a2, a3, a4, cond_false, Option.bind_some]
  have b1 : w64 (2 * w) = 2 * w := w64_id (by omega)
  have b2 : w64 (2 * w + n) = 2 * w + n := w64_id (by omega)
  have b3 : w64 (2 * n) = 2 * n := w64_id (by omega)
  rw [b1, b2, b3]
  have q0 : 0 ≤ (2 * w + n) / (2 * n) := Int.ediv_nonneg (by omega) (by omega)
  have q1 : (2 * w + n) / (2 * n) ≤ 2 * w + n := Int.ediv_le_self _ (by omega)
  have c5 : quo64 (2 * w + n) (2 * n) = some ((2 * w + n) / (2 * n)) := by
    unfold quo64; rw [if_neg (by omega), Int.tdiv_eq_ediv_of_nonneg (by omega), w64_id (by omega)]
  rw [c5]
  simp only [Option.bind_some, ← hk]
  by_cases hbig : k > 200
  · have : decide ((k : Int) > 200) = true := decide_eq_true (by omega)
    rw [if_pos hbig]; simp only [this, cond_true]
  · have : decide ((k : Int) > 200) = false := decide_eq_false (by omega)
    rw [if_neg hbig]; simp only [this, cond_false]
    rw [repeat_ones k (by omega) (by omega)]
    simp only [Option.bind_some]
    rw [sum_loop k (by omega)]
    simp only [Option.bind_some]
    rw [shares_loop w k hw (by omega) (by omega)]
    rfl

/-! ### Cuts -/
theorem cuts_eq {l : List Int} (hl : l.length ≤ 200) (hn : NN l) (hs : ∀ k, k ≤ l.length → 0 ≤ sumsTo l k ∧ sumsTo l k ≤ 1000000) : split_Cuts l = some (cutsTo l l.length, 0) := by
  unfold split_Cuts
  have h : decide ((l.length : Int) > 200) = false := decide_eq_false (by omega)
  simp only [h, cond_false]
  obtain ⟨r, h1, h2⟩ := idxf_eq l (by omega)
  unfold slices_ContainsFunc_int_int
  rw [h1]
  rcases h2 with ⟨rfl, _⟩ | ⟨_, h2⟩
  · have e : decide ((-1 : Int) ≥ 0) = false := rfl
    simp only [Option.bind_some, e, cond_false]
    have := loop_rng (f := split_Cuts_L1 l) (σ := Unit) (fun k _ => ((k : Int), cutsTo l k)) l.length (fun _ _ => True) (fun b => b = .inl (cutsTo l l.length)) ?_ ?_ (k0 := 0) (c0 := ()) (by omega) trivial
    · obtain ⟨b, g1, rfl⟩ := this
      have e0 : cutsTo l 0 = [0] := by simp [cutsTo, sumsTo]
      rw [e0] at g1
      have g1 : loop (split_Cuts_L1 l) (0, [0]) = some (.inl (cutsTo l l.length)) := g1
      rw [g1]; rfl
    · rintro k _ hk _
      have hb : decide ((k : Int) < (l.length : Int)) = true := decide_eq_true (by omega)
      have s1 := hs k (by omega)
      have s2 := hs (k + 1) (by omega)
      have hsucc := sumsTo_succ hk
      have hw : w64 ((k : Int) + 1) = ((k + 1 : Nat) : Int) := by rw [w64_id (by omega)]; omega
      have e1 : w64 (1000000 - sumsTo l k) = 1000000 - sumsTo l k := w64_id (by omega)
      have e2 : decide (l[k] > 1000000 - sumsTo l k) = false := decide_eq_false (by omega)
      have e3 : w64 (sumsTo l k + l[k]) = sumsTo l (k + 1) := by rw [w64_id (by omega)]; omega
      refine .inl ⟨(), ?_, trivial⟩
      simp only [split_Cuts_L1, hb, cond_true, idx_lt hk, cutsTo_get, Option.bind_some, e1, e2, cond_false, e3, hw]
      rw [app_of (by rw [cutsTo_len]; simp; omega), cutsTo_succ]; rfl
    · rintro _ _
      have hb : decide ((l.length : Int) < (l.length : Int)) = false := decide_eq_false (by omega)
      exact ⟨_, by simp only [split_Cuts_L1, hb, cond_false], rfl⟩
  · exact absurd hn h2

/-! ### The part of a point -/
theorem at_eq {l : List Int} (x : Int) (hl : l.length ≤ 1000000) (h0 : l ≠ []) (hz : l[0]'(List.length_pos_iff.2 h0) = 0) (hi : Inc l) :
    split_At l x = some (0, 2) ∧ (∀ i (h : i + 1 < l.length), ¬ (l[i] ≤ x ∧ x < l[i + 1])) ∨ ∃ (i : Nat) (h : i + 1 < l.length), split_At l x = some ((i : Int), 0) ∧ l[i] ≤ x ∧ x < l[i + 1] := by
  have hpos : 0 < l.length := List.length_pos_iff.2 h0
  obtain ⟨b, s1, s2⟩ := sorted_loop l hl h0
  have hb : b = true := s2.2 hi
  subst hb
  have key := loop_rng (f := split_At_L1 (l.drop 1) l x) (σ := Unit) (fun k _ => (k : Int)) (l.length - 1) (fun k _ => ∀ i (h : i + 1 < l.length), i < k → ¬ (l[i] ≤ x ∧ x < l[i + 1]))
    (fun b => (b = .inl () ∧ ∀ i (h : i + 1 < l.length), ¬ (l[i] ≤ x ∧ x < l[i + 1])) ∨ ∃ (i : Nat) (h : i + 1 < l.length), b = .inr ((i : Int), 0) ∧ l[i] ≤ x ∧ x < l[i + 1]) ?_ ?_ (k0 := 0) (c0 := ()) (by omega) (fun i _ h => by omega)
  · obtain ⟨b, g1, g2⟩ := key
    have g1 : loop (split_At_L1 (l.drop 1) l x) 0 = some b := g1
    have e1 : ((l.length : Int) == 0) = false := by rw [beq_eq_false_iff_ne]; omega
    have e2 : idx l 0 = some (l[0]'hpos) := idx_of rfl hpos
    have e3 : slc l 1 (l.length : Int) = some (l.drop 1) := by
      unfold slc; rw [if_pos ⟨by omega, by omega, by omega⟩]
      congr 1
      exact List.take_of_length_le (by simp)
    have e4 : ∀ r, ((some b : Option (Unit ⊕ (Int × Int))).bind fun m91 => (match m91 with | .inl b93 => some (0, 2) | .inr x1 => some x1)) = some r → split_At l x = some r := by
      intro r hr
      unfold split_At
      simp only [e1, cond_false, e2, Option.bind_some, hz, s1, Bool.not_true, bne_self_eq_false, e3, g1]
      exact hr
    rcases g2 with ⟨rfl, g2⟩ | ⟨i, h, rfl, g2⟩
    · exact .inl ⟨e4 _ rfl, g2⟩
    · exact .inr ⟨i, h, e4 _ rfl, g2⟩
  · intro k _ hk hg
    have hb : decide ((k : Int) < ((l.drop 1).length : Int)) = true := decide_eq_true (by simp; omega)
    have hw : w64 ((k : Int) + 1) = ((k + 1 : Nat) : Int) := by rw [w64_id (by omega)]; omega
    simp only [split_At_L1, hb, cond_true, idx_lt (show k < l.length by omega), hw, idx_lt (show k + 1 < l.length by omega), Option.bind_some]
    by_cases h : l[k]'(by omega) ≤ x ∧ x < l[k + 1]'(by omega)
    · refine .inr ⟨.inr ((k : Int), 0), by simp [h.1, h.2], .inr ⟨k, by omega, rfl, h⟩⟩
    · refine .inl ⟨(), ?_, fun i hi hik => ?_⟩
      · by_cases h1 : l[k]'(by omega) ≤ x
        · have h2 : ¬ x < l[k + 1]'(by omega) := fun h2 => h ⟨h1, h2⟩
          simp [h1, h2]
        · simp [h1]
      · by_cases e : i = k
        · subst e; exact h
        · exact hg i hi (by omega)
  · intro _ hg
    have hb : decide (((l.length - 1 : Nat) : Int) < ((l.drop 1).length : Int)) = false := decide_eq_false (by simp)
    exact ⟨.inl (), by simp only [split_At_L1, hb, cond_false], .inl ⟨rfl, fun i h => hg i h (by omega)⟩⟩

/-! ### The chapter's examples -/
def fourL : List api_Part := [⟨1, 3, ⟨0, 0⟩⟩, ⟨2, 0, ⟨1, 4⟩⟩, ⟨3, 1, ⟨0, 0⟩⟩, ⟨3, 2, ⟨0, 0⟩⟩]
theorem four_sizes : split_Sizes 10 fourL = some ([3, 2, 1, 4], 0) := by
  rw [split_Sizes_eq 10 fourL (fun p hp => ?_)]
  · decide +kernel
  · unfold PartI I64
    simp only [fourL, List.mem_cons, List.not_mem_nil, or_false] at hp
    rcases hp with rfl | rfl | rfl | rfl <;> decide
theorem alive_eq : l23_alive = some true := by
  unfold l23_alive
  have h1 : l23_four = some fourL := rfl
  obtain ⟨k, k1, k2⟩ := repeat_eq (w := 10) (n := 4) (by omega) (by omega)
  obtain rfl : k = 3 := by omega
  have h2 : split_Repeat 10 4 = some ([3, 3, 4], 0) := by rw [k2]; decide +kernel
  have h3 : split_Cuts [3, 2, 0, 5] = some ([0, 3, 5, 5, 10], 0) := by
    rw [cuts_eq (by decide) (by unfold NN; decide) (fun k hk => ?_)]
    · decide +kernel
    · have : k = 0 ∨ k = 1 ∨ k = 2 ∨ k = 3 ∨ k = 4 := by simp at hk; omega
      rcases this with rfl | rfl | rfl | rfl | rfl <;> decide
  have h4 : split_At [0, 3, 5, 5, 10] 5 = some (3, 0) := by
    have hinc : Inc [0, 3, 5, 5, 10] := fun i h => by
      have : i = 0 ∨ i = 1 ∨ i = 2 ∨ i = 3 := by simp at h; omega
      rcases this with rfl | rfl | rfl | rfl <;> simp
    rcases at_eq (l := [0, 3, 5, 5, 10]) 5 (by decide) (by decide) rfl hinc with ⟨_, h⟩ | ⟨i, h, e, h5, h6⟩
    · exact absurd ⟨by decide, by decide⟩ (h 3 (by decide))
    · have : i = 0 ∨ i = 1 ∨ i = 2 ∨ i = 3 := by simp at h; omega
      rcases this with rfl | rfl | rfl | rfl
      · simp at h6
      · simp at h6
      · simp at h6
      · exact e
  simp only [h1, four_sizes, h2, h3, h4, Option.bind_some]
  rw [int_same_self _ (by decide), int_same_self _ (by decide), int_same_self _ (by decide)]
  rfl

/-! ### SplitWhole -/
theorem cut_mono {R W s t : Int} (hR : 0 ≤ R) (hs : 0 ≤ s) (ht : s ≤ t) (hW : 0 < W) : cutR R W s ≤ cutR R W t := by
  unfold cutR
  have h1 : 0 ≤ R * s := Int.mul_nonneg hR hs
  have h2 : R * s ≤ R * t := Int.mul_le_mul_of_nonneg_left ht hR
  rw [Int.tdiv_eq_ediv_of_nonneg h1, Int.tdiv_eq_ediv_of_nonneg (by omega)]
  exact Int.ediv_le_ediv hW h2
theorem sz_bd {w : Int} {l : List api_Part} (hw : 0 ≤ w ∧ w ≤ 1000000) (hn : l.length ≤ 200) (ha : AllOk l) (hR : 0 ≤ restS w l l.length ∧ restS w l l.length ≤ 1000000) {i : Nat} (h : i < l.length) : 0 ≤ szI w l i ∧ szI w l i ≤ 1000000 := by
  by_cases h3 : l[i].Kind = 3
  · rw [szI_3 h h3]
    have wst := wt_step ha h
    have w0 := wt_bd ha i (by omega)
    have wn := wt_bd ha l.length (by omega)
    have wm := wt_mono ha (i := i + 1) l.length (by omega) (by omega)
    have hlt := wst.2.2 h3
    have hW : 0 < wtS l l.length ∧ wtS l l.length ≤ 200000000 := ⟨by omega, by omega⟩
    have c := cut_ok hR (s := wtS l i) ⟨w0.1, by omega⟩ hW
    have d := cut_ok hR (s := wtS l (i + 1)) ⟨by omega, wm⟩ hW
    have := cut_mono hR.1 w0.1 wst.1 hW.1
    omega
  · rw [szI_n h h3]
    have := own_bd hw (ha _ (List.getElem_mem h)) h3
    omega
theorem sz_sum {w : Int} {l : List api_Part} : ∀ k, k ≤ l.length → (sizesTo w l k).sum = fixS w l k + cutR (restS w l l.length) (wtS l l.length) (wtS l k)
  | 0, _ => by simp [sizesTo, fixS, wtS, cutR]
  | k + 1, h => by
    have hk : k < l.length := by omega
    rw [sizesTo_succ, List.sum_append, sz_sum k (by omega), fixS_succ hk]
    by_cases h3 : l[k].Kind = 3
    · rw [szI_3 hk h3]; simp [h3]; omega
    · have := wtS_succ hk
      rw [if_neg h3] at this
      rw [szI_n hk h3, show wtS l (k + 1) = wtS l k by omega]; simp [h3]; omega
theorem sz_total {w : Int} {l : List api_Part} (hR : ¬ (restS w l l.length > 0 ∧ wtS l l.length = 0)) (h0 : 0 ≤ restS w l l.length) : (sizesTo w l l.length).sum = w := by
  rw [sz_sum l.length (by omega)]
  have : cutR (restS w l l.length) (wtS l l.length) (wtS l l.length) = restS w l l.length := by
    unfold cutR
    by_cases h : wtS l l.length = 0
    · rw [h]; simp; omega
    · exact Int.mul_tdiv_cancel _ h
  rw [this]; unfold restS; omega
theorem sz_get {w : Int} {l : List api_Part} {i : Nat} (h : i < l.length) : idx (sizesTo w l l.length) (i : Int) = some (szI w l i) := by
  rw [idx_nat]; simp [sizesTo, h]

/-- **THE LAW SplitWhole.** -/
theorem splitWhole (w : Int) (l : List api_Part) (hI : ∀ p ∈ l, PartI p) : l23_SplitWhole w l = some true := by
  unfold l23_SplitWhole
  rw [alive_eq, r23_Check_eq l, split_Sizes_eq w l hI]
  simp only [Option.bind_some]
  by_cases hc : chk l = 0
  · have e : (chk l != 0) = false := by simpa using hc
    simp only [e, cond_false]
    by_cases hw : w < 0 ∨ w > 1000000
    · by_cases h1 : w < 0
      · simp [h1]
      · have h2 : w > 1000000 := by omega
        simp [h1, h2]
    · have h1 : ¬ w < 0 := by omega
      have h2 : ¬ w > 1000000 := by omega
      simp only [decide_eq_false h1, decide_eq_false h2, cond_false, Option.bind_some, Bool.not_true]
      obtain ⟨hn, ha⟩ := chk_zero hc
      have hw' : 0 ≤ w ∧ w ≤ 1000000 := ⟨by omega, by omega⟩
      have fb := fix_bd hw' ha l.length (by omega)
      unfold sizesS
      rw [if_neg (by simpa using hc), if_neg hw]
      by_cases r0 : restS w l l.length < 0
      · rw [if_pos r0]; rfl
      rw [if_neg r0]
      by_cases r1 : restS w l l.length > 0 ∧ wtS l l.length = 0
      · rw [if_pos r1]; rfl
      rw [if_neg r1]
      have hR : 0 ≤ restS w l l.length ∧ restS w l l.length ≤ 1000000 := ⟨by omega, by unfold restS; omega⟩
      have bd : ∀ x ∈ sizesTo w l l.length, 0 ≤ x ∧ x ≤ 1000000 := by
        intro x hx
        unfold sizesTo at hx
        obtain ⟨i, hi, rfl⟩ := List.mem_map.1 hx
        exact sz_bd hw' hn ha hR (by simpa using hi)
      have es := sum_eq (ws := sizesTo w l l.length) (by rw [sizesTo_len]; exact hn) bd
      rw [sz_total r1 hR.1] at es
      have key := loop_rng (f := l23_SplitWhole_L1 (sizesTo w l l.length, 0) l) (σ := Unit) (fun k _ => (k : Int)) l.length (fun _ _ => True) (fun b => b = .inl ()) ?_ ?_ (k0 := 0) (c0 := ()) (by omega) trivial
      · obtain ⟨b, g1, rfl⟩ := key
        have g1 : loop (l23_SplitWhole_L1 (sizesTo w l l.length, 0) l) 0 = some (.inl ()) := g1
        simp only [sizesTo_len, es, g1, bne_self_eq_false, cond_false, Option.bind_some]
      · rintro k _ hk _
        have hb : decide ((k : Int) < ((sizesTo w l l.length).length : Int)) = true := decide_eq_true (by rw [sizesTo_len]; omega)
        have hs : w64 ((k : Int) + 1) = ((k + 1 : Nat) : Int) := by rw [w64_id (by omega)]; omega
        have b := sz_bd hw' hn ha hR hk
        have e0 : decide (szI w l k < 0) = false := decide_eq_false (by omega)
        refine .inl ⟨(), ?_, trivial⟩
        simp only [l23_SplitWhole_L1, hb, cond_true, sz_get hk, Option.bind_some, e0, cond_false, idx_lt hk, hs]
        by_cases k1 : l[k].Kind = 1
        · have e1 : (l[k].Kind == 1) = true := by simpa using k1
          have : szI w l k = l[k].Size := by rw [szI_n hk (by omega)]; unfold own; rw [if_neg (by omega)]
          simp only [e1, cond_true, this, bne_self_eq_false, Option.bind_some, cond_false]
        · have e1 : (l[k].Kind == 1) = false := by simpa using k1
          simp only [e1, cond_false, Option.bind_some]
      · rintro _ _
        have hb : decide ((l.length : Int) < ((sizesTo w l l.length).length : Int)) = false := decide_eq_false (by rw [sizesTo_len]; omega)
        exact ⟨_, by simp only [l23_SplitWhole_L1, hb, cond_false], rfl⟩
  · have e : (chk l != 0) = true := by simpa using hc
    simp [e]
end Go.Sh
