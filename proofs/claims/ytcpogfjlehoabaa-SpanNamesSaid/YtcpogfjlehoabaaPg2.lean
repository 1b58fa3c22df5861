/- PLAIN: the sorting of slices.SortFunc answers as the kit's plain sorting (2). -/
import Derived.Test.YtcpogfjlehoabaaPg1
namespace Go.Sh
open Go Go.Am
section
variable {T : Type} [Inhabited T] {P : T → Prop} {lt : T → T → Bool} {q : T → T → Option Int}

theorem lenEqA {n : Nat} {d d' : Array T} (h : AllP n P d) (h' : AllP n P d') : lenEq d'.toList.length d.toList.length = some () := by
  unfold lenEq
  rw [if_pos (by simp [h.1, h'.1])]

theorem gSift_sim (hq : CmpOk q lt P) (hi first n root : Nat) (hb : first + hi ≤ n) (d : Array T) (hd : AllP n P d) (hr : root ≤ 1000000) (h2 : root < hi ∨ hi ≤ 1) : g_siftDown q d.toList (root : Int) (hi : Int) (first : Int) = some (Sort.siftDown lt hi first root d).toList ∧ AllP n P (Sort.siftDown lt hi first root d) := by
  obtain ⟨h3, h4⟩ := siftDown_sim hq hi first n hb _ root d rfl hd hr h2
  exact ⟨by unfold g_siftDown; rw [h3]; rfl, h4⟩

theorem heapBuild_sim (hq : CmpOk q lt P) (a b n : Nat) (hb : b ≤ n) (hab : a ≤ b) : ∀ (k : Nat) (d : Array T), AllP n P d → (k ≤ b - a ∨ b - a = 0 ∧ k ≤ 1) → loop (g_heapSort_L1 q (b : Int) (a : Int)) ((k : Int) - 1, d.toList) = some (Sort.heapBuild lt (b - a) a k d).toList ∧ AllP n P (Sort.heapBuild lt (b - a) a k d)
  | 0, d, hd, hk => by
    have h0 : decide (((0 : Nat) : Int) - 1 ≥ 0) = false := decide_eq_false (by omega)
    refine ⟨loop_done ?_, hd⟩
    simp only [g_heapSort_L1, h0, cond_false]; rfl
  | k + 1, d, hd, hk => by
    have hn := hd.2.1
    have e : (((k + 1 : Nat) : Int) - 1) = (k : Int) := by omega
    rw [e]
    have h0 : decide ((k : Int) ≥ 0) = true := decide_eq_true (by omega)
    obtain ⟨h1, h2⟩ := gSift_sim hq (b - a) a n k (by omega) d hd (by omega) (by omega)
    have ih := heapBuild_sim hq a b n hb hab k _ h2 (by omega)
    refine ⟨?_, ih.2⟩
    rw [loop_next (a' := ((k : Int) - 1, (Sort.siftDown lt (b - a) a k d).toList)) ?_]
    · exact ih.1
    · have ew : w64 ((k : Int) - 1) = (k : Int) - 1 := w64_id (by omega)
      simp only [g_heapSort_L1, h0, cond_true, wsub hab (by omega : b < 2000000), h1, Option.bind_some, lenEqA hd h2, ew]

theorem heapPop_sim (hq : CmpOk q lt P) (a n : Nat) : ∀ (k : Nat) (d : Array T), AllP n P d → a + k ≤ n → loop (g_heapSort_L2 (a : Int) q) ((k : Int) - 1, d.toList) = some (Sort.heapPop lt a k d).toList
  | 0, d, hd, hk => by
    have h0 : decide (((0 : Nat) : Int) - 1 ≥ 0) = false := decide_eq_false (by omega)
    refine loop_done ?_
    simp only [g_heapSort_L2, h0, cond_false]; rfl
  | k + 1, d, hd, hk => by
    have hsz := hd.1
    have hn := hd.2.1
    have e : (((k + 1 : Nat) : Int) - 1) = (k : Int) := by omega
    rw [e]
    have h0 : decide ((k : Int) ≥ 0) = true := decide_eq_true (by omega)
    have hd1 := hd.swp (a := a) (b := a + k) (by omega) (by omega)
    obtain ⟨h1, h2⟩ := gSift_sim hq k a n 0 (by omega) _ hd1 (by omega) (by omega)
    have ih := heapPop_sim hq a n k _ h2 (by omega)
    rw [loop_next (a' := ((k : Int) - 1, (Sort.siftDown lt k a 0 (Sort.swp d a (a + k))).toList)) ?_]
    · exact ih
    · have ew : w64 ((k : Int) - 1) = (k : Int) - 1 := w64_id (by omega)
      have ea : w64 ((a : Int) + (k : Int)) = ((a + k : Nat) : Int) := by rw [w64_id (by omega)]; omega
      have h1 : g_siftDown q (Sort.swp d a (a + k)).toList 0 (k : Int) (a : Int) = _ := h1
      simp only [g_heapSort_L2, h0, cond_true, ea, gx (d := d) (k := a) (by omega), gx (d := d) (k := a + k) (by omega), gxs (d := d) (k := a + k) (by omega), Option.bind_some, Int.toNat_natCast, gswp, h1, lenEqA hd1 h2, ew]

theorem heapSort_sim (hq : CmpOk q lt P) {a b n : Nat} (hb : b ≤ n) (hab : a < b) {d : Array T} (hd : AllP n P d) : g_heapSort q d.toList (a : Int) (b : Int) = some (Sort.heapSort lt d a b).toList := by
  have hn := hd.2.1
  have e1 : w64 ((b : Int) - (a : Int)) = ((b - a : Nat) : Int) := wsub (by omega) (by omega)
  have e2 : w64 (((b - a : Nat) : Int) - 1) = ((b - a : Nat) : Int) - 1 := w64_id (by omega)
  have e3 : w64 (Int.tdiv (((b - a : Nat) : Int) - 1) 2) = (((b - a - 1) / 2 + 1 : Nat) : Int) - 1 := by
    rw [Int.tdiv_eq_ediv_of_nonneg (by omega), w64_id (by omega)]; omega
  obtain ⟨h1, h2⟩ := heapBuild_sim hq a b n hb (by omega) ((b - a - 1) / 2 + 1) d hd (by omega)
  unfold g_heapSort Sort.heapSort
  rw [e1, e2, e3, h1, Option.bind_some, heapPop_sim hq a n (b - a) _ h2 (by omega)]
  rfl

/-! reverseRange -/
theorem reverseLoop_sim (n : Nat) : ∀ (m i j : Nat) (d : Array T), j - i = m → AllP n P d → j < n → i ≤ 1000001 → loop (g_reverseRange_L1 (T := T)) ((i : Int), (j : Int), d.toList) = some (Sort.reverseLoop i j d).toList := by
  intro m
  induction m using Nat.strongRecOn with
  | _ m ih =>
    intro i j d hm hd hj hi
    have hsz := hd.1
    have hn := hd.2.1
    unfold Sort.reverseLoop
    by_cases hc : i < j
    · rw [if_pos hc]
      have h0 : decide ((i : Int) < (j : Int)) = true := decide_eq_true (by omega)
      have ej : w64 ((j : Int) - 1) = ((j - 1 : Nat) : Int) := by rw [w64_id (by omega)]; omega
      rw [loop_next (a' := (((i + 1 : Nat) : Int), ((j - 1 : Nat) : Int), (Sort.swp d i j).toList)) ?_]
      · exact ih _ (by omega) _ _ _ rfl (hd.swp (by omega) hj) (by omega) (by omega)
      · simp only [g_reverseRange_L1, h0, cond_true, gx (d := d) (k := i) (by omega), gx (d := d) (k := j) (by omega), gxs (d := d) (k := j) (by omega), Option.bind_some, Int.toNat_natCast, gswp, ej, w1p i (by omega)]
    · rw [if_neg hc]
      have h0 : decide ((i : Int) < (j : Int)) = false := decide_eq_false (by omega)
      exact loop_done (by simp only [g_reverseRange_L1, h0, cond_false])

theorem reverseRange_sim {a b n : Nat} (hb : b ≤ n) (hab : a < b) {d : Array T} (hd : AllP n P d) : g_reverseRange q d.toList (a : Int) (b : Int) = some (Sort.reverseRange d a b).toList := by
  have hn := hd.2.1
  have e1 : w64 ((b : Int) - 1) = ((b - 1 : Nat) : Int) := by rw [w64_id (by omega)]; omega
  unfold g_reverseRange Sort.reverseRange
  rw [e1, reverseLoop_sim n _ a (b - 1) d rfl hd (by omega) (by omega)]
  rfl

/-! the pivot -/
theorem order2_sim (hq : CmpOk q lt P) {n : Nat} {d : Array T} (hd : AllP n P d) {a b s : Nat} (ha : a < n) (hb : b < n) (hs : s ≤ 1000) : g_order2 q d.toList (a : Int) (b : Int) (s : Int) = some (((Sort.order2 lt d a b s).1 : Int), ((Sort.order2 lt d a b s).2.1 : Int), ((Sort.order2 lt d a b s).2.2 : Int)) ∧ (Sort.order2 lt d a b s).1 < n ∧ (Sort.order2 lt d a b s).2.1 < n ∧ (Sort.order2 lt d a b s).2.2 ≤ s + 1 := by
  have hsz := hd.1
  obtain ⟨r, h1, h2⟩ := hq d[b]! d[a]! (hd.2.2 _ hb) (hd.2.2 _ ha)
  unfold g_order2 Sort.order2
  rw [gx (d := d) (k := b) (by omega), gx (d := d) (k := a) (by omega)]
  simp only [Option.bind_some, h1, h2]
  by_cases hl : lt d[b]! d[a]! = true
  · rw [if_pos hl]
    simp only [hl, cond_true, w1p s (by omega)]
    exact ⟨trivial, hb, ha, by omega⟩
  · rw [if_neg hl]
    have : lt d[b]! d[a]! = false := by simpa using hl
    simp only [this, cond_false]
    exact ⟨trivial, ha, hb, by omega⟩

theorem median_sim (hq : CmpOk q lt P) {n : Nat} {d : Array T} (hd : AllP n P d) {a b c s : Nat} (ha : a < n) (hb : b < n) (hc : c < n) (hs : s ≤ 900) : g_median q d.toList (a : Int) (b : Int) (c : Int) (s : Int) = some (((Sort.median lt d a b c s).1 : Int), ((Sort.median lt d a b c s).2 : Int)) ∧ (Sort.median lt d a b c s).1 < n ∧ (Sort.median lt d a b c s).2 ≤ s + 3 := by
  obtain ⟨h1, a1, b1, c1⟩ := order2_sim hq hd ha hb (s := s) (by omega)
  obtain ⟨h2, a2, b2, c2⟩ := order2_sim hq hd b1 hc (s := (Sort.order2 lt d a b s).2.2) (by omega)
  obtain ⟨h3, a3, b3, c3⟩ := order2_sim hq hd a1 a2 (s := (Sort.order2 lt d (Sort.order2 lt d a b s).2.1 c (Sort.order2 lt d a b s).2.2).2.2) (by omega)
  unfold g_median Sort.median
  simp only [h1, h2, h3, Option.bind_some]
  exact ⟨trivial, b3, by omega⟩

theorem medianAdjacent_sim (hq : CmpOk q lt P) {n : Nat} {d : Array T} (hd : AllP n P d) {a s : Nat} (ha : 1 ≤ a) (ha2 : a + 1 < n) (hs : s ≤ 900) : g_medianAdjacent q d.toList (a : Int) (s : Int) = some (((Sort.medianAdjacent lt d a s).1 : Int), ((Sort.medianAdjacent lt d a s).2 : Int)) ∧ (Sort.medianAdjacent lt d a s).1 < n ∧ (Sort.medianAdjacent lt d a s).2 ≤ s + 3 := by
  have hn := hd.2.1
  obtain ⟨h1, h2, h3⟩ := median_sim hq hd (a := a - 1) (b := a) (c := a + 1) (s := s) (by omega) (by omega) ha2 hs
  have e : w64 ((a : Int) - 1) = ((a - 1 : Nat) : Int) := by rw [w64_id (by omega)]; omega
  unfold g_medianAdjacent Sort.medianAdjacent
  rw [e, w1p a (by omega), h1]
  exact ⟨rfl, h2, h3⟩

def hintI : Sort.Hint → Int
  | .unknown => 0
  | .increasing => 1
  | .decreasing => 2

theorem choosePivot_sim (hq : CmpOk q lt P) {n : Nat} {d : Array T} (hd : AllP n P d) {a b : Nat} (hab : a < b) (hb : b ≤ n) : g_choosePivot d.toList (a : Int) (b : Int) q = some (((Sort.choosePivot lt d a b).1 : Int), hintI (Sort.choosePivot lt d a b).2) := by
  have hn := hd.2.1
  have e0 : w64 ((b : Int) - (a : Int)) = ((b - a : Nat) : Int) := wsub (by omega) (by omega)
  have e1 : w64 (Int.tdiv ((b - a : Nat) : Int) 4) = (((b - a) / 4 : Nat) : Int) := by
    rw [Int.tdiv_eq_ediv_of_nonneg (by omega), w64_id (by omega)]; omega
  have em : ∀ k : Nat, k ≤ 3 → w64 ((a : Int) + (w64 ((((b - a) / 4 : Nat) : Int) * (k : Int)))) = ((a + (b - a) / 4 * k : Nat) : Int) := by
    intro k hk
    have : (b - a) / 4 * k ≤ (b - a) / 4 * 3 := Nat.mul_le_mul_left _ hk
    have e : ((((b - a) / 4 : Nat) : Int) * (k : Int)) = (((b - a) / 4 * k : Nat) : Int) := by push_cast; rfl
    rw [e, w64_id (x := (((b - a) / 4 * k : Nat) : Int)) (by omega), w64_id (by omega)]; omega
  have em1 := em 1 (by omega)
  have em2 := em 2 (by omega)
  have em3 := em 3 (by omega)
  have last : ∀ r : Nat × Nat, (cond (((r.2 : Int)) == 0) (some ((r.1 : Int), (1 : Int))) (cond (((r.2 : Int)) == 12) (some ((r.1 : Int), (2 : Int))) (some ((r.1 : Int), (0 : Int))))) = some ((r.1 : Int), hintI (if r.2 = 0 then Sort.Hint.increasing else if r.2 = 12 then Sort.Hint.decreasing else Sort.Hint.unknown)) := by
    intro r
    by_cases h0 : r.2 = 0
    · have : ((r.2 : Int) == 0) = true := by simp [h0]
      simp only [this, cond_true, if_pos h0]; rfl
    · have t0 : ((r.2 : Int) == 0) = false := by simp; omega
      by_cases h12 : r.2 = 12
      · have : ((r.2 : Int) == 12) = true := by simp; omega
        simp only [t0, this, cond_true, cond_false, if_neg h0, if_pos h12]; rfl
      · have : ((r.2 : Int) == 12) = false := by simp; omega
        simp only [t0, this, cond_false, if_neg h0, if_neg h12]; rfl
  unfold g_choosePivot Sort.choosePivot
  simp only [e0, e1]
  by_cases h8 : b - a ≥ 8
  · have t8 : decide (((b - a : Nat) : Int) ≥ 8) = true := decide_eq_true (by omega)
    by_cases h50 : b - a ≥ 50
    · have t50 : decide (((b - a : Nat) : Int) ≥ 50) = true := decide_eq_true (by omega)
      obtain ⟨x1, y1, z1⟩ := medianAdjacent_sim hq hd (a := a + (b - a) / 4 * 1) (s := 0) (by omega) (by omega) (by omega)
      obtain ⟨x2, y2, z2⟩ := medianAdjacent_sim hq hd (a := a + (b - a) / 4 * 2) (s := (Sort.medianAdjacent lt d (a + (b - a) / 4 * 1) 0).2) (by omega) (by omega) (by omega)
      obtain ⟨x3, y3, z3⟩ := medianAdjacent_sim hq hd (a := a + (b - a) / 4 * 3) (s := (Sort.medianAdjacent lt d (a + (b - a) / 4 * 2) (Sort.medianAdjacent lt d (a + (b - a) / 4 * 1) 0).2).2) (by omega) (by omega) (by omega)
      obtain ⟨x4, y4, z4⟩ := median_sim hq hd y1 y2 y3 (s := (Sort.medianAdjacent lt d (a + (b - a) / 4 * 3) (Sort.medianAdjacent lt d (a + (b - a) / 4 * 2) (Sort.medianAdjacent lt d (a + (b - a) / 4 * 1) 0).2).2).2) (by omega)
      simp only [if_pos h8, if_pos h50, t8, t50, cond_true]
      have g1 : w64 ((a : Int) + (w64 ((((b - a) / 4 : Nat) : Int) * 1))) = _ := em1
      have g2 : w64 ((a : Int) + (w64 ((((b - a) / 4 : Nat) : Int) * 2))) = _ := em2
      have g3 : w64 ((a : Int) + (w64 ((((b - a) / 4 : Nat) : Int) * 3))) = _ := em3
      have x1 : g_medianAdjacent q d.toList ((a + (b - a) / 4 * 1 : Nat) : Int) 0 = _ := x1
      rw [g1, g2, g3]
      simp only [x1, x2, x3, x4, Option.bind_some]
      exact last _
    · have t50 : decide (((b - a : Nat) : Int) ≥ 50) = false := decide_eq_false (by omega)
      obtain ⟨x4, y4, z4⟩ := median_sim hq hd (a := a + (b - a) / 4 * 1) (b := a + (b - a) / 4 * 2) (c := a + (b - a) / 4 * 3) (s := 0) (by omega) (by omega) (by omega) (by omega)
      simp only [if_pos h8, if_neg h50, t8, t50, cond_true, cond_false]
      have g1 : w64 ((a : Int) + (w64 ((((b - a) / 4 : Nat) : Int) * 1))) = _ := em1
      have g2 : w64 ((a : Int) + (w64 ((((b - a) / 4 : Nat) : Int) * 2))) = _ := em2
      have g3 : w64 ((a : Int) + (w64 ((((b - a) / 4 : Nat) : Int) * 3))) = _ := em3
      have x4 : g_median q d.toList ((a + (b - a) / 4 * 1 : Nat) : Int) ((a + (b - a) / 4 * 2 : Nat) : Int) ((a + (b - a) / 4 * 3 : Nat) : Int) 0 = _ := x4
      rw [g1, g2, g3]
      simp only [x4, Option.bind_some]
      exact last _
  · have t8 : decide (((b - a : Nat) : Int) ≥ 8) = false := decide_eq_false (by omega)
    simp only [if_neg h8, t8, cond_false]
    have g2 : w64 ((a : Int) + (w64 ((((b - a) / 4 : Nat) : Int) * 2))) = _ := em2
    rw [g2]
    simp only [Option.bind_some]
    exact last (a + (b - a) / 4 * 2, 0)
end
end Go.Sh
