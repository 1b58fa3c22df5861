/- PLAIN: the sorting of slices.SortFunc answers as the kit's plain sorting (1). -/
import Derived.Test.YtcpogfjlehoabaaPg0
import Derived.Test.YtcpogfjlehoabaaPl0
import Derived.Sort.AssemblyPlain
import Derived.Sort.LotD5
namespace Go.Sh
open Go Go.Am
section
variable {T : Type} [Inhabited T] {P : T → Prop} {lt : T → T → Bool} {q : T → T → Option Int}

def CmpOk (q : T → T → Option Int) (lt : T → T → Bool) (P : T → Prop) : Prop := ∀ x y, P x → P y → ∃ r, q x y = some r ∧ decide (r < 0) = lt x y
def AllP (n : Nat) (P : T → Prop) (d : Array T) : Prop := d.size = n ∧ n ≤ 1000000 ∧ ∀ i, i < n → P d[i]!

theorem gx {d : Array T} {k : Nat} (h : k < d.size) : idx d.toList (k : Int) = some d[k]! := by
  simp [idx, h]
theorem gxs {d : Array T} {k : Nat} {i : Nat} {v : T} (h : k < d.size) : idx (d.toList.set i v) (k : Int) = some (d.setIfInBounds i v)[k]! := by
  have : d.toList.set i v = (d.setIfInBounds i v).toList := by simp
  rw [this]; exact gx (by simpa using h)
theorem gswp {d : Array T} {i j : Nat} : (d.toList.set i d[j]!).set j d[i]! = (Sort.swp d i j).toList := by simp [Sort.swp]
theorem AllP.swp {n : Nat} {d : Array T} (h : AllP n P d) {a b : Nat} (ha : a < n) (hb : b < n) : AllP n P (Sort.swp d a b) := by
  obtain ⟨h1, h2, h3⟩ := h
  refine ⟨by rw [Sort.swp_size]; exact h1, h2, fun k hk => ?_⟩
  rw [Sort.swp_get d (by omega) (by omega)]
  repeat' split
  all_goals first | exact h3 _ ha | exact h3 _ hb | exact h3 _ hk
theorem AllP.perm {n : Nat} {d d' : Array T} (h : AllP n P d) {a b : Nat} (hab : a ≤ b) (hb : b ≤ n) (hp : Sort.PermIn a b d d') : AllP n P d' := by
  obtain ⟨h1, h2, h3⟩ := h
  refine ⟨by rw [hp.1]; exact h1, h2, fun k hk => ?_⟩
  by_cases hk2 : k < a ∨ b ≤ k
  · rw [hp.2.1 k hk2]; exact h3 k hk
  · exact Sort.permIn_all d d' a b P (by omega) hp (fun i hi hi2 => h3 i (by omega)) k (by omega) (by omega)

theorem w1m (j : Nat) (h : j < 2000000) : w64 (((j + 1 : Nat) : Int) - 1) = (j : Int) := by rw [w64_id (by omega)]; omega
theorem w1p (j : Nat) (h : j < 2000000) : w64 ((j : Int) + 1) = ((j + 1 : Nat) : Int) := by rw [w64_id (by omega)]; omega
theorem wsub {a b : Nat} (h : a ≤ b) (h2 : b < 2000000) : w64 ((b : Int) - (a : Int)) = ((b - a : Nat) : Int) := by rw [w64_id (by omega)]; omega

/-! insertion sort -/
theorem insInner_sim (hq : CmpOk q lt P) (a n : Nat) : ∀ (j : Nat) (d : Array T), AllP n P d → j < n → loop (g_insertionSort_L2 (a : Int) q) ((j : Int), d.toList) = some (Sort.insInner lt a j d).toList ∧ AllP n P (Sort.insInner lt a j d)
  | 0, d, hd, hj => by
    have h0 : decide (((0 : Nat) : Int) > (a : Int)) = false := decide_eq_false (by omega)
    refine ⟨loop_done ?_, hd⟩
    simp only [g_insertionSort_L2, h0, cond_false, Option.bind_some]; rfl
  | j + 1, d, hd, hj => by
    have hsz := hd.1
    have hn := hd.2.1
    unfold Sort.insInner
    by_cases ha : j + 1 > a
    · have h0 : decide (((j + 1 : Nat) : Int) > (a : Int)) = true := decide_eq_true (by omega)
      obtain ⟨r, h1, h2⟩ := hq d[j + 1]! d[j]! (hd.2.2 _ hj) (hd.2.2 _ (by omega))
      by_cases hl : lt d[j + 1]! d[j]! = true
      · rw [if_pos (by simp [ha, hl])]
        have ih := insInner_sim hq a n j _ (hd.swp (a := j + 1) (b := j) hj (by omega)) (by omega)
        refine ⟨?_, ih.2⟩
        rw [loop_next (a' := ((j : Int), (Sort.swp d (j + 1) j).toList)) ?_]
        · exact ih.1
        · simp only [g_insertionSort_L2, h0, cond_true, gx (d := d) (k := j + 1) (by omega), w1m j (by omega), gx (d := d) (k := j) (by omega), gxs (d := d) (k := j) (by omega), Option.bind_some, h1, h2, hl, Int.toNat_natCast, gswp]
      · rw [if_neg (by simp [hl])]
        refine ⟨loop_done ?_, hd⟩
        simp only [g_insertionSort_L2, h0, cond_true, gx (d := d) (k := j + 1) (by omega), w1m j (by omega), gx (d := d) (k := j) (by omega), Option.bind_some, h1, h2, hl, cond_false]
    · rw [if_neg (by simp [ha])]
      have h0 : decide (((j + 1 : Nat) : Int) > (a : Int)) = false := decide_eq_false (by omega)
      refine ⟨loop_done ?_, hd⟩
      simp only [g_insertionSort_L2, h0, cond_false, Option.bind_some]

theorem insOuter_sim (hq : CmpOk q lt P) (a b n : Nat) (hb : b ≤ n) : ∀ (m i : Nat) (d : Array T), b - i = m → AllP n P d → i ≤ 1000001 → loop (g_insertionSort_L1 (b : Int) (a : Int) q) ((i : Int), d.toList) = some (Sort.insOuter lt a b i d).toList := by
  intro m
  induction m with
  | zero =>
    intro i d hm hd hi
    unfold Sort.insOuter
    rw [if_neg (by omega)]
    have h0 : decide ((i : Int) < (b : Int)) = false := decide_eq_false (by omega)
    exact loop_done (by simp only [g_insertionSort_L1, h0, cond_false])
  | succ m ih =>
    intro i d hm hd hi
    unfold Sort.insOuter
    rw [if_pos (by omega)]
    have h0 : decide ((i : Int) < (b : Int)) = true := decide_eq_true (by omega)
    obtain ⟨h1, h2⟩ := insInner_sim hq a n i d hd (by omega)
    have := hd.2.1
    rw [loop_next (a' := (((i + 1 : Nat) : Int), (Sort.insInner lt a i d).toList)) ?_]
    · exact ih (i + 1) _ (by omega) h2 (by omega)
    · simp only [g_insertionSort_L1, h0, cond_true, h1, Option.bind_some, w1p i (by omega)]

theorem insertionSort_sim (hq : CmpOk q lt P) {a b n : Nat} (hb : b ≤ n) (hab : a ≤ b) {d : Array T} (hd : AllP n P d) : g_insertionSort q d.toList (a : Int) (b : Int) = some (Sort.insertionSort lt d a b).toList := by
  have := hd.2.1
  unfold g_insertionSort Sort.insertionSort
  rw [w1p a (by omega), insOuter_sim hq a b n hb _ (a + 1) d rfl hd (by omega)]
  rfl

/-! heap sort -/
theorem siftDown_sim (hq : CmpOk q lt P) (hi first n : Nat) (hb : first + hi ≤ n) : ∀ (m root : Nat) (d : Array T), hi - root = m → AllP n P d → root ≤ 1000000 → (root < hi ∨ hi ≤ 1) → loop (g_siftDown_L1 (hi : Int) (first : Int) q) ((root : Int), d.toList) = some (Sort.siftDown lt hi first root d).toList ∧ AllP n P (Sort.siftDown lt hi first root d) := by
  intro m
  induction m using Nat.strongRecOn with
  | _ m ih =>
    intro root d hm hd hr hr2
    have hsz := hd.1
    have hn := hd.2.1
    unfold Sort.siftDown
    have e1 : w64 ((w64 (2 * (root : Int))) + 1) = ((2 * root + 1 : Nat) : Int) := by rw [w64_id (x := 2 * (root : Int)) (by omega), w64_id (by omega)]; omega
    by_cases hc : 2 * root + 1 ≥ hi
    · rw [dif_pos hc]
      have h0 : decide (((2 * root + 1 : Nat) : Int) ≥ (hi : Int)) = true := decide_eq_true (by omega)
      refine ⟨loop_done ?_, hd⟩
      simp only [g_siftDown_L1, e1, h0, cond_true]
    · rw [dif_neg hc]
      have h0 : decide (((2 * root + 1 : Nat) : Int) ≥ (hi : Int)) = false := decide_eq_false (by omega)
      have e2 : w64 (((2 * root + 1 : Nat) : Int) + 1) = ((2 * root + 2 : Nat) : Int) := w1p _ (by omega)
      have e3 : w64 ((first : Int) + ((2 * root + 1 : Nat) : Int)) = ((first + (2 * root + 1) : Nat) : Int) := by rw [w64_id (by omega)]; omega
      have e4 : w64 ((first : Int) + ((2 * root + 2 : Nat) : Int)) = ((first + (2 * root + 2) : Nat) : Int) := by rw [w64_id (by omega)]; omega
      have e5 : w64 ((first : Int) + (root : Int)) = ((first + root : Nat) : Int) := by rw [w64_id (by omega)]; omega
      have e6 : w64 (((first + (2 * root + 1) : Nat) : Int) + 1) = ((first + (2 * root + 2) : Nat) : Int) := w1p _ (by omega)
      have x1 := gx (d := d) (k := first + (2 * root + 1)) (by omega)
      have x0 := gx (d := d) (k := first + root) (by omega)
      -- which child
      have child : ∀ c, (c = 2 * root + 1 ∨ c = 2 * root + 2) → c < hi →
          (∀ (h : (cond (decide (((2 * root + 2 : Nat) : Int) < (hi : Int))) ((idx d.toList ((first + (2 * root + 1) : Nat) : Int)).bind fun v226 => (idx d.toList ((first + (2 * root + 2) : Nat) : Int)).bind fun v228 => (q v226 v228).bind fun r230 => some (decide (r230 < 0))) (some false)) = some (decide (c = 2 * root + 2))),
          (loop (g_siftDown_L1 (hi : Int) (first : Int) q) ((root : Int), d.toList) = some (if (!lt d[first + root]! d[first + c]!) = true then d else Sort.siftDown lt hi first c (Sort.swp d (first + root) (first + c))).toList) ∧ AllP n P (if (!lt d[first + root]! d[first + c]!) = true then d else Sort.siftDown lt hi first c (Sort.swp d (first + root) (first + c)))) := by
        intro c hcc hch h
        have xc := gx (d := d) (k := first + c) (by omega)
        have xs := fun v => gxs (d := d) (k := first + c) (i := first + root) (v := v) (by omega)
        obtain ⟨r, h1, h2⟩ := hq d[first + root]! d[first + c]! (hd.2.2 _ (by omega)) (hd.2.2 _ (by omega))
        have hb : (cond (decide (c = 2 * root + 2)) (some ((2 * root + 2 : Nat) : Int)) (some ((2 * root + 1 : Nat) : Int))) = some (c : Int) := by
          rcases hcc with rfl | rfl
          · simp
          · simp
        have ec : w64 ((first : Int) + (c : Int)) = ((first + c : Nat) : Int) := by rw [w64_id (by omega)]; omega
        by_cases hl : lt d[first + root]! d[first + c]! = true
        · have ihc := ih (hi - c) (by omega) c _ rfl (hd.swp (a := first + root) (b := first + c) (by omega) (by omega)) (by omega) (.inl hch)
          rw [if_neg (by simp [hl])]
          refine ⟨?_, ihc.2⟩
          rw [loop_next (a' := ((c : Int), (Sort.swp d (first + root) (first + c)).toList)) ?_]
          · exact ihc.1
          · simp only [g_siftDown_L1, e1, h0, cond_false, e2, e3, e6, h, Option.bind_some, hb, e5, ec, x0, xc, xs, h1, h2, hl, Bool.not_true, Int.toNat_natCast, gswp]
        · rw [if_pos (by simp [hl])]
          refine ⟨loop_done ?_, hd⟩
          simp only [g_siftDown_L1, e1, h0, cond_false, e2, e3, e6, h, Option.bind_some, hb, e5, ec, x0, xc, h1, h2, hl, Bool.not_false, cond_true]
      by_cases h2c : 2 * root + 2 < hi
      · have x2 := gx (d := d) (k := first + (2 * root + 2)) (by omega)
        have t2 : decide (((2 * root + 2 : Nat) : Int) < (hi : Int)) = true := decide_eq_true (by omega)
        obtain ⟨r, h1, h2⟩ := hq d[first + (2 * root + 1)]! d[first + (2 * root + 2)]! (hd.2.2 _ (by omega)) (hd.2.2 _ (by omega))
        by_cases hl : lt d[first + (2 * root + 1)]! d[first + (2 * root + 2)]! = true
        · rw [if_pos (by simp only [Bool.and_eq_true, decide_eq_true_eq]; exact ⟨by omega, hl⟩)]
          have := child (2 * root + 2) (.inr rfl) h2c (by simp only [t2, cond_true, x1, x2, Option.bind_some, h1, h2, hl, decide_true])
          rw [dif_pos h2c]
          exact this
        · rw [if_neg (by simp only [Bool.and_eq_true, decide_eq_true_eq]; rintro ⟨_, h⟩; exact hl h)]
          have := child (2 * root + 1) (.inl rfl) (by omega) (by simp only [t2, cond_true, x1, x2, Option.bind_some, h1, h2, hl]; simp)
          exact this
      · have t2 : decide (((2 * root + 2 : Nat) : Int) < (hi : Int)) = false := decide_eq_false (by omega)
        rw [if_neg (by simp only [Bool.and_eq_true, decide_eq_true_eq]; rintro ⟨h, _⟩; omega)]
        have := child (2 * root + 1) (.inl rfl) (by omega) (by simp only [t2, cond_false]; simp)
        exact this

end
end Go.Sh
