/- PLAIN: the sorting of slices.SortFunc answers as the kit's plain sorting (4): the partitions, the insertion sort that may give up. -/
import Derived.Test.YtcpogfjlehoabaaPg3
namespace Go.Sh
open Go Go.Am
section
variable {T : Type} [Inhabited T] {P : T → Prop} {lt : T → T → Bool} {q : T → T → Option Int}

theorem scanUp_gen {f : Int → Option (Int ⊕ Int)} (p : T → Bool) (d : Array T) (j : Nat)
    (hf : ∀ k : Nat, k ≤ 1000002 → f (k : Int) = if (decide (k ≤ j) && p d[k]!) = true then some (.inl ((k + 1 : Nat) : Int)) else some (.inr (k : Int))) (hj : j ≤ 1000000) :
    ∀ (m i : Nat), j + 1 - i = m → i ≤ 1000002 → loop f (i : Int) = some ((Sort.scanUp p d j i : Nat) : Int) := by
  intro m
  induction m with
  | zero =>
    intro i hm hi
    unfold Sort.scanUp
    have hc : ¬ (decide (i ≤ j) && p d[i]!) = true := by simp; omega
    rw [if_neg hc]
    exact loop_done (by rw [hf i hi, if_neg hc])
  | succ m ih =>
    intro i hm hi
    unfold Sort.scanUp
    by_cases hc : (decide (i ≤ j) && p d[i]!) = true
    · rw [if_pos hc, loop_next (by rw [hf i hi, if_pos hc])]
      exact ih (i + 1) (by omega) (by omega)
    · rw [if_neg hc]
      exact loop_done (by rw [hf i hi, if_neg hc])

theorem scanDown_gen {f : Int → Option (Int ⊕ Int)} (p : T → Bool) (d : Array T) (i n : Nat) (hi : 1 ≤ i)
    (hf : ∀ k : Nat, k < n → f (k : Int) = if (decide (i ≤ k) && p d[k]!) = true then some (.inl ((k - 1 : Nat) : Int)) else some (.inr (k : Int))) :
    ∀ (j : Nat), j < n → loop f (j : Int) = some ((Sort.scanDown p d i j : Nat) : Int)
  | 0, hj => by
    have hc : ¬ (decide (i ≤ 0) && p d[0]!) = true := by simp; omega
    exact loop_done (by rw [hf 0 hj, if_neg hc]; rfl)
  | j + 1, hj => by
    unfold Sort.scanDown
    by_cases hc : (decide (i ≤ j + 1) && p d[j + 1]!) = true
    · rw [if_pos hc, loop_next (by rw [hf (j + 1) hj, if_pos hc])]
      exact scanDown_gen p d i n hi hf j (by omega)
    · rw [if_neg hc]
      exact loop_done (by rw [hf (j + 1) hj, if_neg hc])

theorem part_L4 (hq : CmpOk q lt P) {n : Nat} {d : Array T} (hd : AllP n P d) {a j : Nat} (ha : a < n) (hj : j < n) (x : Int) (k : Nat) (hk : k ≤ 1000002) :
    g_partition_L4 (x, (j : Int), d.toList) (a : Int) q (k : Int) = if (decide (k ≤ j) && (fun x => lt x d[a]!) d[k]!) = true then some (.inl ((k + 1 : Nat) : Int)) else some (.inr (k : Int)) := by
  have hsz := hd.1
  by_cases h : k ≤ j
  · obtain ⟨r, h1, h2⟩ := hq d[k]! d[a]! (hd.2.2 _ (by omega)) (hd.2.2 _ ha)
    have t : decide ((k : Int) ≤ (j : Int)) = true := decide_eq_true (by omega)
    simp only [g_partition_L4, t, cond_true, gx (d := d) (k := k) (by omega), gx (d := d) (k := a) (by omega), Option.bind_some, h1, h2, w1p k (by omega)]
    simp only [decide_eq_true h, Bool.true_and, Bool.cond_eq_ite]
  · have t : decide ((k : Int) ≤ (j : Int)) = false := decide_eq_false (by omega)
    simp only [g_partition_L4, t, cond_false, Option.bind_some]
    simp [h]
theorem part_L5 (hq : CmpOk q lt P) {n : Nat} {d : Array T} (hd : AllP n P d) {a i : Nat} (ha : a < n) (hi : 1 ≤ i) (x y : Int) (k : Nat) (hk : k < n) :
    g_partition_L5 (i : Int) (x, y, d.toList) (a : Int) q (k : Int) = if (decide (i ≤ k) && (fun x => !lt x d[a]!) d[k]!) = true then some (.inl ((k - 1 : Nat) : Int)) else some (.inr (k : Int)) := by
  have hsz := hd.1
  have hn := hd.2.1
  by_cases h : i ≤ k
  · obtain ⟨r, h1, h2⟩ := hq d[k]! d[a]! (hd.2.2 _ (by omega)) (hd.2.2 _ ha)
    have t : decide ((i : Int) ≤ (k : Int)) = true := decide_eq_true (by omega)
    have w : w64 ((k : Int) - 1) = ((k - 1 : Nat) : Int) := by rw [w64_id (by omega)]; omega
    simp only [g_partition_L5, t, cond_true, gx (d := d) (k := k) (by omega), gx (d := d) (k := a) (by omega), Option.bind_some, h1, h2, w]
    simp only [decide_eq_true h, Bool.true_and, Bool.cond_eq_ite]
  · have t : decide ((i : Int) ≤ (k : Int)) = false := decide_eq_false (by omega)
    simp only [g_partition_L5, t, cond_false, Option.bind_some]
    simp [h]
theorem pe_L2 (hq : CmpOk q lt P) {n : Nat} {d : Array T} (hd : AllP n P d) {a j : Nat} (ha : a < n) (hj : j < n) (x : Int) (k : Nat) (hk : k ≤ 1000002) :
    g_partitionEqual_L2 (x, (j : Int), d.toList) (a : Int) q (k : Int) = if (decide (k ≤ j) && (fun x => !lt d[a]! x) d[k]!) = true then some (.inl ((k + 1 : Nat) : Int)) else some (.inr (k : Int)) := by
  have hsz := hd.1
  by_cases h : k ≤ j
  · obtain ⟨r, h1, h2⟩ := hq d[a]! d[k]! (hd.2.2 _ ha) (hd.2.2 _ (by omega))
    have t : decide ((k : Int) ≤ (j : Int)) = true := decide_eq_true (by omega)
    simp only [g_partitionEqual_L2, t, cond_true, gx (d := d) (k := k) (by omega), gx (d := d) (k := a) (by omega), Option.bind_some, h1, h2, w1p k (by omega)]
    simp only [decide_eq_true h, Bool.true_and, Bool.cond_eq_ite]
  · have t : decide ((k : Int) ≤ (j : Int)) = false := decide_eq_false (by omega)
    simp only [g_partitionEqual_L2, t, cond_false, Option.bind_some]
    simp [h]
theorem pe_L3 (hq : CmpOk q lt P) {n : Nat} {d : Array T} (hd : AllP n P d) {a i : Nat} (ha : a < n) (hi : 1 ≤ i) (x y : Int) (k : Nat) (hk : k < n) :
    g_partitionEqual_L3 (i : Int) (x, y, d.toList) (a : Int) q (k : Int) = if (decide (i ≤ k) && (fun x => lt d[a]! x) d[k]!) = true then some (.inl ((k - 1 : Nat) : Int)) else some (.inr (k : Int)) := by
  have hsz := hd.1
  have hn := hd.2.1
  by_cases h : i ≤ k
  · obtain ⟨r, h1, h2⟩ := hq d[a]! d[k]! (hd.2.2 _ ha) (hd.2.2 _ (by omega))
    have t : decide ((i : Int) ≤ (k : Int)) = true := decide_eq_true (by omega)
    have w : w64 ((k : Int) - 1) = ((k - 1 : Nat) : Int) := by rw [w64_id (by omega)]; omega
    simp only [g_partitionEqual_L3, t, cond_true, gx (d := d) (k := k) (by omega), gx (d := d) (k := a) (by omega), Option.bind_some, h1, h2, w]
    simp only [decide_eq_true h, Bool.true_and, Bool.cond_eq_ite]
  · have t : decide ((i : Int) ≤ (k : Int)) = false := decide_eq_false (by omega)
    simp only [g_partitionEqual_L3, t, cond_false, Option.bind_some]
    simp [h]

theorem partLoop_sim (hq : CmpOk q lt P) (a n : Nat) (ha : a < n) : ∀ (m i j : Nat) (d : Array T), j + 1 - i = m → AllP n P d → 1 ≤ i → i ≤ n + 1 → j < n →
    loop (g_partition_L3 (a : Int) q) ((i : Int), (j : Int), d.toList) = some (((Sort.partLoop lt a i j d).1 : Int), (Sort.partLoop lt a i j d).2.toList) ∧ AllP n P (Sort.partLoop lt a i j d).2 ∧ (Sort.partLoop lt a i j d).1 < n := by
  intro m
  induction m using Nat.strongRecOn with
  | _ m ih =>
    intro i j d hm hd hi hi2 hj
    have hsz := hd.1
    have hn := hd.2.1
    rw [Sort.partLoop_eq]
    have s1 := scanUp_gen (f := g_partition_L4 ((i : Int), (j : Int), d.toList) (a : Int) q) (fun x => lt x d[a]!) d j (fun k hk => part_L4 hq hd ha hj _ k hk) (by omega) _ i rfl (by omega)
    have g1 := Sort.scanUp_ge (fun x => lt x d[a]!) d j i
    have u1 := (Sort.scanUp_spec (fun x => lt x d[a]!) d j _ i rfl).2.1
    generalize Sort.scanUp (fun x => lt x d[a]!) d j i = i2 at s1 g1 u1 ⊢
    have s2 := scanDown_gen (f := g_partition_L5 (i2 : Int) ((i : Int), (j : Int), d.toList) (a : Int) q) (fun x => !lt x d[a]!) d i2 n (by omega) (fun k hk => part_L5 hq hd ha (by omega) _ _ k hk) j hj
    have g2 := Sort.scanDown_le (fun x => !lt x d[a]!) d i2 j
    generalize Sort.scanDown (fun x => !lt x d[a]!) d i2 j = j2 at s2 g2 ⊢
    by_cases hc : i2 > j2
    · rw [if_pos hc]
      have t : decide ((i2 : Int) > (j2 : Int)) = true := decide_eq_true (by omega)
      refine ⟨loop_done ?_, hd, by show j2 < n; omega⟩
      simp only [g_partition_L3, s1, s2, Option.bind_some, t, cond_true]
    · rw [if_neg hc]
      have t : decide ((i2 : Int) > (j2 : Int)) = false := decide_eq_false (by omega)
      have ihc := ih ((j2 - 1) + 1 - (i2 + 1)) (by omega) (i2 + 1) (j2 - 1) _ rfl (hd.swp (a := i2) (b := j2) (by omega) (by omega)) (by omega) (by omega) (by omega)
      refine ⟨?_, ihc.2⟩
      rw [loop_next (a' := (((i2 + 1 : Nat) : Int), ((j2 - 1 : Nat) : Int), (Sort.swp d i2 j2).toList)) ?_]
      · exact ihc.1
      · have w : w64 ((j2 : Int) - 1) = ((j2 - 1 : Nat) : Int) := by rw [w64_id (by omega)]; omega
        simp only [g_partition_L3, s1, s2, Option.bind_some, t, cond_false, gx (d := d) (k := i2) (by omega), gx (d := d) (k := j2) (by omega), gxs (d := d) (k := j2) (by omega), Int.toNat_natCast, gswp, w, w1p i2 (by omega)]

theorem partEqLoop_sim (hq : CmpOk q lt P) (a n : Nat) (ha : a < n) : ∀ (m i j : Nat) (d : Array T), j + 1 - i = m → AllP n P d → 1 ≤ i → i ≤ n + 1 → j < n →
    loop (g_partitionEqual_L1 (a : Int) q) ((i : Int), (j : Int), d.toList) = some (((Sort.partEqLoop lt a i j d).1 : Int), (Sort.partEqLoop lt a i j d).2.toList) := by
  intro m
  induction m using Nat.strongRecOn with
  | _ m ih =>
    intro i j d hm hd hi hi2 hj
    have hsz := hd.1
    have hn := hd.2.1
    rw [Sort.partEqLoop_eq]
    have s1 := scanUp_gen (f := g_partitionEqual_L2 ((i : Int), (j : Int), d.toList) (a : Int) q) (fun x => !lt d[a]! x) d j (fun k hk => pe_L2 hq hd ha hj _ k hk) (by omega) _ i rfl (by omega)
    have g1 := Sort.scanUp_ge (fun x => !lt d[a]! x) d j i
    have u1 := (Sort.scanUp_spec (fun x => !lt d[a]! x) d j _ i rfl).2.1
    generalize Sort.scanUp (fun x => !lt d[a]! x) d j i = i2 at s1 g1 u1 ⊢
    have s2 := scanDown_gen (f := g_partitionEqual_L3 (i2 : Int) ((i : Int), (j : Int), d.toList) (a : Int) q) (fun x => lt d[a]! x) d i2 n (by omega) (fun k hk => pe_L3 hq hd ha (by omega) _ _ k hk) j hj
    have g2 := Sort.scanDown_le (fun x => lt d[a]! x) d i2 j
    generalize Sort.scanDown (fun x => lt d[a]! x) d i2 j = j2 at s2 g2 ⊢
    by_cases hc : i2 > j2
    · rw [if_pos hc]
      have t : decide ((i2 : Int) > (j2 : Int)) = true := decide_eq_true (by omega)
      refine loop_done ?_
      simp only [g_partitionEqual_L1, s1, s2, Option.bind_some, t, cond_true]
    · rw [if_neg hc]
      have t : decide ((i2 : Int) > (j2 : Int)) = false := decide_eq_false (by omega)
      rw [loop_next (a' := (((i2 + 1 : Nat) : Int), ((j2 - 1 : Nat) : Int), (Sort.swp d i2 j2).toList)) ?_]
      · exact ih ((j2 - 1) + 1 - (i2 + 1)) (by omega) (i2 + 1) (j2 - 1) _ rfl (hd.swp (a := i2) (b := j2) (by omega) (by omega)) (by omega) (by omega) (by omega)
      · have w : w64 ((j2 : Int) - 1) = ((j2 - 1 : Nat) : Int) := by rw [w64_id (by omega)]; omega
        simp only [g_partitionEqual_L1, s1, s2, Option.bind_some, t, cond_false, gx (d := d) (k := i2) (by omega), gx (d := d) (k := j2) (by omega), gxs (d := d) (k := j2) (by omega), Int.toNat_natCast, gswp, w, w1p i2 (by omega)]

theorem partitionEqual_sim (hq : CmpOk q lt P) {a b n p : Nat} (hb : b ≤ n) (hab : a < b) (hp : p < n) {d : Array T} (hd : AllP n P d) :
    g_partitionEqual q d.toList (a : Int) (b : Int) (p : Int) = some (((Sort.partitionEqual lt d a b p).1 : Int), (Sort.partitionEqual lt d a b p).2.toList) := by
  have hsz := hd.1
  have hn := hd.2.1
  have w : w64 ((b : Int) - 1) = ((b - 1 : Nat) : Int) := by rw [w64_id (by omega)]; omega
  have s := partEqLoop_sim hq a n (by omega) _ (a + 1) (b - 1) _ rfl (hd.swp (a := a) (b := p) (by omega) hp) (by omega) (by omega) (by omega)
  unfold g_partitionEqual Sort.partitionEqual
  simp only [gx (d := d) (k := p) (by omega), gx (d := d) (k := a) (by omega), gxs (d := d) (k := p) (by omega), Option.bind_some, Int.toNat_natCast, gswp, w, w1p a (by omega), s]

theorem partition_sim (hq : CmpOk q lt P) {a b n p : Nat} (hb : b ≤ n) (hab : a < b) (hp : p < n) {d : Array T} (hd : AllP n P d) :
    g_partition q d.toList (a : Int) (b : Int) (p : Int) = some (((Sort.partition lt d a b p).1 : Int), (Sort.partition lt d a b p).2.1, (Sort.partition lt d a b p).2.2.toList) := by
  have hsz := hd.1
  have hn := hd.2.1
  have w : w64 ((b : Int) - 1) = ((b - 1 : Nat) : Int) := by rw [w64_id (by omega)]; omega
  have hD := hd.swp (a := a) (b := p) (by omega) hp
  have e1 : g_partition_L1 (b : Int) d.toList (a : Int) d[p]! (p : Int) d[a]! q = g_partition_L4 ((0 : Int), ((b - 1 : Nat) : Int), (Sort.swp d a p).toList) (a : Int) q := by
    funext k
    simp only [g_partition_L1, g_partition_L4, w, Int.toNat_natCast, gswp]
  have e2 : ∀ i2 : Int, g_partition_L2 i2 d.toList (a : Int) d[p]! (p : Int) d[a]! q = g_partition_L5 i2 ((0 : Int), (0 : Int), (Sort.swp d a p).toList) (a : Int) q := by
    intro i2; funext k
    simp only [g_partition_L2, g_partition_L5, Int.toNat_natCast, gswp]
  unfold g_partition Sort.partition
  simp only [gx (d := d) (k := p) (by omega), gx (d := d) (k := a) (by omega), gxs (d := d) (k := p) (by omega), Option.bind_some, e1, e2, Int.toNat_natCast, gswp, w, w1p a (by omega)]
  generalize Sort.swp d a p = D at hD ⊢
  have hsD := hD.1
  have s1 := scanUp_gen (f := g_partition_L4 ((0 : Int), ((b - 1 : Nat) : Int), D.toList) (a : Int) q) (fun x => lt x D[a]!) D (b - 1) (fun k hk => part_L4 hq hD (by omega) (by omega) _ k hk) (by omega) _ (a + 1) rfl (by omega)
  have g1 := Sort.scanUp_ge (fun x => lt x D[a]!) D (b - 1) (a + 1)
  generalize Sort.scanUp (fun x => lt x D[a]!) D (b - 1) (a + 1) = i2 at s1 g1 ⊢
  have s2 := scanDown_gen (f := g_partition_L5 (i2 : Int) ((0 : Int), (0 : Int), D.toList) (a : Int) q) (fun x => !lt x D[a]!) D i2 n (by omega) (fun k hk => part_L5 hq hD (by omega) (by omega) _ _ k hk) (b - 1) (by omega)
  have g2 := Sort.scanDown_le (fun x => !lt x D[a]!) D i2 (b - 1)
  generalize Sort.scanDown (fun x => !lt x D[a]!) D i2 (b - 1) = j2 at s2 g2 ⊢
  simp only [s1, s2, Option.bind_some]
  by_cases hc : i2 > j2
  · have t : decide ((i2 : Int) > (j2 : Int)) = true := decide_eq_true (by omega)
    simp only [if_pos hc, t, cond_true, gx (d := D) (k := a) (by omega), gx (d := D) (k := j2) (by omega), gxs (d := D) (k := a) (by omega), Option.bind_some, Int.toNat_natCast, gswp]
  · have t : decide ((i2 : Int) > (j2 : Int)) = false := decide_eq_false (by omega)
    have w2 : w64 ((j2 : Int) - 1) = ((j2 - 1 : Nat) : Int) := by rw [w64_id (by omega)]; omega
    obtain ⟨s3, a3, b3⟩ := partLoop_sim hq a n (by omega) _ (i2 + 1) (j2 - 1) _ rfl (hD.swp (a := i2) (b := j2) (by omega) (by omega)) (by omega) (by omega) (by omega)
    simp only [if_neg hc, t, cond_false, gx (d := D) (k := i2) (by omega), gx (d := D) (k := j2) (by omega), gxs (d := D) (k := j2) (by omega), Option.bind_some, Int.toNat_natCast, gswp, w2, w1p i2 (by omega), s3]
    generalize Sort.partLoop lt a (i2 + 1) (j2 - 1) (Sort.swp D i2 j2) = R at a3 b3 ⊢
    have hsR := a3.1
    simp only [gx (d := R.2) (k := a) (by omega), gx (d := R.2) (k := R.1) (by omega), gxs (d := R.2) (k := a) (by omega), Option.bind_some, Int.toNat_natCast, gswp]

/-! insertion sort that may give up -/
theorem scanSorted_sim (hq : CmpOk q lt P) {b n : Nat} (hb : b ≤ n) {d : Array T} (hd : AllP n P d) (x y : Int) : ∀ (m i : Nat), b - i = m → 1 ≤ i → i ≤ b →
    loop (g_partialInsertionSort_L2 (b : Int) (x, y, d.toList) q) (i : Int) = some ((Sort.scanSorted lt d b i : Nat) : Int) ∧ i ≤ Sort.scanSorted lt d b i ∧ Sort.scanSorted lt d b i ≤ b := by
  have hsz := hd.1
  have hn := hd.2.1
  intro m
  induction m with
  | zero =>
    intro i hm hi hib
    unfold Sort.scanSorted
    rw [if_neg (by simp; omega)]
    have t : decide ((i : Int) < (b : Int)) = false := decide_eq_false (by omega)
    exact ⟨loop_done (by simp only [g_partialInsertionSort_L2, t, cond_false, Option.bind_some]), Nat.le_refl _, hib⟩
  | succ m ih =>
    intro i hm hi hib
    unfold Sort.scanSorted
    have t : decide ((i : Int) < (b : Int)) = true := decide_eq_true (by omega)
    have w : w64 ((i : Int) - 1) = ((i - 1 : Nat) : Int) := by rw [w64_id (by omega)]; omega
    obtain ⟨r, h1, h2⟩ := hq d[i]! d[i - 1]! (hd.2.2 _ (by omega)) (hd.2.2 _ (by omega))
    by_cases hl : lt d[i]! d[i - 1]! = true
    · rw [if_neg (by simp [hl])]
      refine ⟨loop_done ?_, Nat.le_refl _, hib⟩
      simp only [g_partialInsertionSort_L2, t, cond_true, w, gx (d := d) (k := i) (by omega), gx (d := d) (k := i - 1) (by omega), Option.bind_some, h1, h2, hl, Bool.not_true, cond_false]
    · have hl : lt d[i]! d[i - 1]! = false := by simpa using hl
      rw [if_pos (by simp [hl]; omega)]
      have ihc := ih (i + 1) (by omega) (by omega) (by omega)
      refine ⟨?_, by omega, ihc.2.2⟩
      rw [loop_next (a' := ((i + 1 : Nat) : Int)) ?_]
      · exact ihc.1
      · simp only [g_partialInsertionSort_L2, t, cond_true, w, gx (d := d) (k := i) (by omega), gx (d := d) (k := i - 1) (by omega), Option.bind_some, h1, h2, hl, Bool.not_false, w1p i (by omega)]

theorem shiftDown_sim (hq : CmpOk q lt P) (n : Nat) : ∀ (j : Nat) (d : Array T), AllP n P d → j < n → loop (g_partialInsertionSort_L3 q) ((j : Int), d.toList) = some (Sort.shiftDown lt j d).toList ∧ AllP n P (Sort.shiftDown lt j d)
  | 0, d, hd, hj => by
    have t : decide (((0 : Nat) : Int) ≥ 1) = false := decide_eq_false (by omega)
    exact ⟨loop_done (by simp only [g_partialInsertionSort_L3, t, cond_false]; rfl), hd⟩
  | j + 1, d, hd, hj => by
    have hsz := hd.1
    have hn := hd.2.1
    have t : decide (((j + 1 : Nat) : Int) ≥ 1) = true := decide_eq_true (by omega)
    obtain ⟨r, h1, h2⟩ := hq d[j + 1]! d[j]! (hd.2.2 _ hj) (hd.2.2 _ (by omega))
    unfold Sort.shiftDown
    by_cases hl : lt d[j + 1]! d[j]! = true
    · rw [if_neg (by simp [hl])]
      have ih := shiftDown_sim hq n j _ (hd.swp (a := j + 1) (b := j) hj (by omega)) (by omega)
      refine ⟨?_, ih.2⟩
      rw [loop_next (a' := ((j : Int), (Sort.swp d (j + 1) j).toList)) ?_]
      · exact ih.1
      · simp only [g_partialInsertionSort_L3, t, cond_true, gx (d := d) (k := j + 1) (by omega), w1m j (by omega), gx (d := d) (k := j) (by omega), gxs (d := d) (k := j) (by omega), Option.bind_some, h1, h2, hl, Bool.not_true, cond_false, Int.toNat_natCast, gswp]
    · have hl : lt d[j + 1]! d[j]! = false := by simpa using hl
      rw [if_pos (by simp [hl])]
      refine ⟨loop_done ?_, hd⟩
      simp only [g_partialInsertionSort_L3, t, cond_true, gx (d := d) (k := j + 1) (by omega), w1m j (by omega), gx (d := d) (k := j) (by omega), Option.bind_some, h1, h2, hl, Bool.not_false]

theorem shiftUp_sim (hq : CmpOk q lt P) {b n : Nat} (hb : b ≤ n) (c : Int) : ∀ (m j : Nat) (d : Array T), b - j = m → AllP n P d → 1 ≤ j → loop (g_partialInsertionSort_L4 (b : Int) q c) ((j : Int), d.toList) = some (c, (Sort.shiftUp lt b j d).toList) ∧ AllP n P (Sort.shiftUp lt b j d) := by
  intro m
  induction m with
  | zero =>
    intro j d hm hd hj
    unfold Sort.shiftUp
    rw [if_neg (by omega)]
    have t : decide ((j : Int) < (b : Int)) = false := decide_eq_false (by omega)
    exact ⟨loop_done (by simp only [g_partialInsertionSort_L4, t, cond_false]), hd⟩
  | succ m ih =>
    intro j d hm hd hj
    have hsz := hd.1
    have hn := hd.2.1
    unfold Sort.shiftUp
    rw [if_pos (by omega)]
    have t : decide ((j : Int) < (b : Int)) = true := decide_eq_true (by omega)
    have w : w64 ((j : Int) - 1) = ((j - 1 : Nat) : Int) := by rw [w64_id (by omega)]; omega
    obtain ⟨r, h1, h2⟩ := hq d[j]! d[j - 1]! (hd.2.2 _ (by omega)) (hd.2.2 _ (by omega))
    by_cases hl : lt d[j]! d[j - 1]! = true
    · rw [if_neg (by simp [hl])]
      have ihc := ih (j + 1) _ (by omega) (hd.swp (a := j) (b := j - 1) (by omega) (by omega)) (by omega)
      refine ⟨?_, ihc.2⟩
      rw [loop_next (a' := (((j + 1 : Nat) : Int), (Sort.swp d j (j - 1)).toList)) ?_]
      · exact ihc.1
      · simp only [g_partialInsertionSort_L4, t, cond_true, w, gx (d := d) (k := j) (by omega), gx (d := d) (k := j - 1) (by omega), gxs (d := d) (k := j - 1) (by omega), Option.bind_some, h1, h2, hl, Bool.not_true, cond_false, Int.toNat_natCast, gswp, w1p j (by omega)]
    · have hl : lt d[j]! d[j - 1]! = false := by simpa using hl
      rw [if_pos (by simp [hl])]
      refine ⟨loop_done ?_, hd⟩
      simp only [g_partialInsertionSort_L4, t, cond_true, w, gx (d := d) (k := j) (by omega), gx (d := d) (k := j - 1) (by omega), Option.bind_some, h1, h2, hl, Bool.not_false]

/-- What the steps of the insertion sort that may give up hand on. -/
theorem partialIns_sim (hq : CmpOk q lt P) {a b n : Nat} (hb : b ≤ n) : ∀ (s i : Nat) (d : Array T), s ≤ 5 → AllP n P d → a < i → i ≤ b →
    ∃ m, loop (g_partialInsertionSort_L1 (b : Int) q (a : Int)) ((i : Int), ((5 - s : Nat) : Int), d.toList) = some m ∧ (match m with | .inl b441 => some (false, b441) | .inr x1 => some x1) = some ((Sort.partialIns lt a b s i d).2, (Sort.partialIns lt a b s i d).1.toList)
  | 0, i, d, hs, hd, hi, hib => by
    have t : decide (((5 - 0 : Nat) : Int) < 5) = false := decide_eq_false (by omega)
    refine ⟨.inl d.toList, loop_done (by simp only [g_partialInsertionSort_L1, t, cond_false]), rfl⟩
  | s + 1, i, d, hs, hd, hi, hib => by
    have hsz := hd.1
    have hn := hd.2.1
    have t : decide (((5 - (s + 1) : Nat) : Int) < 5) = true := decide_eq_true (by omega)
    rw [Sort.partialIns_succ]
    obtain ⟨s1, l1, u1⟩ := scanSorted_sim hq hb hd (i : Int) ((5 - (s + 1) : Nat) : Int) _ i rfl (by omega) hib
    generalize Sort.scanSorted lt d b i = k at s1 l1 u1 ⊢
    by_cases hk : k = b
    · subst hk
      rw [if_pos rfl]
      refine ⟨.inr (true, d.toList), loop_done ?_, rfl⟩
      simp only [g_partialInsertionSort_L1, t, cond_true, s1, Option.bind_some, beq_self_eq_true]
    · rw [if_neg hk]
      have tk : ((k : Int) == (b : Int)) = false := by simp; omega
      have e0 : w64 ((b : Int) - (a : Int)) = ((b - a : Nat) : Int) := wsub (by omega) (by omega)
      by_cases h50 : b - a < 50
      · rw [if_pos h50]
        have t50 : decide (((b - a : Nat) : Int) < 50) = true := decide_eq_true (by omega)
        refine ⟨.inr (false, d.toList), loop_done ?_, rfl⟩
        simp only [g_partialInsertionSort_L1, t, cond_true, s1, Option.bind_some, tk, cond_false, e0, t50]
      · rw [if_neg h50]
        have t50 : decide (((b - a : Nat) : Int) < 50) = false := decide_eq_false (by omega)
        have wk : w64 ((k : Int) - 1) = ((k - 1 : Nat) : Int) := by rw [w64_id (by omega)]; omega
        have wa : w64 ((k : Int) - (a : Int)) = ((k - a : Nat) : Int) := wsub (by omega) (by omega)
        have wb : w64 ((b : Int) - (k : Int)) = ((b - k : Nat) : Int) := wsub (by omega) (by omega)
        have hd1 := hd.swp (a := k) (b := k - 1) (by omega) (by omega)
        have down : (cond (decide (((k - a : Nat) : Int) ≥ 2)) ((loop (g_partialInsertionSort_L3 q) (((k - 1 : Nat) : Int), (Sort.swp d k (k - 1)).toList)).bind fun x0 => some x0) (some (Sort.swp d k (k - 1)).toList)) = some (Sort.fixDown lt a k (Sort.swp d k (k - 1))).toList ∧ AllP n P (Sort.fixDown lt a k (Sort.swp d k (k - 1))) := by
          unfold Sort.fixDown
          by_cases h2 : k - a ≥ 2
          · have t2 : decide (((k - a : Nat) : Int) ≥ 2) = true := decide_eq_true (by omega)
            obtain ⟨x, y⟩ := shiftDown_sim hq n (k - 1) _ hd1 (by omega)
            rw [if_pos h2, t2, cond_true, x]; exact ⟨rfl, y⟩
          · have t2 : decide (((k - a : Nat) : Int) ≥ 2) = false := decide_eq_false (by omega)
            rw [if_neg h2, t2, cond_false]; exact ⟨rfl, hd1⟩
        obtain ⟨dn, hd2⟩ := down
        have hd3 : AllP n P (Sort.fixUp lt b k (Sort.fixDown lt a k (Sort.swp d k (k - 1)))) := by
          unfold Sort.fixUp
          split
          · exact (shiftUp_sim hq hb 0 _ (k + 1) _ rfl hd2 (by omega)).2
          · exact hd2
        obtain ⟨m, hm1, hm2⟩ := partialIns_sim (a := a) hq hb s k _ (by omega) hd3 (by omega) u1
        refine ⟨m, ?_, hm2⟩
        rw [loop_next (a' := ((k : Int), ((5 - s : Nat) : Int), (Sort.fixUp lt b k (Sort.fixDown lt a k (Sort.swp d k (k - 1)))).toList)) ?_]
        · exact hm1
        · have w5 : w64 (((5 - (s + 1) : Nat) : Int) + 1) = ((5 - s : Nat) : Int) := by rw [w64_id (by omega)]; omega
          simp only [g_partialInsertionSort_L1, t, cond_true, s1, Option.bind_some, tk, cond_false, e0, t50, wk, gx (d := d) (k := k) (by omega), gx (d := d) (k := k - 1) (by omega), gxs (d := d) (k := k - 1) (by omega), Int.toNat_natCast, gswp, wa, dn, wb, w1p k (by omega)]
          unfold Sort.fixUp
          by_cases h2 : b - k ≥ 2
          · have t2 : decide (((b - k : Nat) : Int) ≥ 2) = true := decide_eq_true (by omega)
            obtain ⟨x, y⟩ := shiftUp_sim hq hb (k : Int) _ (k + 1) _ rfl hd2 (by omega)
            rw [if_pos h2, t2, cond_true, x]
            simp only [Option.bind_some, w5]
          · have t2 : decide (((b - k : Nat) : Int) ≥ 2) = false := decide_eq_false (by omega)
            rw [if_neg h2, t2, cond_false]
            simp only [Option.bind_some, w5]

theorem partialInsertionSort_sim (hq : CmpOk q lt P) {a b n : Nat} (hb : b ≤ n) (hab : a < b) {d : Array T} (hd : AllP n P d) :
    g_partialInsertionSort q d.toList (a : Int) (b : Int) = some ((Sort.partialInsertionSort lt d a b).2, (Sort.partialInsertionSort lt d a b).1.toList) := by
  have hn := hd.2.1
  obtain ⟨m, h1, h2⟩ := partialIns_sim (a := a) hq hb 5 (a + 1) d (by omega) hd (by omega) (by omega)
  have h1 : loop (g_partialInsertionSort_L1 (b : Int) q (a : Int)) (((a + 1 : Nat) : Int), 0, d.toList) = some m := h1
  unfold g_partialInsertionSort Sort.partialInsertionSort
  rw [w1p a (by omega), h1]
  exact h2
end
end Go.Sh
