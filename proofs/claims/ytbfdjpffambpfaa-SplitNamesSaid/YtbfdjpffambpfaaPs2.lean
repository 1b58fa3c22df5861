/- PLAIN, SPLIT (2): repeating; the law SplitCuts. -/
import Derived.Test.YtbfdjpffambpfaaPs1
namespace Go.Sh
open Go Go.Am

theorem mul_small : ∀ k : Fin 201, math_bits_Mul (IntKind.wrap .u64 1) (IntKind.wrap .u64 (k.val : Int)) = some (0, (k.val : Int)) := by decide +kernel

theorem repeat_ones (k : Nat) (h1 : 1 ≤ k) (h2 : k ≤ 200) : slices_Repeat_int_int [1] (k : Int) = some (List.replicate k 1) := by
  unfold slices_Repeat_int_int
  have e0 : decide ((k : Int) < 0) = false := decide_eq_false (by omega)
  have e1 := mul_small ⟨k, by omega⟩
  simp only at e1
  have e2 : (([1] : List Int).length : Int) = 1 := rfl
  simp only [e0, cond_false, e2, e1, Option.bind_some]
  have e3 : decide ((0 : Int) > 0) = false := rfl
  have e4 : decide ((k : Int) > 9223372036854775807) = false := decide_eq_false (by omega)
  simp only [e3, e4, cond_false, Option.bind_some]
  have e5 : mks 8 (w64 (k : Int)) (0 : Int) = some (List.replicate k 0) := by
    rw [w64_id (by omega)]; unfold mks; rw [if_pos ⟨by omega, by omega⟩]; simp
  simp only [e5, Option.bind_some]
  have := loop_inv (f := slices_Repeat_int_int_L1) (fun a : Int × List Int => ∃ n : Nat, a.1 = n ∧ 1 ≤ n ∧ n ≤ k ∧ a.2.length = k ∧ ∀ i, i < n → a.2[i]? = some 1) (fun a => k - a.1.toNat) (fun b => b = List.replicate k 1) ?_
    (a := (((min ([1] : List Int).length (0, (List.replicate k (0 : Int)).length).2 : Nat) : Int), cpyw (List.replicate k 0) (0, (List.replicate k (0 : Int)).length) [1])) ?_
  · obtain ⟨b, g1, rfl⟩ := this
    rw [g1]; rfl
  · rintro ⟨a1, xs⟩ ⟨n, rfl, hn1, hnk, hlen, hone⟩
    simp only at hlen hone
    by_cases hlt : n < k
    · have hb : decide ((n : Int) < (xs.length : Int)) = true := decide_eq_true (by omega)
      have s1 : sub2 xs.length (n : Int) (xs.length : Int) = some (n, k - n) := by
        unfold sub2; rw [if_pos ⟨by omega, by omega, by omega⟩]; congr 2; omega
      have s2 : sub2 xs.length 0 (n : Int) = some (0, n) := by
        unfold sub2; rw [if_pos ⟨by omega, by omega, by omega⟩]; rfl
      have e6 : (xs.drop 0).take n = xs.take n := by simp
      have e7 : (xs.take n).length = n := by simp; omega
      refine .inl ⟨(((n + min n (k - n) : Nat) : Int), cpyw xs (n, k - n) (xs.take n)), ?_, ⟨n + min n (k - n), rfl, by omega, by omega, ?_, ?_⟩, ?_⟩
      · simp only [slices_Repeat_int_int_L1, hb, cond_true, s1, s2, Option.bind_some, e6, e7]
        rw [w64_id (by omega)]
        congr 2
      · simp only; rw [cpyw_len (by simp only; omega)]; exact hlen
      · intro i hi
        simp only [cpyw, splice]
        by_cases h : i < n
        · rw [List.append_assoc, List.getElem?_append_left (by simp; omega), List.getElem?_take_of_lt h]
          exact hone i h
        · rw [List.append_assoc, List.getElem?_append_right (by simp; omega), List.getElem?_append_left (by simp; omega)]
          have hi2 : i - (xs.take n).length = i - n := by rw [e7]
          rw [hi2, List.getElem?_take_of_lt (by simp; omega), List.getElem?_take_of_lt (by omega)]
          exact hone _ (by omega)
      · simp only; omega
    · have hb : decide ((n : Int) < (xs.length : Int)) = false := decide_eq_false (by omega)
      refine .inr ⟨xs, by simp only [slices_Repeat_int_int_L1, hb, cond_false], ?_⟩
      apply List.ext_getElem?
      intro i
      by_cases h : i < k
      · rw [hone i (by omega)]; simp [h]
      · rw [List.getElem?_eq_none (by omega), List.getElem?_eq_none (by simp; omega)]
  · refine ⟨1, by simp; omega, by omega, by omega, ?_, ?_⟩
    · simp only; rw [cpyw_len (by simp)]; simp
    · intro i hi
      obtain rfl : i = 0 := by omega
      have hk : min 1 k = 1 := by omega
      simp [cpyw, splice, hk]

theorem sum_loop (k : Nat) (h2 : k ≤ 200) : loop (split_Repeat_L1 (List.replicate k 1)) (0, 0) = some (k : Int) := by
  have := loop_rng (f := split_Repeat_L1 (List.replicate k 1)) (σ := Int) (fun j c => ((j : Int), c)) k (fun j c => c = j) (fun b => b = (k : Int)) ?_ ?_ (k0 := 0) (c0 := 0) (by omega) rfl
  · obtain ⟨b, h1, rfl⟩ := this; exact h1
  · rintro j c hj rfl
    have hb : decide ((j : Int) < ((List.replicate k (1 : Int)).length : Int)) = true := decide_eq_true (by simp; omega)
    refine .inl ⟨((j + 1 : Nat) : Int), ?_, rfl⟩
    have hg : idx (List.replicate k (1 : Int)) (j : Int) = some 1 := by rw [idx_nat]; simp [hj]
    simp only [split_Repeat_L1, hb, cond_true, hg, Option.bind_some]
    rw [w64_id (by omega)]
    congr 2
  · rintro c rfl
    have hb : decide ((k : Int) < ((List.replicate k (1 : Int)).length : Int)) = false := decide_eq_false (by simp)
    exact ⟨_, by simp only [split_Repeat_L1, hb, cond_false], rfl⟩

/-- The part of the whole up to part j. -/
def upTo (w : Int) (m j : Nat) : Int := (w * j).tdiv m
def parts (w : Int) (m j : Nat) : List Int := (List.range j).map fun i => upTo w m (i + 1) - upTo w m i
theorem parts_succ (w : Int) (m j : Nat) : parts w m (j + 1) = parts w m j ++ [upTo w m (j + 1) - upTo w m j] := by
  unfold parts; rw [List.range_succ, List.map_append]; rfl
theorem upTo_bd {w : Int} {m j : Nat} (hw : 0 ≤ w ∧ w ≤ 1000000) (hj : j ≤ 200) : 0 ≤ w * j ∧ w * j ≤ 200000000 ∧ 0 ≤ upTo w m j ∧ upTo w m j ≤ 200000000 := by
  have h1 : 0 ≤ w * j := Int.mul_nonneg hw.1 (by omega)
  have h2 : w * j ≤ 1000000 * 200 := Int.mul_le_mul hw.2 (by omega) (by omega) (by omega)
  have h3 : 0 ≤ upTo w m j := Int.tdiv_nonneg h1 (Int.natCast_nonneg _)
  have h4 : upTo w m j ≤ w * j := Int.tdiv_le_self _ h1
  refine ⟨h1, by omega, h3, by omega⟩

theorem shares_loop (w : Int) (k : Nat) (hw : 0 ≤ w ∧ w ≤ 1000000) (h1 : 1 ≤ k) (h2 : k ≤ 200) : loop (split_Repeat_L2 (List.replicate k 1) w k) (0, 0, 0, []) = some (parts w k k) := by
  have := loop_rng (f := split_Repeat_L2 (List.replicate k 1) w k) (σ := Unit) (fun j _ => ((j : Int), upTo w k j, (j : Int), parts w k j)) k (fun j c => True) (fun b => b = parts w k k) ?_ ?_ (k0 := 0) (c0 := ()) (by omega) trivial
  · obtain ⟨b, g1, rfl⟩ := this
    have e : upTo w k 0 = 0 := by simp [upTo]
    simp only [e] at g1
    exact g1
  · intro j _ hj _
    have hb : decide ((j : Int) < ((List.replicate k (1 : Int)).length : Int)) = true := decide_eq_true (by simp; omega)
    have hg : idx (List.replicate k (1 : Int)) (j : Int) = some 1 := by rw [idx_nat]; simp [hj]
    have hs : w64 ((j : Int) + 1) = ((j + 1 : Nat) : Int) := by rw [w64_id (by omega)]; omega
    obtain ⟨b1, b2, b3, b4⟩ := upTo_bd (m := k) hw (show j ≤ 200 by omega)
    obtain ⟨c1, c2, c3, c4⟩ := upTo_bd (m := k) hw (show j + 1 ≤ 200 by omega)
    have hm : w64 (w * ((j + 1 : Nat) : Int)) = w * ((j + 1 : Nat) : Int) := w64_id (by omega)
    have hq : quo64 (w * ((j + 1 : Nat) : Int)) (k : Int) = some (upTo w k (j + 1)) := by
      unfold quo64; rw [if_neg (by omega)]
      congr 1
      exact w64_id (by change _ ≤ upTo w k (j + 1) ∧ upTo w k (j + 1) ≤ _; omega)
    have hd : w64 (upTo w k (j + 1) - upTo w k j) = upTo w k (j + 1) - upTo w k j := w64_id (by omega)
    refine .inl ⟨(), ?_, trivial⟩
    simp only [split_Repeat_L2, hb, cond_true, hg, Option.bind_some, hs, hm, hq, hd]
    rw [app_of (by simp [parts]; omega)]
    simp only [Option.bind_some, Bool.not_true, cond_false, parts_succ]
  · intro _ _
    have hb : decide ((k : Int) < ((List.replicate k (1 : Int)).length : Int)) = false := decide_eq_false (by simp)
    exact ⟨_, by simp only [split_Repeat_L2, hb, cond_false], rfl⟩
theorem r23_shares_loop (w : Int) (k : Nat) (hw : 0 ≤ w ∧ w ≤ 1000000) (h1 : 1 ≤ k) (h2 : k ≤ 200) : loop (r23_Repeat_L1 k w) (1, []) = some (parts w k k) := by
  have := loop_rng (f := r23_Repeat_L1 k w) (σ := Unit) (fun j _ => ((j : Int), parts w k (j - 1))) (k + 1) (fun j c => 1 ≤ j) (fun b => b = parts w k k) ?_ ?_ (k0 := 1) (c0 := ()) (by omega) (by omega)
  · obtain ⟨b, g1, rfl⟩ := this
    exact g1
  · intro j _ hj hj1
    obtain ⟨i, rfl⟩ : ∃ i, j = i + 1 := ⟨j - 1, by omega⟩
    have hb : decide (((i + 1 : Nat) : Int) ≤ (k : Int)) = true := decide_eq_true (by omega)
    have hs : w64 (((i + 1 : Nat) : Int) + 1) = ((i + 1 + 1 : Nat) : Int) := by rw [w64_id (by omega)]; omega
    have hs' : w64 (((i + 1 : Nat) : Int) - 1) = (i : Int) := by rw [w64_id (by omega)]; omega
    obtain ⟨b1, b2, b3, b4⟩ := upTo_bd (m := k) hw (show i ≤ 200 by omega)
    obtain ⟨c1, c2, c3, c4⟩ := upTo_bd (m := k) hw (show i + 1 ≤ 200 by omega)
    have hm : w64 (w * ((i + 1 : Nat) : Int)) = w * ((i + 1 : Nat) : Int) := w64_id (by omega)
    have hm' : w64 (w * (i : Int)) = w * (i : Int) := w64_id (by omega)
    have q : ∀ n : Nat, 0 ≤ upTo w k n → upTo w k n ≤ 200000000 → quo64 (w * (n : Int)) (k : Int) = some (upTo w k n) := by
      intro n hn1 hn2
      unfold quo64; rw [if_neg (by omega)]
      congr 1
      exact w64_id (by change _ ≤ upTo w k n ∧ upTo w k n ≤ _; omega)
    have hd : w64 (upTo w k (i + 1) - upTo w k i) = upTo w k (i + 1) - upTo w k i := w64_id (by omega)
    refine .inl ⟨(), ?_, by omega⟩
    simp only [r23_Repeat_L1, hb, cond_true, hs, hs', hm, hm', q _ b3 b4, q _ c3 c4, Option.bind_some, hd]
    rw [app_of (by simp [parts]; omega)]
    simp only [Option.bind_some, Nat.add_sub_cancel, parts_succ]
  · intro _ _
    have hb : decide (((k + 1 : Nat) : Int) ≤ (k : Int)) = false := decide_eq_false (by omega)
    exact ⟨parts w k k, by simp only [r23_Repeat_L1, hb, cond_false, Nat.add_sub_cancel], rfl⟩

theorem repeat_same (w n : Int) : ∃ r, split_Repeat w n = some r ∧ r23_Repeat w n = some r ∧ r.1.length ≤ 200 := by
  unfold split_Repeat r23_Repeat
  by_cases hok : 0 ≤ w ∧ w ≤ 1000000 ∧ 1 ≤ n ∧ n ≤ 1000000
  · obtain ⟨w0, w1, n0, n1⟩ := hok
    have a1 : decide (w < 0) = false := decide_eq_false (by omega)
    have a2 : decide (w > 1000000) = false := decide_eq_false (by omega)
    have a3 : decide (n < 1) = false := decide_eq_false (by omega)
    have a4 : decide (n > 1000000) = false := decide_eq_false (by omega)
    simp only [a1, a2, a3, a4, cond_false, Option.bind_some]
    have b1 : w64 (2 * w) = 2 * w := w64_id (by omega)
    have b2 : w64 (2 * w + n) = 2 * w + n := w64_id (by omega)
    have b3 : w64 (2 * n) = 2 * n := w64_id (by omega)
    rw [b1, b2, b3]
    have hd1 := Int.mul_ediv_add_emod w n
    have hq0 : 0 ≤ w / n := Int.ediv_nonneg w0 (by omega)
    have hr0 := Int.emod_nonneg w (show n ≠ 0 by omega)
    have hr1 := Int.emod_lt_of_pos w (show 0 < n by omega)
    have hqle : w / n ≤ w := Int.ediv_le_self _ w0
    have c1 : quo64 w n = some (w / n) := by
      unfold quo64; rw [if_neg (by omega), Int.tdiv_eq_ediv_of_nonneg w0, w64_id (by omega)]
    have hmul : w64 ((w / n) * n) = (w / n) * n := by
      have : (w / n) * n = n * (w / n) := Int.mul_comm _ _
      exact w64_id (by omega)
    have hrem : w - (w / n) * n = w % n := by rw [Int.mul_comm]; omega
    have c2 : w64 (w - (w / n) * n) = w % n := by rw [hrem]; exact w64_id (by omega)
    have c3 : w64 (2 * (w % n)) = 2 * (w % n) := w64_id (by omega)
    have c4 : w64 (w / n + 1) = w / n + 1 := w64_id (by omega)
    have hkey : (2 * w + n) / (2 * n) = if 2 * (w % n) ≥ n then w / n + 1 else w / n := by
      have e : 2 * w + n = (2 * (w % n) + n) + (2 * n) * (w / n) := by
        have : (2 * n) * (w / n) = 2 * (n * (w / n)) := by rw [Int.mul_assoc]
        omega
      rw [e, Int.add_mul_ediv_left _ _ (by omega)]
      split
      · have : (2 * (w % n) + n) / (2 * n) = 1 := by
          have e2 : 2 * (w % n) + n = (2 * (w % n) - n) + (2 * n) * 1 := by omega
          rw [e2, Int.add_mul_ediv_left _ _ (by omega), Int.ediv_eq_zero_of_lt (by omega) (by omega)]; rfl
        omega
      · have : (2 * (w % n) + n) / (2 * n) = 0 := Int.ediv_eq_zero_of_lt (by omega) (by omega)
        omega
    have c5 : quo64 (2 * w + n) (2 * n) = some (if 2 * (w % n) ≥ n then w / n + 1 else w / n) := by
      unfold quo64; rw [if_neg (by omega), Int.tdiv_eq_ediv_of_nonneg (by omega), hkey, w64_id (by split <;> omega)]
    simp only [c1, c5, Option.bind_some, hmul, c2, c3, c4]
    obtain ⟨m, hm⟩ : ∃ m, m = (if 2 * (w % n) ≥ n then w / n + 1 else w / n) := ⟨_, rfl⟩
    have hm0 : 0 ≤ m := by rw [hm]; split <;> omega
    have d1 : (cond (decide (2 * (w % n) ≥ n)) (some (w / n + 1)) (some (w / n))) = some m := by
      rw [hm]; by_cases h : 2 * (w % n) ≥ n <;> simp [h]
    have d2 : (cond (m == 0) (some 1) (some m)) = some (max 1 m) := by
      by_cases h : m = 0
      · subst h; rfl
      · have : (m == 0) = false := by simpa using h
        rw [this, cond_false]; congr 1; omega
    rw [d1, ← hm]
    simp only [Option.bind_some, d2]
    by_cases hbig : max 1 m > 200
    · simp only [hbig, decide_true, cond_true]
      exact ⟨_, rfl, rfl, by simp⟩
    · simp only [hbig, decide_false, cond_false]
      obtain ⟨k, hk⟩ : ∃ k : Nat, max 1 m = k := ⟨(max 1 m).toNat, by omega⟩
      rw [hk, repeat_ones k (by omega) (by omega)]
      simp only [Option.bind_some]
      rw [sum_loop k (by omega)]
      simp only [Option.bind_some]
      rw [shares_loop w k ⟨w0, w1⟩ (by omega) (by omega), r23_shares_loop w k ⟨w0, w1⟩ (by omega) (by omega)]
      exact ⟨_, rfl, rfl, by simp [parts]; omega⟩
  · have h : ((cond (decide (w < 0)) (some true) (some (decide (w > 1000000)))).bind fun c1 => (cond c1 (some true) (some (decide (n < 1)))).bind fun c6 => (cond c6 (some true) (some (decide (n > 1000000))))) = some true := by
      by_cases a1 : w < 0
      · simp [a1]
      · by_cases a2 : w > 1000000
        · simp [a1, a2]
        · by_cases a3 : n < 1
          · simp [a1, a2, a3]
          · have a4 : n > 1000000 := by omega
            simp [a1, a2, a3, a4]
    have split3 : ∀ {α : Type} (F : Bool → Option α), ((cond (decide (w < 0)) (some true) (some (decide (w > 1000000)))).bind fun c1 => (cond c1 (some true) (some (decide (n < 1)))).bind fun c6 => (cond c6 (some true) (some (decide (n > 1000000)))).bind F) = F true := by
      intro α F
      have := congrArg (fun o => o.bind F) h
      simpa [Option.bind_assoc] using this
    refine ⟨([], 2), ?_, ?_, by simp⟩
    · rw [split3]; rfl
    · rw [split3]; rfl

/-- **THE LAW SplitCuts.** -/
theorem splitCuts (l : List Int) (w n x : Int) (hI : ∀ y ∈ l, I64 y) : l23_SplitCuts l w n x = some true := by
  unfold l23_SplitCuts
  by_cases hl : (l.length : Int) > 250
  · simp [hl]
  · simp only [hl, decide_false, cond_false]
    obtain ⟨a, a1, a2, a3⟩ := cuts_same l (by omega) hI
    obtain ⟨b, b1, b2, b3⟩ := repeat_same w n
    obtain ⟨c, c1, c2⟩ := at_same l x (by omega)
    rw [a1, a2, b1, b2, c1, c2]
    simp only [Option.bind_some]
    rw [int_same_self _ (by omega), int_same_self _ (by omega)]
    simp
end Go.Sh
