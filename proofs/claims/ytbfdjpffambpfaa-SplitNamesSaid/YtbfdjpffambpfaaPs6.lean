/- PLAIN, SPLIT: the laws SplitFair, SplitRepeats, SplitPoints. -/
import Derived.Test.YtbfdjpffambpfaaPs5
namespace Go.Sh
open Go Go.Am

/-! ### SplitFair -/
def mkW (x : Int) : api_Part := ⟨3, x, ⟨0, 0⟩⟩
theorem cut_frac {R W s : Int} (hR : 0 ≤ R) (hs : 0 ≤ s) (hW : 0 < W) : cutR R W s * W ≤ R * s ∧ R * s < cutR R W s * W + W := by
  have h1 : 0 ≤ R * s := Int.mul_nonneg hR hs
  unfold cutR
  rw [Int.tdiv_eq_ediv_of_nonneg h1]
  have h2 := Int.mul_ediv_add_emod (R * s) W
  have h3 := Int.emod_nonneg (R * s) (show W ≠ 0 by omega)
  have h4 := Int.emod_lt_of_pos (R * s) hW
  have h5 : W * ((R * s) / W) = ((R * s) / W) * W := Int.mul_comm _ _
  omega
theorem fair_L1 {ws : List Int} (hn : ws.length ≤ 200) : (∃ b, loop (l23_SplitFair_L1 ws true) (0, []) = some b ∧ ((b = .inl (ws.map mkW) ∧ ∀ x ∈ ws, 1 ≤ x ∧ x ≤ 1000000) ∨ b = .inr true)) := by
  have := loop_rng (f := l23_SplitFair_L1 ws true) (σ := Unit) (fun k _ => ((k : Int), (ws.take k).map mkW)) ws.length (fun k _ => ∀ i (h : i < ws.length), i < k → 1 ≤ ws[i] ∧ ws[i] ≤ 1000000) (fun b => (b = .inl (ws.map mkW) ∧ ∀ x ∈ ws, 1 ≤ x ∧ x ≤ 1000000) ∨ b = .inr true) ?_ ?_ (k0 := 0) (c0 := ()) (by omega) (fun i _ h => by omega)
  · exact this
  · intro k _ hk hg
    have hb : decide ((k : Int) < (ws.length : Int)) = true := decide_eq_true (by omega)
    have hs : w64 ((k : Int) + 1) = ((k + 1 : Nat) : Int) := by rw [w64_id (by omega)]; omega
    by_cases h1 : ws[k] < 1
    · exact .inr ⟨.inr true, by simp only [l23_SplitFair_L1, hb, cond_true, idx_lt hk, Option.bind_some, decide_eq_true h1], .inr rfl⟩
    by_cases h2 : ws[k] > 1000000
    · exact .inr ⟨.inr true, by simp only [l23_SplitFair_L1, hb, cond_true, cond_false, idx_lt hk, Option.bind_some, decide_eq_false h1, decide_eq_true h2], .inr rfl⟩
    refine .inl ⟨(), ?_, fun i hi hik => ?_⟩
    · simp only [l23_SplitFair_L1, hb, cond_true, cond_false, idx_lt hk, Option.bind_some, decide_eq_false h1, decide_eq_false h2, hs]
      rw [app_of (by simp; omega), List.take_succ_eq_append_getElem hk, List.map_append]
      rfl
    · by_cases e : i = k
      · subst e; omega
      · exact hg i hi (by omega)
  · intro _ hg
    have hb : decide ((ws.length : Int) < (ws.length : Int)) = false := decide_eq_false (by omega)
    refine ⟨.inl (ws.map mkW), ?_, .inl ⟨rfl, fun x hx => ?_⟩⟩
    · simp only [l23_SplitFair_L1, hb, cond_false, List.take_length]
    · obtain ⟨i, hi, rfl⟩ := List.mem_iff_getElem.1 hx
      exact hg i hi hi
theorem fixS_w {w : Int} {ws : List Int} : ∀ k, k ≤ ws.length → fixS w (ws.map mkW) k = 0
  | 0, _ => by simp [fixS]
  | k + 1, h => by
    rw [fixS_succ (by simp; omega), fixS_w k (by omega)]; simp [mkW]
theorem wtS_w {ws : List Int} : ∀ k, k ≤ ws.length → wtS (ws.map mkW) k = sumsTo ws k
  | 0, _ => by simp [wtS, sumsTo]
  | k + 1, h => by
    rw [wtS_succ (by simp; omega), wtS_w k (by omega), sumsTo_succ (show k < ws.length by omega)]; simp [mkW]

/-- **THE LAW SplitFair.** -/
theorem splitFair (w : Int) (ws : List Int) : l23_SplitFair w ws = some true := by
  unfold l23_SplitFair
  rw [alive_eq]
  simp only [Option.bind_some]
  by_cases c1 : ws.length = 0
  · simp [c1]
  have e1 : ((ws.length : Int) == 0) = false := by rw [beq_eq_false_iff_ne]; omega
  by_cases c2 : (ws.length : Int) > 200
  · simp only [e1, cond_false, decide_eq_true c2, Option.bind_some, cond_true, Bool.not_true]
  by_cases c3 : w < 0
  · simp only [e1, cond_false, decide_eq_false c2, decide_eq_true c3, Option.bind_some, cond_true, Bool.not_true]
  by_cases c4 : w > 1000000
  · simp only [e1, cond_false, decide_eq_false c2, decide_eq_false c3, decide_eq_true c4, Option.bind_some, cond_true, Bool.not_true]
  simp only [e1, cond_false, decide_eq_false c2, decide_eq_false c3, decide_eq_false c4, Option.bind_some, Bool.not_true]
  obtain ⟨b, b1, b2⟩ := fair_L1 (ws := ws) (by omega)
  rw [b1]
  rcases b2 with ⟨rfl, hx⟩ | rfl
  · simp only [Option.bind_some]
    have hlen : (ws.map mkW).length = ws.length := by simp
    have hv : AllOk (ws.map mkW) := by
      intro p hp
      obtain ⟨x, hxw, rfl⟩ := List.mem_map.1 hp
      have := hx x hxw
      exact .inr (.inl ⟨rfl, this.1, this.2, rfl, rfl⟩)
    have hchk : chk (ws.map mkW) = 0 := by
      unfold chk; rw [if_neg (by rw [hlen]; omega), if_pos hv]
    rw [split_Sizes_eq w (ws.map mkW) (fun p hp => by
      obtain ⟨x, hxw, rfl⟩ := List.mem_map.1 hp
      have := hx x hxw
      unfold PartI I64 mkW; simp only; omega)]
    have hb : ∀ x ∈ ws, 0 ≤ x ∧ x ≤ 1000000 := fun x h => by have := hx x h; omega
    have hrest : restS w (ws.map mkW) (ws.map mkW).length = w := by unfold restS; rw [hlen, fixS_w _ (by omega)]; omega
    have hwt : wtS (ws.map mkW) (ws.map mkW).length = ws.sum := by rw [hlen, wtS_w _ (by omega), sums_all]
    have hpos : 0 < ws.sum := by
      have h0 := wt_mono hv (i := 1) ws.length (by omega) (by omega)
      rw [wtS_w _ (by omega), wtS_w _ (by omega), sums_all] at h0
      have e : sumsTo ws 1 = ws[0]'(by omega) := by rw [sumsTo_succ (show 0 < ws.length by omega)]; simp [sumsTo]
      have := (hx _ (List.getElem_mem (show 0 < ws.length by omega))).1
      omega
    have hspec : sizesS w (ws.map mkW) = (sizesTo w (ws.map mkW) (ws.map mkW).length, 0) := by
      unfold sizesS
      rw [if_neg (by simpa using hchk), if_neg (by omega), hrest, hwt, if_neg (by omega), if_neg (by omega)]
    rw [hspec, sum_eq (by omega) hb]
    have hw' : 0 ≤ w ∧ w ≤ 1000000 := ⟨by omega, by omega⟩
    have hsum := sums_bd hb ws.length (by omega)
    rw [sums_all] at hsum
    have hval : ∀ i (h : i < ws.length), idx (sizesTo w (ws.map mkW) (ws.map mkW).length) (i : Int) = some (szI w (ws.map mkW) i) := fun i h => sz_get (by omega)
    have hbd : ∀ i (h : i < ws.length), 0 ≤ szI w (ws.map mkW) i ∧ szI w (ws.map mkW) i ≤ 1000000 := fun i h => sz_bd hw' (by omega) hv (by rw [hrest]; exact hw') (by omega)
    have hfr : ∀ i (h : i < ws.length), szI w (ws.map mkW) i * ws.sum - w * ws[i] < ws.sum ∧ -ws.sum < szI w (ws.map mkW) i * ws.sum - w * ws[i] := by
      intro i h
      rw [szI_3 (by omega) (by simp [mkW]), hrest, hwt, wtS_w i (by omega), wtS_w (i + 1) (by omega)]
      have s0 := sums_bd hb i (by omega)
      have s1 := sums_bd hb (i + 1) (by omega)
      obtain ⟨p1, p2⟩ := cut_frac hw'.1 s0.1 hpos
      obtain ⟨q1, q2⟩ := cut_frac hw'.1 s1.1 hpos
      have e := sumsTo_succ h
      have em : w * sumsTo ws (i + 1) = w * sumsTo ws i + w * ws[i] := by rw [e, Int.mul_add]
      rw [Int.sub_mul]
      omega
    have hprod : ∀ i (h : i < ws.length), 0 ≤ szI w (ws.map mkW) i * ws.sum ∧ szI w (ws.map mkW) i * ws.sum ≤ 200000000000000 ∧ 0 ≤ w * ws[i] ∧ w * ws[i] ≤ 1000000000000 := by
      intro i h
      have b := hbd i h
      have x := hx _ (List.getElem_mem h)
      refine ⟨Int.mul_nonneg b.1 (by omega), ?_, Int.mul_nonneg hw'.1 (by omega), ?_⟩
      · have := Int.mul_le_mul b.2 (show ws.sum ≤ 200000000 by omega) (by omega) (by omega); omega
      · have := Int.mul_le_mul hw'.2 x.2 (by omega) (by omega); omega
    have e2 : ((sizesTo w (ws.map mkW) (ws.map mkW).length).length : Int) = (ws.length : Int) := by rw [sizesTo_len, hlen]
    simp only [Option.bind_some, bne_self_eq_false, cond_false, e2]
    -- equal weights
    have hL3 : ∀ i (h : i < ws.length), loop (l23_SplitFair_L3 (i : Int) ws (sizesTo w (ws.map mkW) (ws.map mkW).length, 0)) 0 = some (.inl ()) := by
      intro i h
      have key := loop_rng (f := l23_SplitFair_L3 (i : Int) ws (sizesTo w (ws.map mkW) (ws.map mkW).length, 0)) (σ := Unit) (fun k _ => (k : Int)) i (fun _ _ => True) (fun b => b = .inl ()) ?_ ?_ (k0 := 0) (c0 := ()) (by omega) trivial
      · obtain ⟨b, g1, rfl⟩ := key; exact g1
      · rintro k _ hk _
        have hb' : decide ((k : Int) < (i : Int)) = true := decide_eq_true (by omega)
        have hs : w64 ((k : Int) + 1) = ((k + 1 : Nat) : Int) := by rw [w64_id (by omega)]; omega
        have hk' : k < ws.length := by omega
        refine .inl ⟨(), ?_, trivial⟩
        simp only [l23_SplitFair_L3, hb', cond_true, idx_lt h, idx_lt hk', hval i h, hval k hk', Option.bind_some, hs]
        by_cases e : ws[k] = ws[i]
        · have e' : (ws[k] == ws[i]) = true := by simpa using e
          have f1 := hfr i h
          have f2 := hfr k hk'
          rw [e] at f2
          have bi := hbd i h
          have bk := hbd k hk'
          have d1 : szI w (ws.map mkW) i - szI w (ws.map mkW) k ≤ 1 := by
            rcases Int.lt_or_le 1 (szI w (ws.map mkW) i - szI w (ws.map mkW) k) with h1 | h1
            · have := Int.mul_le_mul_of_nonneg_right (show (2 : Int) ≤ szI w (ws.map mkW) i - szI w (ws.map mkW) k by omega) (show 0 ≤ ws.sum by omega)
              rw [Int.sub_mul] at this
              omega
            · exact h1
          have d2 : szI w (ws.map mkW) k - szI w (ws.map mkW) i ≤ 1 := by
            rcases Int.lt_or_le 1 (szI w (ws.map mkW) k - szI w (ws.map mkW) i) with h1 | h1
            · have := Int.mul_le_mul_of_nonneg_right (show (2 : Int) ≤ szI w (ws.map mkW) k - szI w (ws.map mkW) i by omega) (show 0 ≤ ws.sum by omega)
              rw [Int.sub_mul] at this
              omega
            · exact h1
          have g1 : decide (w64 (szI w (ws.map mkW) i - szI w (ws.map mkW) k) > 1) = false := decide_eq_false (by rw [w64_id (by omega)]; omega)
          have g2 : decide (w64 (szI w (ws.map mkW) k - szI w (ws.map mkW) i) > 1) = false := decide_eq_false (by rw [w64_id (by omega)]; omega)
          simp only [e', cond_true, g1, g2, cond_false, Option.bind_some]
        · have e' : (ws[k] == ws[i]) = false := by simpa using e
          simp only [e', cond_false, Option.bind_some]
      · rintro _ _
        have hb' : decide ((i : Int) < (i : Int)) = false := decide_eq_false (by omega)
        exact ⟨_, by simp only [l23_SplitFair_L3, hb', cond_false], rfl⟩
    have key := loop_rng (f := l23_SplitFair_L2 (sizesTo w (ws.map mkW) (ws.map mkW).length, 0) ws ws.sum w) (σ := Unit) (fun k _ => (k : Int)) ws.length (fun _ _ => True) (fun b => b = .inl ()) ?_ ?_ (k0 := 0) (c0 := ()) (by omega) trivial
    · obtain ⟨b, g1, rfl⟩ := key
      have g1 : loop (l23_SplitFair_L2 (sizesTo w (ws.map mkW) (ws.map mkW).length, 0) ws ws.sum w) 0 = some (.inl ()) := g1
      rw [g1]; rfl
    · rintro k _ hk _
      have hb' : decide ((k : Int) < ((sizesTo w (ws.map mkW) (ws.map mkW).length).length : Int)) = true := decide_eq_true (by omega)
      have hs : w64 ((k : Int) + 1) = ((k + 1 : Nat) : Int) := by rw [w64_id (by omega)]; omega
      have p := hprod k hk
      have f := hfr k hk
      have g0 : w64 (szI w (ws.map mkW) k * ws.sum) = szI w (ws.map mkW) k * ws.sum := w64_id (by omega)
      have g1 : w64 (w * ws[k]) = w * ws[k] := w64_id (by omega)
      have g2 : w64 (szI w (ws.map mkW) k * ws.sum - w * ws[k]) = szI w (ws.map mkW) k * ws.sum - w * ws[k] := w64_id (by omega)
      have g3 : w64 (0 - ws.sum) = 0 - ws.sum := w64_id (by omega)
      have g4 : decide (szI w (ws.map mkW) k * ws.sum - w * ws[k] ≤ 0 - ws.sum) = false := decide_eq_false (by omega)
      have g5 : decide (szI w (ws.map mkW) k * ws.sum - w * ws[k] ≥ ws.sum) = false := decide_eq_false (by omega)
      refine .inl ⟨(), ?_, trivial⟩
      simp only [l23_SplitFair_L2, hb', cond_true, hval k hk, idx_lt hk, Option.bind_some, g0, g1, g2, g3, g4, g5, cond_false, hL3 k hk, hs]
    · rintro _ _
      have hb' : decide ((ws.length : Int) < ((sizesTo w (ws.map mkW) (ws.map mkW).length).length : Int)) = false := decide_eq_false (by omega)
      exact ⟨_, by simp only [l23_SplitFair_L2, hb', cond_false], rfl⟩
  · rfl

/-! ### SplitRepeats -/
theorem parts_len (w : Int) (m j : Nat) : (parts w m j).length = j := by simp [parts]
theorem parts_sum (w : Int) (m : Nat) : ∀ j, (parts w m j).sum = upTo w m j
  | 0 => by simp [parts, upTo]
  | j + 1 => by rw [parts_succ, List.sum_append, parts_sum w m j]; simp; omega
theorem parts_get {w : Int} {m j i : Nat} (h : i < j) : idx (parts w m j) (i : Int) = some (upTo w m (i + 1) - upTo w m i) := by
  rw [idx_nat]; simp [parts, h]
theorem upTo_ediv {w : Int} {m j : Nat} (hw : 0 ≤ w) : upTo w m j = (w * j) / m := Int.tdiv_eq_ediv_of_nonneg (Int.mul_nonneg hw (by omega))
theorem part_bd {w : Int} {k i : Nat} (hw : 0 ≤ w) (hk : 1 ≤ k) : w / k ≤ upTo w k (i + 1) - upTo w k i ∧ upTo w k (i + 1) - upTo w k i ≤ w / k + 1 := by
  rw [upTo_ediv hw, upTo_ediv hw]
  have e : w * ((i + 1 : Nat) : Int) = w * i + w := by rw [Int.natCast_add, Int.mul_add]; simp
  rw [e]
  have k0 : (0 : Int) < k := by omega
  have a1 := Int.mul_ediv_add_emod (w * i) k
  have a2 := Int.emod_nonneg (w * i) (show (k : Int) ≠ 0 by omega)
  have a3 := Int.emod_lt_of_pos (w * i) k0
  have b1 := Int.mul_ediv_add_emod w k
  have b2 := Int.emod_nonneg w (show (k : Int) ≠ 0 by omega)
  have b3 := Int.emod_lt_of_pos w k0
  have c : w * i + w = (w * i % k + w % k) + k * (w * i / k + w / k) := by rw [Int.mul_add]; omega
  rw [c, Int.add_mul_ediv_left _ _ (by omega)]
  have d0 : 0 ≤ (w * i % k + w % k) / k := Int.ediv_nonneg (by omega) (by omega)
  have d1 : (w * i % k + w % k) / k < 2 := Int.ediv_lt_of_lt_mul k0 (by omega)
  omega
/-- **THE LAW SplitRepeats.** -/
theorem splitRepeats (w n : Int) : l23_SplitRepeats w n = some true := by
  unfold l23_SplitRepeats
  rw [alive_eq]
  simp only [Option.bind_some]
  by_cases c1 : w < 0
  · simp only [decide_eq_true c1, cond_true, Option.bind_some, Bool.not_true]
  by_cases c2 : w > 1000000
  · simp only [decide_eq_false c1, decide_eq_true c2, cond_true, cond_false, Option.bind_some, Bool.not_true]
  by_cases c3 : n < 1
  · simp only [decide_eq_false c1, decide_eq_false c2, decide_eq_true c3, cond_true, cond_false, Option.bind_some, Bool.not_true]
  by_cases c4 : n > 1000000
  · simp only [decide_eq_false c1, decide_eq_false c2, decide_eq_false c3, decide_eq_true c4, cond_true, cond_false, Option.bind_some, Bool.not_true]
  simp only [decide_eq_false c1, decide_eq_false c2, decide_eq_false c3, decide_eq_false c4, cond_false, Option.bind_some, Bool.not_true]
  have hw : 0 ≤ w ∧ w ≤ 1000000 := ⟨by omega, by omega⟩
  obtain ⟨k, hk, hr⟩ := repeat_eq hw (n := n) ⟨by omega, by omega⟩
  rw [hr]
  simp only [Option.bind_some]
  have hd := Int.mul_ediv_add_emod (2 * w + n) (2 * n)
  have hd0 := Int.emod_nonneg (2 * w + n) (show 2 * n ≠ 0 by omega)
  have hd1 := Int.emod_lt_of_pos (2 * w + n) (show 0 < 2 * n by omega)
  generalize hm : (2 * w + n) / (2 * n) = m at hk hd
  have b1 : w64 (2 * w) = 2 * w := w64_id (by omega)
  have b3 : w64 (2 * n) = 2 * n := w64_id (by omega)
  have b4 : w64 (2 * n * 200) = 2 * n * 200 := w64_id (by omega)
  have b5 : w64 (2 * n * 200 + n) = 2 * n * 200 + n := w64_id (by omega)
  by_cases hbig : k > 200
  · rw [if_pos hbig]
    have hm201 : 201 ≤ m := by omega
    have := Int.mul_le_mul_of_nonneg_left hm201 (show 0 ≤ 2 * n by omega)
    have e : decide (2 * w ≥ 2 * n * 200 + n) = true := decide_eq_true (by omega)
    simp only [b1, b3, b4, b5, e]
    rfl
  · rw [if_neg hbig]
    have hk1 : 1 ≤ k := by omega
    have hq : quo64 w (k : Int) = some (w / k) := by
      have : w / (k : Int) ≤ w := Int.ediv_le_self _ hw.1
      have : 0 ≤ w / (k : Int) := Int.ediv_nonneg hw.1 (by omega)
      unfold quo64; rw [if_neg (by omega), Int.tdiv_eq_ediv_of_nonneg hw.1, w64_id (by omega)]
    have hqb : 0 ≤ w / (k : Int) ∧ w / (k : Int) ≤ w := ⟨Int.ediv_nonneg hw.1 (by omega), Int.ediv_le_self _ hw.1⟩
    have htot : upTo w k k = w := by unfold upTo; exact Int.mul_tdiv_cancel _ (by omega)
    have mono : ∀ j d, upTo w k j ≤ upTo w k (j + d) := by
      intro j d
      induction d with
      | zero => simp
      | succ d ih => have := part_bd (i := j + d) hw.1 hk1; rw [show j + (d + 1) = j + d + 1 by omega]; omega
    have h0 : upTo w k 0 = 0 := by simp [upTo]
    have hbd : ∀ x ∈ parts w k k, 0 ≤ x ∧ x ≤ 1000000 := by
      intro x hx
      unfold parts at hx
      obtain ⟨i, hi, rfl⟩ := List.mem_map.1 hx
      have hi : i < k := by simpa using hi
      have p := part_bd (i := i) hw.1 hk1
      have m1 := mono (i + 1) (k - (i + 1))
      rw [show i + 1 + (k - (i + 1)) = k by omega, htot] at m1
      have m2 := mono 0 i
      rw [h0, Nat.zero_add] at m2
      omega
    have es := sum_eq (ws := parts w k k) (by rw [parts_len]; omega) hbd
    rw [parts_sum, htot] at es
    have key := loop_rng (f := l23_SplitRepeats_L1 (parts w k k, 0) w) (σ := Unit) (fun j _ => (j : Int)) k (fun _ _ => True) (fun b => b = .inl ()) ?_ ?_ (k0 := 0) (c0 := ()) (by omega) trivial
    · obtain ⟨b, g1, rfl⟩ := key
      have g1 : loop (l23_SplitRepeats_L1 (parts w k k, 0) w) 0 = some (.inl ()) := g1
      have e1 : decide ((k : Int) < 1) = false := decide_eq_false (by omega)
      have e2 : decide ((k : Int) > 200) = false := decide_eq_false (by omega)
      have hm0 : 0 ≤ m := by rw [← hm]; exact Int.ediv_nonneg (by omega) (by omega)
      have nk : 0 ≤ 2 * n * k ∧ 2 * n * k ≤ 400000000 := by
        refine ⟨Int.mul_nonneg (by omega) (by omega), ?_⟩
        have := Int.mul_le_mul (show 2 * n ≤ 2000000 by omega) (show (k : Int) ≤ 200 by omega) (by omega) (by omega); omega
      have x1 : 2 * n * m ≤ 2 * n * k := Int.mul_le_mul_of_nonneg_left (by omega) (by omega)
      have f1 : w64 (2 * n * k) = 2 * n * k := w64_id (by omega)
      have f2 : w64 (2 * n * k + n) = 2 * n * k + n := w64_id (by omega)
      have f3 : w64 (2 * n * k - n) = 2 * n * k - n := w64_id (by omega)
      have f4 : decide (2 * w < 2 * n * k + n) = true := decide_eq_true (by omega)
      simp only [parts_len, e1, e2, cond_false, Option.bind_some, es, bne_self_eq_false, g1, b1, b3, f1, f2, f3, f4, cond_true]
      by_cases k1 : k = 1
      · subst k1; rfl
      · have e3 : ((k : Int) == 1) = false := by rw [beq_eq_false_iff_ne]; omega
        have hkm : (k : Int) = m := by omega
        have f5 : decide (2 * w ≥ 2 * n * k - n) = true := decide_eq_true (by rw [hkm]; omega)
        simp only [e3, cond_false, f5, Option.bind_some]
    · rintro j _ hj _
      have hb : decide ((j : Int) < (k : Int)) = true := decide_eq_true (by omega)
      have hs : w64 ((j : Int) + 1) = ((j + 1 : Nat) : Int) := by rw [w64_id (by omega)]; omega
      have p := part_bd (i := j) hw.1 hk1
      have e1 : decide (upTo w k (j + 1) - upTo w k j < w / k) = false := decide_eq_false (by omega)
      have e2 : decide (upTo w k (j + 1) - upTo w k j > w64 (w / k + 1)) = false := decide_eq_false (by rw [w64_id (by omega)]; omega)
      refine .inl ⟨(), ?_, trivial⟩
      simp only [l23_SplitRepeats_L1, hb, cond_true, parts_get hj, parts_len, hq, Option.bind_some, e1, e2, cond_false, hs]
    · rintro _ _
      have hb : decide ((k : Int) < (k : Int)) = false := decide_eq_false (by omega)
      exact ⟨_, by simp only [l23_SplitRepeats_L1, parts_len, hb, cond_false], rfl⟩

/-! ### SplitPoints -/
theorem cutsTo_at {l : List Int} {n i : Nat} (h : i ≤ n) : idx (cutsTo l n) (i : Int) = some (sumsTo l i) := by
  rw [idx_nat, List.getElem?_eq_getElem (by rw [cutsTo_len]; omega)]; simp [cutsTo]
theorem cutsTo_el {l : List Int} {n i : Nat} (h : i < (cutsTo l n).length) : (cutsTo l n)[i] = sumsTo l i := by simp [cutsTo]
theorem points_L1 {ws : List Int} (hn : ws.length ≤ 200) : (∃ b, loop (l23_SplitPoints_L1 ws true) 0 = some b ∧ ((b = .inl () ∧ ∀ x ∈ ws, 0 ≤ x ∧ x ≤ 5000) ∨ b = .inr true)) := by
  have := loop_rng (f := l23_SplitPoints_L1 ws true) (σ := Unit) (fun k _ => (k : Int)) ws.length (fun k _ => ∀ i (h : i < ws.length), i < k → 0 ≤ ws[i] ∧ ws[i] ≤ 5000) (fun b => (b = .inl () ∧ ∀ x ∈ ws, 0 ≤ x ∧ x ≤ 5000) ∨ b = .inr true) ?_ ?_ (k0 := 0) (c0 := ()) (by omega) (fun i _ h => by omega)
  · exact this
  · intro k _ hk hg
    have hb : decide ((k : Int) < (ws.length : Int)) = true := decide_eq_true (by omega)
    have hs : w64 ((k : Int) + 1) = ((k + 1 : Nat) : Int) := by rw [w64_id (by omega)]; omega
    by_cases h1 : ws[k] < 0
    · exact .inr ⟨.inr true, by simp only [l23_SplitPoints_L1, hb, cond_true, idx_lt hk, Option.bind_some, decide_eq_true h1], .inr rfl⟩
    by_cases h2 : ws[k] > 5000
    · exact .inr ⟨.inr true, by simp only [l23_SplitPoints_L1, hb, cond_true, cond_false, idx_lt hk, Option.bind_some, decide_eq_false h1, decide_eq_true h2], .inr rfl⟩
    refine .inl ⟨(), ?_, fun i hi hik => ?_⟩
    · simp only [l23_SplitPoints_L1, hb, cond_true, cond_false, idx_lt hk, Option.bind_some, decide_eq_false h1, decide_eq_false h2, hs]
    · by_cases e : i = k
      · subst e; omega
      · exact hg i hi (by omega)
  · intro _ hg
    have hb : decide ((ws.length : Int) < (ws.length : Int)) = false := decide_eq_false (by omega)
    refine ⟨.inl (), ?_, .inl ⟨rfl, fun x hx => ?_⟩⟩
    · simp only [l23_SplitPoints_L1, hb, cond_false]
    · obtain ⟨i, hi, rfl⟩ := List.mem_iff_getElem.1 hx
      exact hg i hi hi

/-- **THE LAW SplitPoints.** -/
theorem splitPoints (l : List Int) (x : Int) : l23_SplitPoints l x = some true := by
  unfold l23_SplitPoints
  rw [alive_eq]
  simp only [Option.bind_some]
  by_cases c1 : (l.length : Int) > 200
  · simp only [decide_eq_true c1, cond_true, Option.bind_some]
  simp only [decide_eq_false c1, cond_false, Option.bind_some, Bool.not_true]
  obtain ⟨b, b1, b2⟩ := points_L1 (ws := l) (by omega)
  rw [b1]
  rcases b2 with ⟨rfl, hx⟩ | rfl
  · simp only [Option.bind_some]
    have hb : ∀ y ∈ l, 0 ≤ y ∧ y ≤ 1000000 := fun y hy => by have := hx y hy; omega
    have hs : ∀ k, k ≤ l.length → 0 ≤ sumsTo l k ∧ sumsTo l k ≤ k * 5000 := by
      intro k
      induction k with
      | zero => intro _; simp [sumsTo]
      | succ k ih =>
        intro hk
        have := ih (by omega)
        have := hx _ (List.getElem_mem (show k < l.length by omega))
        rw [sumsTo_succ (show k < l.length by omega)]; omega
    rw [cuts_eq (by omega) (fun y hy => (hx y hy).1) (fun k hk => by have := hs k hk; omega)]
    have hw1 : w64 ((l.length : Int) + 1) = ((l.length + 1 : Nat) : Int) := by rw [w64_id (by omega)]; omega
    have hmono : ∀ i d, i + d ≤ l.length → sumsTo l i ≤ sumsTo l (i + d) := by
      intro i d
      induction d with
      | zero => intro _; simp
      | succ d ih =>
        intro h
        have := ih (by omega)
        have := hx _ (List.getElem_mem (show i + d < l.length by omega))
        rw [show i + (d + 1) = i + d + 1 by omega, sumsTo_succ (show i + d < l.length by omega)]; omega
    have hmono' : ∀ i j, i ≤ j → j ≤ l.length → sumsTo l i ≤ sumsTo l j := fun i j h1 h2 => by
      have := hmono i (j - i) (by omega)
      rw [show i + (j - i) = j by omega] at this; exact this
    have h00 : sumsTo l 0 = 0 := by simp [sumsTo]
    simp only [Option.bind_some, bne_self_eq_false, cond_false, cutsTo_len, hw1, cutsTo_at (Nat.le_refl _), sum_eq (by omega) hb, ← sums_all]
    have hat := at_eq (l := cutsTo l l.length) x (by rw [cutsTo_len]; omega) (by rw [← List.length_pos_iff, cutsTo_len]; omega) (by rw [cutsTo_el]; exact h00) (fun i h => by
      rw [cutsTo_el, cutsTo_el]
      rw [cutsTo_len] at h
      exact hmono' i (i + 1) (by omega) (by omega))
    rcases hat with ⟨e, hno⟩ | ⟨i, h, e, h1, h2⟩
    · rw [e]
      simp only [Option.bind_some]
      by_cases x0 : x < 0
      · simp only [decide_eq_true x0, cond_true, Option.bind_some]; rfl
      by_cases x1 : x ≥ sumsTo l l.length
      · simp only [decide_eq_false x0, decide_eq_true x1, cond_true, cond_false, Option.bind_some]; rfl
      · exfalso
        have : ∀ k, k ≤ l.length → sumsTo l k ≤ x := by
          intro k
          induction k with
          | zero => intro _; omega
          | succ k ih =>
            intro hk
            have a := ih (by omega)
            have := hno k (by rw [cutsTo_len]; omega)
            rw [cutsTo_el, cutsTo_el] at this
            omega
        have := this l.length (by omega)
        omega
    · rw [e]
      rw [cutsTo_el] at h1 h2
      rw [cutsTo_len] at h
      have hil : i < l.length := by omega
      have m1 := hmono' 0 i (by omega) (by omega)
      have m2 := hmono' (i + 1) l.length (by omega) (by omega)
      have x0 : ¬ x < 0 := by omega
      have x1 : ¬ x ≥ sumsTo l l.length := by omega
      have e0 : decide ((i : Int) < 0) = false := decide_eq_false (by omega)
      have e1 : decide ((i : Int) ≥ (l.length : Int)) = false := decide_eq_false (by omega)
      have hw2 : w64 ((i : Int) + 1) = ((i + 1 : Nat) : Int) := by rw [w64_id (by omega)]; omega
      have key := loop_rng (f := l23_SplitPoints_L2 l (cutsTo l l.length, 0) x) (σ := Unit) (fun k _ => ((if k ≤ i then 0 else 1 : Int), (k : Int))) l.length (fun _ _ => True) (fun b => b = .inl 1) ?_ ?_ (k0 := 0) (c0 := ()) (by omega) trivial
      · obtain ⟨b, g1, rfl⟩ := key
        have g1 : loop (l23_SplitPoints_L2 l (cutsTo l l.length, 0) x) (0, 0) = some (.inl 1) := g1
        simp only [Option.bind_some, decide_eq_false x0, decide_eq_false x1, cond_false, bne_self_eq_false, e0, e1, g1, cond_true, hw2, cutsTo_at (show i ≤ l.length by omega), cutsTo_at (show i + 1 ≤ l.length by omega), decide_eq_true h1, decide_eq_true h2]
        rfl
      · rintro k _ hk _
        have hb' : decide ((k : Int) < (l.length : Int)) = true := decide_eq_true (by omega)
        have hw3 : w64 ((k : Int) + 1) = ((k + 1 : Nat) : Int) := by rw [w64_id (by omega)]; omega
        have s1 := hs k (by omega)
        have s2 := hs (k + 1) (by omega)
        have es := sumsTo_succ hk
        have d : w64 (sumsTo l (k + 1) - sumsTo l k) = l[k] := by rw [w64_id (by omega)]; omega
        refine .inl ⟨(), ?_, trivial⟩
        simp only [l23_SplitPoints_L2, hb', cond_true, hw3, cutsTo_at (show k ≤ l.length by omega), cutsTo_at (show k + 1 ≤ l.length by omega), idx_lt hk, Option.bind_some, d, bne_self_eq_false, cond_false]
        rcases Nat.lt_trichotomy k i with hlt | rfl | hgt
        · have := hmono' (k + 1) i (by omega) (by omega)
          have a2 : ¬ x < sumsTo l (k + 1) := by omega
          have xk := hx _ (List.getElem_mem hk)
          have a1 : sumsTo l k ≤ x := by omega
          rw [if_pos (show k ≤ i by omega), if_pos (show k + 1 ≤ i by omega)]
          simp only [decide_eq_true a1, decide_eq_false a2, cond_true, cond_false, Option.bind_some]
        · rw [if_pos (Nat.le_refl k), if_neg (show ¬ k + 1 ≤ k by omega)]
          simp only [decide_eq_true h1, decide_eq_true h2, cond_true, Option.bind_some]
          rfl
        · have := hmono' (i + 1) k (by omega) (by omega)
          have a1 : ¬ sumsTo l k ≤ x := by omega
          rw [if_neg (show ¬ k ≤ i by omega), if_neg (show ¬ k + 1 ≤ i by omega)]
          simp only [decide_eq_false a1, cond_false, Option.bind_some]
      · rintro _ _
        have hb' : decide ((l.length : Int) < (l.length : Int)) = false := decide_eq_false (by omega)
        rw [if_neg (show ¬ l.length ≤ i by omega)]
        exact ⟨_, by simp only [l23_SplitPoints_L2, hb', cond_false], rfl⟩
  · rfl
end Go.Sh
