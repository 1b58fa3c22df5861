/- PLAIN, SPLIT: the sizes of a split: both answer the same, in one formula. -/
import Derived.Test.YtbfdjpffambpfaaPs3
namespace Go.Sh
open Go Go.Am

def own (w : Int) (p : api_Part) : Int := if p.Kind = 2 then (w * p.Share.Num).tdiv p.Share.Den else p.Size
def fixS (w : Int) (l : List api_Part) (k : Nat) : Int := ((l.take k).map fun p => if p.Kind = 3 then 0 else own w p).sum
def wtS (l : List api_Part) (k : Nat) : Int := ((l.take k).map fun p => if p.Kind = 3 then p.Size else 0).sum
def restS (w : Int) (l : List api_Part) (k : Nat) : Int := w - fixS w l k
theorem fixS_succ {w : Int} {l : List api_Part} {k : Nat} (h : k < l.length) : fixS w l (k + 1) = fixS w l k + if l[k].Kind = 3 then 0 else own w l[k] := by
  unfold fixS; rw [List.take_succ_eq_append_getElem h, List.map_append, List.sum_append]; simp
theorem wtS_succ {l : List api_Part} {k : Nat} (h : k < l.length) : wtS l (k + 1) = wtS l k + if l[k].Kind = 3 then l[k].Size else 0 := by
  unfold wtS; rw [List.take_succ_eq_append_getElem h, List.map_append, List.sum_append]; simp
theorem own_bd {w : Int} {p : api_Part} (hw : 0 ≤ w ∧ w ≤ 1000000) (hp : VOk p) (h3 : p.Kind ≠ 3) : 0 ≤ own w p ∧ own w p ≤ 1000000 ∧ (p.Kind = 2 → quo64 (w64 (w * p.Share.Num)) p.Share.Den = some (own w p)) := by
  unfold own
  rcases hp with h | h | ⟨h1, h2, h4, h5, h6⟩
  · rw [if_neg (by omega)]; omega
  · omega
  · rw [if_pos h1]
    obtain ⟨d1, d2, d3, d4, _⟩ := h4
    have m0 : 0 ≤ w * p.Share.Num := Int.mul_nonneg hw.1 h5
    have m1 : w * p.Share.Num ≤ w * p.Share.Den := Int.mul_le_mul_of_nonneg_left h6 hw.1
    have m2 : w * p.Share.Den ≤ 1000000 * 1000000000 := Int.mul_le_mul hw.2 d2 (by omega) (by omega)
    have e : (w * p.Share.Num).tdiv p.Share.Den = (w * p.Share.Num) / p.Share.Den := Int.tdiv_eq_ediv_of_nonneg m0
    have q0 : 0 ≤ (w * p.Share.Num) / p.Share.Den := Int.ediv_nonneg m0 (by omega)
    have q1 : (w * p.Share.Num) / p.Share.Den ≤ w := Int.ediv_le_of_le_mul (by omega) m1
    refine ⟨by omega, by omega, fun _ => ?_⟩
    rw [w64_id (by omega)]
    unfold quo64; rw [if_neg (by omega), w64_id (by omega)]
theorem fix_bd {w : Int} {l : List api_Part} (hw : 0 ≤ w ∧ w ≤ 1000000) (hl : AllOk l) : ∀ k, k ≤ l.length → 0 ≤ fixS w l k ∧ fixS w l k ≤ k * 1000000
  | 0, _ => by simp [fixS]
  | k + 1, h => by
    have ih := fix_bd hw hl k (by omega)
    rw [fixS_succ (show k < l.length by omega)]
    split
    · omega
    · rename_i h3
      have := own_bd hw (hl _ (List.getElem_mem (show k < l.length by omega))) h3
      omega
theorem size_bd {p : api_Part} (hp : VOk p) (h3 : p.Kind = 3) : 1 ≤ p.Size ∧ p.Size ≤ 1000000 := by
  unfold VOk at hp; omega
theorem wt_step {l : List api_Part} (hl : AllOk l) {k : Nat} (h : k < l.length) : wtS l k ≤ wtS l (k + 1) ∧ wtS l (k + 1) ≤ wtS l k + 1000000 ∧ (l[k].Kind = 3 → wtS l k < wtS l (k + 1)) := by
  rw [wtS_succ h]
  split
  · rename_i h3
    have := size_bd (hl _ (List.getElem_mem h)) h3
    omega
  · rename_i h3; omega
theorem wt_bd {l : List api_Part} (hl : AllOk l) : ∀ k, k ≤ l.length → 0 ≤ wtS l k ∧ wtS l k ≤ k * 1000000
  | 0, _ => by simp [wtS]
  | k + 1, h => by
    have ih := wt_bd hl k (by omega)
    have := wt_step hl (show k < l.length by omega)
    omega
theorem wt_mono {l : List api_Part} (hl : AllOk l) {i : Nat} : ∀ k, i ≤ k → k ≤ l.length → wtS l i ≤ wtS l k
  | 0, h, _ => by obtain rfl : i = 0 := by omega
                  exact Int.le_refl _
  | k + 1, h, hk => by
    by_cases e : i = k + 1
    · subst e; exact Int.le_refl _
    · have ih := wt_mono hl (i := i) k (by omega) (by omega)
      have := wt_step hl (show k < l.length by omega)
      omega

def cutR (R W s : Int) : Int := (R * s).tdiv W
theorem cut_ok {R W s : Int} (hR : 0 ≤ R ∧ R ≤ 1000000) (hs : 0 ≤ s ∧ s ≤ W) (hW : 0 < W ∧ W ≤ 200000000) : quo64 (w64 (R * s)) W = some (cutR R W s) ∧ 0 ≤ cutR R W s ∧ cutR R W s ≤ R := by
  have m0 : 0 ≤ R * s := Int.mul_nonneg hR.1 hs.1
  have m1 : R * s ≤ R * W := Int.mul_le_mul_of_nonneg_left hs.2 hR.1
  have m2 : R * W ≤ 1000000 * 200000000 := Int.mul_le_mul hR.2 hW.2 (by omega) (by omega)
  have e : cutR R W s = (R * s) / W := Int.tdiv_eq_ediv_of_nonneg m0
  have q0 : 0 ≤ (R * s) / W := Int.ediv_nonneg m0 (by omega)
  have q1 : (R * s) / W ≤ R := Int.ediv_le_of_le_mul (by omega) m1
  refine ⟨?_, by omega, by omega⟩
  rw [w64_id (by omega)]
  unfold quo64
  rw [if_neg (by omega)]
  change some (w64 (cutR R W s)) = _
  rw [w64_id (by omega)]
def szI (w : Int) (l : List api_Part) (i : Nat) : Int := match l[i]? with
  | some p => if p.Kind = 3 then cutR (restS w l l.length) (wtS l l.length) (wtS l (i + 1)) - cutR (restS w l l.length) (wtS l l.length) (wtS l i) else own w p
  | none => 0
theorem szI_3 {w : Int} {l : List api_Part} {i : Nat} (h : i < l.length) (h3 : l[i].Kind = 3) : szI w l i = cutR (restS w l l.length) (wtS l l.length) (wtS l (i + 1)) - cutR (restS w l l.length) (wtS l l.length) (wtS l i) := by
  unfold szI; rw [List.getElem?_eq_getElem h]; simp [h3]
theorem szI_n {w : Int} {l : List api_Part} {i : Nat} (h : i < l.length) (h3 : l[i].Kind ≠ 3) : szI w l i = own w l[i] := by
  unfold szI; rw [List.getElem?_eq_getElem h]; simp [h3]
def sizesTo (w : Int) (l : List api_Part) (k : Nat) : List Int := (List.range k).map (szI w l)
theorem sizesTo_succ (w : Int) (l : List api_Part) (k : Nat) : sizesTo w l (k + 1) = sizesTo w l k ++ [szI w l k] := by
  unfold sizesTo; rw [List.range_succ, List.map_append]; rfl
theorem sizesTo_len (w : Int) (l : List api_Part) (k : Nat) : (sizesTo w l k).length = k := by simp [sizesTo]

/-! ### The places of the parts that share the rest -/
def at3 (l : List api_Part) (i : Nat) : Bool := match l[i]? with
  | some p => decide (p.Kind = 3)
  | none => false
theorem at3_eq {l : List api_Part} {i : Nat} (h : i < l.length) : at3 l i = decide (l[i].Kind = 3) := by unfold at3; rw [List.getElem?_eq_getElem h]
def K3 (l : List api_Part) (k : Nat) : List Nat := (List.range k).filter (at3 l)
theorem K3_succ (l : List api_Part) (k : Nat) : K3 l (k + 1) = K3 l k ++ if at3 l k then [k] else [] := by
  unfold K3; rw [List.range_succ, List.filter_append]
  congr 1
  cases h : at3 l k <;> simp [h]
theorem K3_len (l : List api_Part) (k : Nat) : (K3 l k).length ≤ k := by
  unfold K3; have := List.length_filter_le (at3 l) (List.range k); simpa using this
theorem K3_split (l : List api_Part) (i : Nat) : ∀ n, i ≤ n → ∃ r, K3 l n = K3 l i ++ r
  | 0, h => by obtain rfl : i = 0 := by omega
               exact ⟨[], by simp⟩
  | n + 1, h => by
    by_cases e : i = n + 1
    · subst e; exact ⟨[], by simp⟩
    · obtain ⟨r, hr⟩ := K3_split l i n (by omega)
      exact ⟨_, by rw [K3_succ, hr, List.append_assoc]⟩
def sizeAt (l : List api_Part) (i : Nat) : Int := match l[i]? with
  | some p => p.Size
  | none => 0
def wts (l : List api_Part) (k : Nat) : List Int := (K3 l k).map (sizeAt l)
def ats (l : List api_Part) (k : Nat) : List Int := (K3 l k).map fun (i : Nat) => (i : Int)
theorem wts_sum {l : List api_Part} : ∀ k, k ≤ l.length → (wts l k).sum = wtS l k
  | 0, _ => by simp [wts, K3, wtS]
  | k + 1, h => by
    rw [wtS_succ (show k < l.length by omega), ← wts_sum k (by omega)]
    unfold wts
    rw [K3_succ, at3_eq (show k < l.length by omega), List.map_append, List.sum_append]
    by_cases h3 : l[k].Kind = 3
    · simp [h3, sizeAt, List.getElem?_eq_getElem (show k < l.length by omega)]
    · simp [h3]

/-- The places before i, and what comes there. -/
theorem at_here {l : List api_Part} {i n : Nat} (hil : i < l.length) (hi : i < n) (h3 : l[i].Kind = 3) : (wts l n)[(K3 l i).length]? = some l[i].Size ∧ (ats l n).drop (K3 l i).length = (i : Int) :: (ats l n).drop ((K3 l i).length + 1) ∧ (K3 l (i + 1)).length = (K3 l i).length + 1 := by
  obtain ⟨r, hr⟩ := K3_split l (i + 1) n (by omega)
  have hs : K3 l (i + 1) = K3 l i ++ [i] := by rw [K3_succ, at3_eq hil]; simp [h3]
  have hr : K3 l n = K3 l i ++ i :: r := by rw [hr, hs]; simp
  refine ⟨?_, ?_, by rw [hs]; simp⟩
  · unfold wts
    rw [hr, List.map_append, List.getElem?_append_right (by simp)]
    simp [sizeAt, List.getElem?_eq_getElem hil]
  · unfold ats
    rw [← List.map_drop, ← List.map_drop, hr]
    simp
theorem shares_sum {ws : List Int} (hl : ws.length ≤ 200) (hb : ∀ x ∈ ws, 0 ≤ x ∧ x ≤ 1000000) : loop (split_shares_e1_L1 ws) (0, 0) = some ws.sum := by
  have bd : ∀ k, k ≤ ws.length → 0 ≤ sumsTo ws k ∧ sumsTo ws k ≤ k * 1000000 := by
    intro k
    induction k with
    | zero => intro _; simp [sumsTo]
    | succ k ih =>
      intro hk
      have := ih (by omega)
      have := hb _ (List.getElem_mem (show k < ws.length by omega))
      rw [sumsTo_succ (show k < ws.length by omega)]; omega
  have := loop_rng (f := split_shares_e1_L1 ws) (σ := Unit) (fun j _ => ((j : Int), sumsTo ws j)) ws.length (fun j c => True) (fun b => b = ws.sum) ?_ ?_ (k0 := 0) (c0 := ()) (by omega) trivial
  · obtain ⟨b, h1, rfl⟩ := this; exact h1
  · rintro j _ hj _
    have hb' : decide ((j : Int) < (ws.length : Int)) = true := decide_eq_true (by omega)
    refine .inl ⟨(), ?_, trivial⟩
    simp only [split_shares_e1_L1, hb', cond_true, idx_lt hj, Option.bind_some]
    have b1 := bd j (by omega)
    have b2 := bd (j + 1) (by omega)
    have e := sumsTo_succ hj
    rw [w64_id (by omega), w64_id (by omega), ← e]; rfl
  · rintro _ _
    have hb' : decide ((ws.length : Int) < (ws.length : Int)) = false := decide_eq_false (by omega)
    exact ⟨sumsTo ws ws.length, by simp only [split_shares_e1_L1, hb', cond_false], by simp [sumsTo]⟩

/-- The first walk over the parts. -/
theorem sizes_L1 {w : Int} {l : List api_Part} (hw : 0 ≤ w ∧ w ≤ 1000000) (hn : l.length ≤ 200) (hl : AllOk l) :
    ∃ out : List Int, loop (split_Sizes_L1 l w) (0, w, [], List.replicate l.length 0, []) = some (restS w l l.length, wts l l.length, out, ats l l.length) ∧ out.length = l.length ∧ ∀ i (h : i < l.length), l[i].Kind ≠ 3 → out[i]? = some (own w l[i]) := by
  have := loop_rng (f := split_Sizes_L1 l w) (σ := List Int) (fun k out => ((k : Int), restS w l k, wts l k, out, ats l k)) l.length
    (fun k out => out.length = l.length ∧ ∀ i (h : i < l.length), i < k → l[i].Kind ≠ 3 → out[i]? = some (own w l[i]))
    (fun b => ∃ out : List Int, b = (restS w l l.length, wts l l.length, out, ats l l.length) ∧ out.length = l.length ∧ ∀ i (h : i < l.length), l[i].Kind ≠ 3 → out[i]? = some (own w l[i])) ?_ ?_ (k0 := 0) (c0 := List.replicate l.length 0) (by omega) ⟨by simp, fun i h h' => by omega⟩
  · obtain ⟨b, h1, out, rfl, h2, h3⟩ := this
    have e : restS w l 0 = w := by simp [restS, fixS]
    rw [e] at h1
    exact ⟨out, h1, h2, h3⟩
  · rintro k out hk ⟨ho, hg⟩
    have hb : decide ((k : Int) < (l.length : Int)) = true := decide_eq_true (by omega)
    have hv := hl _ (List.getElem_mem hk)
    have hs : w64 ((k : Int) + 1) = ((k + 1 : Nat) : Int) := by rw [w64_id (by omega)]; omega
    have f1 := fix_bd hw hl k (by omega)
    have f2 := fix_bd hw hl (k + 1) (by omega)
    have fs := fixS_succ (w := w) hk
    have setn : ∀ x, own w l[k] = x → l[k].Kind ≠ 3 → w64 (restS w l k - x) = restS w l (k + 1) ∧ wts l (k + 1) = wts l k ∧ ats l (k + 1) = ats l k ∧ split_Sizes_1_e1 (k : Int) x out (restS w l k) = some (out.set k x, w64 (restS w l k - x)) := by
      intro x hx h3
      have ob := own_bd hw hv h3
      rw [if_neg h3] at fs
      refine ⟨?_, ?_, ?_, ?_⟩
      · unfold restS; rw [w64_id (by omega)]; omega
      · unfold wts; rw [K3_succ, at3_eq hk]; simp [h3]
      · unfold ats; rw [K3_succ, at3_eq hk]; simp [h3]
      · unfold split_Sizes_1_e1; rw [idx_of rfl (show k < out.length by omega)]; rfl
    have inv : ∀ x, own w l[k] = x → l[k].Kind ≠ 3 → (out.set k x).length = l.length ∧ ∀ i (h : i < l.length), i < k + 1 → l[i].Kind ≠ 3 → (out.set k x)[i]? = some (own w l[i]) := by
      intro x hx h3
      refine ⟨by simpa using ho, fun i hi hik hi3 => ?_⟩
      by_cases e : i = k
      · subst e; rw [List.getElem?_set_self (by omega), hx]
      · rw [List.getElem?_set_ne (by omega)]; exact hg i hi (by omega) hi3
    refine .inl ?_
    by_cases k1 : l[k].Kind = 1
    · have e1 : (l[k].Kind == 1) = true := by simpa using k1
      have ho1 : own w l[k] = l[k].Size := by unfold own; rw [if_neg (by omega)]
      obtain ⟨s1, s2, s3, s4⟩ := setn _ ho1 (by omega)
      refine ⟨out.set k l[k].Size, ?_, inv _ ho1 (by omega)⟩
      simp only [split_Sizes_L1, hb, cond_true, idx_lt hk, Option.bind_some, e1, s4, hs, lenEq, List.length_set, if_true, s1, s2, s3]
    have e1 : (l[k].Kind == 1) = false := by simpa using k1
    by_cases k2 : l[k].Kind = 2
    · have e2 : (l[k].Kind == 2) = true := by simpa using k2
      obtain ⟨s1, s2, s3, s4⟩ := setn _ rfl (by omega)
      refine ⟨out.set k (own w l[k]), ?_, inv _ rfl (by omega)⟩
      simp only [split_Sizes_L1, hb, cond_true, cond_false, idx_lt hk, Option.bind_some, e1, e2, (own_bd hw hv (by omega)).2.2 k2, s4, hs, lenEq, List.length_set, if_true, s1, s2, s3]
    have e2 : (l[k].Kind == 2) = false := by simpa using k2
    have k3 : l[k].Kind = 3 := by unfold VOk at hv; omega
    refine ⟨out, ?_, ho, fun i hi hik hi3 => hg i hi (by
      by_cases e : i = k
      · subst e; exact absurd k3 hi3
      · omega) hi3⟩
    have kl := K3_len l k
    have a1 : app 8 (wts l k) [l[k].Size] = some (wts l (k + 1)) := by
      rw [app_of (by simp [wts]; omega)]
      unfold wts; rw [K3_succ, at3_eq hk]; simp [k3, sizeAt, List.getElem?_eq_getElem hk]
    have a2 : app 8 (ats l k) [(k : Int)] = some (ats l (k + 1)) := by
      rw [app_of (by simp [ats]; omega)]
      unfold ats; rw [K3_succ, at3_eq hk]; simp [k3]
    have r1 : restS w l (k + 1) = restS w l k := by
      rw [if_pos k3] at fs; unfold restS; omega
    simp only [split_Sizes_L1, hb, cond_true, cond_false, idx_lt hk, Option.bind_some, e1, e2, a1, a2, hs, r1]
  · rintro out ⟨ho, hg⟩
    have hb : decide ((l.length : Int) < (l.length : Int)) = false := decide_eq_false (by omega)
    exact ⟨_, by simp only [split_Sizes_L1, hb, cond_false], out, rfl, ho, fun i hi h3 => hg i hi hi h3⟩

/-- The second: the rest is shared. -/
theorem sizes_L2 {w : Int} {l : List api_Part} (hw : 0 ≤ w ∧ w ≤ 1000000) (hn : l.length ≤ 200) (hl : AllOk l) (hR : 0 ≤ restS w l l.length ∧ restS w l l.length ≤ 1000000) : ∀ m i (out : List Int), l.length - i = m → i ≤ l.length → out.length = l.length →
    (∀ j (h : j < l.length), j < i ∨ l[j].Kind ≠ 3 → out[j]? = some (szI w l j)) →
    loop (split_Sizes_L2 (wts l l.length, restS w l l.length, wtS l l.length)) (wtS l i, cutR (restS w l l.length) (wtS l l.length) (wtS l i), ((K3 l i).length : Int), (ats l l.length).drop (K3 l i).length, out) = some (sizesTo w l l.length) := by
  intro m
  induction m with
  | zero =>
    intro i out hm hi ho hg
    obtain rfl : i = l.length := by omega
    have hb : decide (((K3 l l.length).length : Int) < ((wts l l.length).length : Int)) = false := decide_eq_false (by simp [wts])
    refine loop_done ?_
    simp only [split_Sizes_L2, hb, cond_false]
    congr 2
    apply List.ext_getElem?
    intro j
    by_cases h : j < l.length
    · rw [hg j h (.inl h)]; simp [sizesTo, h]
    · rw [List.getElem?_eq_none (by omega), List.getElem?_eq_none (by rw [sizesTo_len]; omega)]
  | succ m ih =>
    intro i out hm hi ho hg
    have hil : i < l.length := by omega
    by_cases h3 : l[i].Kind = 3
    · have wst := wt_step hl hil
      have w0 := wt_bd hl i (by omega)
      have wn := wt_bd hl l.length (by omega)
      have wm := wt_mono hl (i := i + 1) l.length (by omega) (by omega)
      have hlt := wst.2.2 h3
      have hW : 0 < wtS l l.length ∧ wtS l l.length ≤ 200000000 := ⟨by omega, by omega⟩
      obtain ⟨c1, c2, c3⟩ := cut_ok hR (s := wtS l i) ⟨w0.1, by omega⟩ hW
      obtain ⟨d1, d2, d3⟩ := cut_ok hR (s := wtS l (i + 1)) ⟨by omega, wm⟩ hW
      obtain ⟨a1, a2, a3⟩ := at_here (n := l.length) hil hil h3
      have hlen : (K3 l i).length < (wts l l.length).length := by
        rcases Nat.lt_or_ge (K3 l i).length (wts l l.length).length with h | h
        · exact h
        · rw [List.getElem?_eq_none h] at a1; cases a1
      have hb : decide (((K3 l i).length : Int) < ((wts l l.length).length : Int)) = true := decide_eq_true (by omega)
      have e1 : idx (wts l l.length) ((K3 l i).length : Int) = some l[i].Size := by rw [idx_nat]; exact a1
      have ws := wtS_succ hil
      rw [if_pos h3] at ws
      have e2 : w64 (wtS l i + l[i].Size) = wtS l (i + 1) := by rw [w64_id (by omega)]; omega
      have e3 : idx ((ats l l.length).drop (K3 l i).length) 0 = some (i : Int) := by rw [a2]; rfl
      have e4 : idx out (i : Int) = some (out[i]'(by omega)) := idx_lt (by omega)
      have e5 : slc ((ats l l.length).drop (K3 l i).length) 1 (((ats l l.length).drop (K3 l i).length).length : Int) = some ((ats l l.length).drop ((K3 l i).length + 1)) := by
        rw [a2]; unfold slc; rw [if_pos ⟨by omega, by simp only [List.length_cons]; omega, by omega⟩]
        congr 1
        simp
        exact List.take_of_length_le (by simp)
      have kl := K3_len l i
      have e6 : w64 (((K3 l i).length : Int) + 1) = ((K3 l (i + 1)).length : Int) := by rw [w64_id (by omega), a3]; omega
      have e7 : w64 (cutR (restS w l l.length) (wtS l l.length) (wtS l (i + 1)) - cutR (restS w l l.length) (wtS l l.length) (wtS l i)) = szI w l i := by rw [w64_id (by omega), szI_3 hil h3]
      have step : split_Sizes_L2 (wts l l.length, restS w l l.length, wtS l l.length) (wtS l i, cutR (restS w l l.length) (wtS l l.length) (wtS l i), ((K3 l i).length : Int), (ats l l.length).drop (K3 l i).length, out) =
          some (.inl (wtS l (i + 1), cutR (restS w l l.length) (wtS l l.length) (wtS l (i + 1)), ((K3 l (i + 1)).length : Int), (ats l l.length).drop (K3 l (i + 1)).length, out.set i (szI w l i))) := by
        simp only [split_Sizes_L2, hb, cond_true, e1, Option.bind_some, e2, d1, e3, e4, e5, e6, e7, Bool.not_true, cond_false, a3]
        rfl
      rw [loop_next step]
      refine ih (i + 1) _ (by omega) (by omega) (by simpa using ho) fun j hj hji => ?_
      by_cases e : j = i
      · subst e; rw [List.getElem?_set_self (by omega)]
      · rw [List.getElem?_set_ne (by omega)]
        refine hg j hj ?_
        rcases hji with h | h
        · exact .inl (by omega)
        · exact .inr h
    · have ks : K3 l (i + 1) = K3 l i := by rw [K3_succ, at3_eq hil]; simp [h3]
      have ws := wtS_succ hil
      rw [if_neg h3] at ws
      have := ih (i + 1) out (by omega) (by omega) ho fun j hj hji => ?_
      · rw [ks, show wtS l (i + 1) = wtS l i by omega] at this
        exact this
      · refine hg j hj ?_
        rcases hji with h | h
        · by_cases e : j = i
          · subst e; exact .inr h3
          · exact .inl (by omega)
        · exact .inr h

/-! ### The reference's walks -/
theorem r23_own_eq {w : Int} {p : api_Part} (hw : 0 ≤ w ∧ w ≤ 1000000) (hp : VOk p) (h3 : p.Kind ≠ 3) : r23_own w p = some (own w p) := by
  unfold r23_own
  by_cases k2 : p.Kind = 2
  · have e2 : (p.Kind == 2) = true := by simpa using k2
    simp only [e2, cond_true, (own_bd hw hp h3).2.2 k2, Option.bind_some]
  · have e2 : (p.Kind == 2) = false := by simpa using k2
    simp only [e2, cond_false]
    unfold own; rw [if_neg k2]
theorem r23_L1 {w : Int} {l : List api_Part} (hw : 0 ≤ w ∧ w ≤ 1000000) (hn : l.length ≤ 200) (hl : AllOk l) : loop (r23_Sizes_L1 l w) (w, 0, 0) = some (restS w l l.length, wtS l l.length) := by
  have := loop_rng (f := r23_Sizes_L1 l w) (σ := Unit) (fun k _ => (restS w l k, wtS l k, (k : Int))) l.length (fun _ _ => True) (fun b => b = (restS w l l.length, wtS l l.length)) ?_ ?_ (k0 := 0) (c0 := ()) (by omega) trivial
  · obtain ⟨b, h1, rfl⟩ := this
    have e : restS w l 0 = w := by simp [restS, fixS]
    rw [e] at h1
    exact h1
  · rintro k _ hk _
    have hb : decide ((k : Int) < (l.length : Int)) = true := decide_eq_true (by omega)
    have hv := hl _ (List.getElem_mem hk)
    have hs : w64 ((k : Int) + 1) = ((k + 1 : Nat) : Int) := by rw [w64_id (by omega)]; omega
    have f1 := fix_bd hw hl k (by omega)
    have fs := fixS_succ (w := w) hk
    have ws := wtS_succ hk
    have w1 := wt_bd hl k (by omega)
    refine .inl ⟨(), ?_, trivial⟩
    by_cases k3 : l[k].Kind = 3
    · have e3 : (l[k].Kind == 3) = true := by simpa using k3
      rw [if_pos k3] at fs ws
      have := size_bd hv k3
      simp only [r23_Sizes_L1, hb, cond_true, idx_lt hk, Option.bind_some, e3, hs]
      rw [w64_id (by omega), ← ws, show restS w l (k + 1) = restS w l k by unfold restS; omega]
    · have e3 : (l[k].Kind == 3) = false := by simpa using k3
      rw [if_neg k3] at fs ws
      have ob := own_bd hw hv k3
      simp only [r23_Sizes_L1, hb, cond_true, cond_false, idx_lt hk, Option.bind_some, e3, r23_own_eq hw hv k3, hs]
      rw [show w64 (restS w l k - own w l[k]) = restS w l (k + 1) by unfold restS; rw [w64_id (by omega)]; omega, show wtS l (k + 1) = wtS l k by omega]
  · rintro _ _
    have hb : decide ((l.length : Int) < (l.length : Int)) = false := decide_eq_false (by omega)
    exact ⟨_, by simp only [r23_Sizes_L1, hb, cond_false], rfl⟩
theorem r23_L2 {w : Int} {l : List api_Part} (hw : 0 ≤ w ∧ w ≤ 1000000) (hn : l.length ≤ 200) (hl : AllOk l) (hR : 0 ≤ restS w l l.length ∧ restS w l l.length ≤ 1000000) : loop (r23_Sizes_L2 l w (restS w l l.length, wtS l l.length)) (0, 0, []) = some (sizesTo w l l.length) := by
  have := loop_rng (f := r23_Sizes_L2 l w (restS w l l.length, wtS l l.length)) (σ := Unit) (fun k _ => (wtS l k, (k : Int), sizesTo w l k)) l.length (fun _ _ => True) (fun b => b = sizesTo w l l.length) ?_ ?_ (k0 := 0) (c0 := ()) (by omega) trivial
  · obtain ⟨b, h1, rfl⟩ := this; exact h1
  · rintro k _ hk _
    have hb : decide ((k : Int) < (l.length : Int)) = true := decide_eq_true (by omega)
    have hv := hl _ (List.getElem_mem hk)
    have hs : w64 ((k : Int) + 1) = ((k + 1 : Nat) : Int) := by rw [w64_id (by omega)]; omega
    have ws := wtS_succ hk
    have ha : ∀ x, szI w l k = x → app 8 (sizesTo w l k) [x] = some (sizesTo w l (k + 1)) := fun x hx => by
      rw [app_of (by rw [sizesTo_len]; simp; omega), sizesTo_succ, hx]
    refine .inl ⟨(), ?_, trivial⟩
    by_cases k3 : l[k].Kind = 3
    · have e3 : (l[k].Kind != 3) = false := by simpa using k3
      have wst := wt_step hl hk
      have w0 := wt_bd hl k (by omega)
      have wn := wt_bd hl l.length (by omega)
      have wm := wt_mono hl (i := k + 1) l.length (by omega) (by omega)
      have hlt := wst.2.2 k3
      have hW : 0 < wtS l l.length ∧ wtS l l.length ≤ 200000000 := ⟨by omega, by omega⟩
      obtain ⟨c1, c2, c3⟩ := cut_ok hR (s := wtS l k) ⟨w0.1, by omega⟩ hW
      obtain ⟨d1, d2, d3⟩ := cut_ok hR (s := wtS l (k + 1)) ⟨by omega, wm⟩ hW
      rw [if_pos k3] at ws
      have e2 : w64 (wtS l k + l[k].Size) = wtS l (k + 1) := by rw [w64_id (by omega)]; omega
      have e7 := ha (w64 (cutR (restS w l l.length) (wtS l l.length) (wtS l (k + 1)) - cutR (restS w l l.length) (wtS l l.length) (wtS l k))) (by rw [w64_id (by omega), szI_3 hk k3])
      simp only [r23_Sizes_L2, hb, cond_true, cond_false, idx_lt hk, Option.bind_some, e3, hs, e2, c1, d1, e7]
    · have e3 : (l[k].Kind != 3) = true := by simpa using k3
      rw [if_neg k3] at ws
      have e7 := ha (own w l[k]) (szI_n hk k3)
      simp only [r23_Sizes_L2, hb, cond_true, idx_lt hk, Option.bind_some, e3, r23_own_eq hw hv k3, hs, e7]
      rw [show wtS l (k + 1) = wtS l k by omega]
  · rintro _ _
    have hb : decide ((l.length : Int) < (l.length : Int)) = false := decide_eq_false (by omega)
    exact ⟨_, by simp only [r23_Sizes_L2, hb, cond_false], rfl⟩

/-- What both answer. -/
def sizesS (w : Int) (l : List api_Part) : List Int × Int :=
  if chk l ≠ 0 then ([], chk l) else if w < 0 ∨ w > 1000000 then ([], 2) else if restS w l l.length < 0 then ([], 16) else if restS w l l.length > 0 ∧ wtS l l.length = 0 then ([], 28) else (sizesTo w l l.length, 0)
theorem chk_zero {l : List api_Part} (h : chk l = 0) : l.length ≤ 200 ∧ AllOk l := by
  unfold chk at h
  split at h
  · omega
  · split at h
    · exact ⟨by omega, by assumption⟩
    · omega
theorem r23_Sizes_eq (w : Int) (l : List api_Part) : r23_Sizes w l = some (sizesS w l) := by
  unfold r23_Sizes sizesS
  rw [r23_Check_eq l]
  simp only [Option.bind_some]
  by_cases hc : chk l = 0
  · have e : (chk l != 0) = false := by simpa using hc
    obtain ⟨hn, ha⟩ := chk_zero hc
    rw [if_neg (by simpa using hc)]
    simp only [e, cond_false]
    by_cases hw : w < 0 ∨ w > 1000000
    · rw [if_pos hw]
      by_cases h1 : w < 0
      · simp [h1]
      · have h2 : w > 1000000 := by omega
        simp [h1, h2]
    · rw [if_neg hw]
      have h1 : ¬ w < 0 := by omega
      have h2 : ¬ w > 1000000 := by omega
      simp only [decide_eq_false h1, decide_eq_false h2, cond_false, Option.bind_some]
      have hw' : 0 ≤ w ∧ w ≤ 1000000 := ⟨by omega, by omega⟩
      rw [r23_L1 hw' hn ha]
      simp only [Option.bind_some]
      have fb := fix_bd hw' ha l.length (by omega)
      by_cases r0 : restS w l l.length < 0
      · rw [if_pos r0]; simp only [decide_eq_true r0, cond_true]
      · rw [if_neg r0]; simp only [decide_eq_false r0, cond_false]
        have hR : 0 ≤ restS w l l.length ∧ restS w l l.length ≤ 1000000 := ⟨by omega, by unfold restS; omega⟩
        by_cases r1 : restS w l l.length > 0
        · by_cases r2 : wtS l l.length = 0
          · rw [if_pos ⟨r1, r2⟩]; simp [r1, r2]
          · have e2 : (wtS l l.length == 0) = false := by simpa using r2
            rw [if_neg (fun h => r2 h.2)]; simp only [decide_eq_true r1, cond_true, Option.bind_some, e2, cond_false, r23_L2 hw' hn ha hR]
        · rw [if_neg (fun h => r1 h.1)]; simp only [decide_eq_false r1, cond_false, Option.bind_some, r23_L2 hw' hn ha hR]
  · have e : (chk l != 0) = true := by simpa using hc
    rw [if_pos hc]; simp only [e, cond_true]
theorem split_Sizes_eq (w : Int) (l : List api_Part) (hI : ∀ p ∈ l, PartI p) : split_Sizes w l = some (sizesS w l) := by
  unfold split_Sizes sizesS
  rw [split_Check_eq l hI]
  simp only [Option.bind_some]
  by_cases hc : chk l = 0
  · have e : (chk l != 0) = false := by simpa using hc
    obtain ⟨hn, ha⟩ := chk_zero hc
    rw [if_neg (by simpa using hc)]
    simp only [e, cond_false]
    by_cases hw : w < 0 ∨ w > 1000000
    · rw [if_pos hw]
      by_cases h1 : w < 0
      · simp [h1]
      · have h2 : w > 1000000 := by omega
        simp [h1, h2]
    · rw [if_neg hw]
      have h1 : ¬ w < 0 := by omega
      have h2 : ¬ w > 1000000 := by omega
      simp only [decide_eq_false h1, decide_eq_false h2, cond_false, Option.bind_some]
      have hw' : 0 ≤ w ∧ w ≤ 1000000 := ⟨by omega, by omega⟩
      have hm : mks 8 (l.length : Int) (0 : Int) = some (List.replicate l.length 0) := by
        unfold mks; rw [if_pos ⟨by omega, by omega⟩]; simp
      obtain ⟨out, g1, g2, g3⟩ := sizes_L1 hw' hn ha
      rw [hm]
      simp only [Option.bind_some]
      rw [g1]
      simp only [Option.bind_some]
      have fb := fix_bd hw' ha l.length (by omega)
      have wb := wt_bd ha l.length (by omega)
      by_cases r0 : restS w l l.length < 0
      · rw [if_pos r0]; simp only [decide_eq_true r0, cond_true]
      · rw [if_neg r0]; simp only [decide_eq_false r0, cond_false]
        have hR : 0 ≤ restS w l l.length ∧ restS w l l.length ≤ 1000000 := ⟨by omega, by unfold restS; omega⟩
        have hsum : split_shares_e1 (restS w l l.length) (wts l l.length) = some (wts l l.length, restS w l l.length, wtS l l.length) := by
          unfold split_shares_e1
          rw [shares_sum (by have := K3_len l l.length; simp [wts]; omega) (fun x hx => ?_), wts_sum l.length (by omega)]
          · rfl
          · unfold wts at hx
            obtain ⟨i, hi, rfl⟩ := List.mem_map.1 hx
            unfold K3 at hi
            obtain ⟨hi, h3⟩ := List.mem_filter.1 hi
            have hi : i < l.length := by simpa using hi
            rw [at3_eq hi] at h3
            have := size_bd (ha _ (List.getElem_mem hi)) (by simpa using h3)
            unfold sizeAt; rw [List.getElem?_eq_getElem hi]
            simp only; omega
        have fin := sizes_L2 hw' hn ha hR l.length 0 out (by omega) (by omega) g2 (fun j hj h => by
          rcases h with h | h
          · omega
          · rw [g3 j hj h, szI_n hj h])
        have c0 : cutR (restS w l l.length) (wtS l l.length) (wtS l 0) = 0 := by simp [cutR, wtS]
        rw [c0] at fin
        have fin : loop (split_Sizes_L2 (wts l l.length, restS w l l.length, wtS l l.length)) (0, 0, 0, ats l l.length, out) = some (sizesTo w l l.length) := fin
        have hlast : ((split_shares_e1 (restS w l l.length) (wts l l.length)).bind fun e106 => (lenEq e106.1.length (wts l l.length).length).bind fun u108 => ((loop (split_Sizes_L2 e106) (0, 0, 0, ats l l.length, out)).bind fun x0 => some x0).bind fun b222 => some (b222, (0 : Int))) = some (sizesTo w l l.length, 0) := by
          rw [hsum]
          simp only [Option.bind_some, lenEq, if_true, fin]
        have hz : ((ats l l.length).length : Int) = 0 ↔ wtS l l.length = 0 := by
          rw [← wts_sum l.length (by omega)]
          have e1 : (ats l l.length).length = (K3 l l.length).length := by simp [ats]
          constructor
          · intro h
            have : K3 l l.length = [] := List.eq_nil_of_length_eq_zero (by omega)
            simp [wts, this]
          · intro h
            rw [wts_sum l.length (by omega)] at h
            have : K3 l l.length = [] := by
              rw [List.eq_nil_iff_forall_not_mem]
              intro i hi
              unfold K3 at hi
              obtain ⟨hi, h3⟩ := List.mem_filter.1 hi
              have hi : i < l.length := by simpa using hi
              rw [at3_eq hi] at h3
              have := (wt_step ha hi).2.2 (by simpa using h3)
              have := wt_bd ha i (by omega)
              have := wt_mono ha (i := i + 1) l.length (by omega) (by omega)
              omega
            simp [ats, this]
        by_cases r1 : restS w l l.length > 0
        · by_cases r2 : wtS l l.length = 0
          · have e2 : (((ats l l.length).length : Int) == 0) = true := by simpa using hz.2 r2
            rw [if_pos ⟨r1, r2⟩]; simp only [decide_eq_true r1, cond_true, Option.bind_some, e2]
          · have e2 : (((ats l l.length).length : Int) == 0) = false := by
              rw [beq_eq_false_iff_ne]; exact fun h => r2 (hz.1 h)
            rw [if_neg (fun h => r2 h.2)]; simp only [decide_eq_true r1, cond_true, Option.bind_some, e2, cond_false, hlast]
        · rw [if_neg (fun h => r1 h.1)]; simp only [decide_eq_false r1, cond_false, Option.bind_some, hlast]
  · have e : (chk l != 0) = true := by simpa using hc
    rw [if_pos hc]; simp only [e, cond_true]

/-- **THE LAW SplitSizes.** -/
theorem splitSizes (w : Int) (l : List api_Part) (hI : ∀ p ∈ l, PartI p) : l23_SplitSizes w l = some true := by
  unfold l23_SplitSizes
  by_cases hl : (l.length : Int) > 250
  · simp [hl]
  · simp only [hl, decide_false, cond_false]
    rw [split_Sizes_eq w l hI, r23_Sizes_eq w l, split_Check_eq l hI, r23_Check_eq l]
    have hs : (sizesS w l).1.length ≤ 1000000 := by
      unfold sizesS
      split
      · simp
      split
      · simp
      split
      · simp
      split
      · simp
      · simp only [sizesTo_len]; omega
    simp only [Option.bind_some, int_same_self _ hs]
    simp
end Go.Sh
