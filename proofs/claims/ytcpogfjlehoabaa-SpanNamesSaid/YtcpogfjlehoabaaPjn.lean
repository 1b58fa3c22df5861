/- PLAIN: Pj1 Pj2 Pj3 Pj4 Pj5 Pj6 in one text (a claim holds 60 files at most). -/
import Derived.Test.YtcpogfjlehoabaaPl3
import Derived.Test.YtcpogfjlehoabaaPg5
import Derived.Test.YtcpogfjlehoabaaPg6
import Derived.Test.YtcpogfjlehoabaaPl4
import Derived.Test.YtcpogfjlehoabaaPspan2
namespace Go.Sh
open Go Go.Am

instance : Inhabited span_end := ⟨⟨0, 0, 0⟩⟩

theorem spanSort_eq (q : span_end → span_end → Option Int) (xs : List span_end) : slices_SortFunc_span_end_span_end_e1 q xs = g_SortFunc q xs := by rw [se_g_SortFunc]

def evs (s : List api_Span) (l : Int) : List span_end := s.flatMap fun t => [{ at_ := t.Lo, list_ := l, by_ := 1 }, { at_ := t.Hi, list_ := l, by_ := -1 }]
theorem evs_length (s : List api_Span) (l : Int) : (evs s l).length = 2 * s.length := by
  induction s with
  | nil => rfl
  | cons t s ih => simp only [evs, List.flatMap_cons, List.length_append, List.length_cons, List.length_nil] at ih ⊢; omega
theorem mem_evs {s : List api_Span} {l : Int} {e : span_end} (h : e ∈ evs s l) : e.list_ = l ∧ (e.by_ = 1 ∨ e.by_ = -1) ∧ ∃ t ∈ s, e.at_ = t.Lo ∨ e.at_ = t.Hi := by
  simp only [evs, List.mem_flatMap] at h
  obtain ⟨t, ht, h⟩ := h
  simp only [List.mem_cons, List.not_mem_nil, or_false] at h
  rcases h with rfl | rfl
  · exact ⟨rfl, .inl rfl, t, ht, .inl rfl⟩
  · exact ⟨rfl, .inr rfl, t, ht, .inr rfl⟩

theorem ends_L2 (s : List api_Span) (l : Int) (y : List span_end) (hs : s.length ≤ 1000) (base : List span_end) (hb : base.length ≤ 10000) :
    loop (span_ends_e1_L2 s (l, y)) (0, base) = some (base ++ evs s l) := by
  have := loop_rng (f := span_ends_e1_L2 s (l, y)) (σ := List span_end) (fun k c => ((k : Int), c)) s.length (fun k c => c = base ++ evs (s.take k) l) (fun t => t = base ++ evs s l) ?_ ?_ (k0 := 0) (c0 := base) (by omega) (by simp [evs])
  · obtain ⟨b, h1, rfl⟩ := this; exact h1
  · rintro k c hk rfl
    have hb1 : decide ((k : Int) < (s.length : Int)) = true := decide_eq_true (by omega)
    refine .inl ⟨base ++ evs (s.take (k + 1)) l, ?_, rfl⟩
    have hlen : (evs (s.take k) l).length ≤ 2000 := by rw [evs_length, List.length_take]; omega
    simp only [span_ends_e1_L2, hb1, cond_true, idx_lt hk, Option.bind_some]
    rw [app_of (by rw [List.length_append]; simp only [List.length_cons, List.length_nil]; omega), Option.bind_some, w64_id (by omega), List.take_succ_eq_append_getElem hk, List.append_assoc]
    have : evs (s.take k ++ [s[k]]) l = evs (s.take k) l ++ [{ at_ := s[k].Lo, list_ := l, by_ := 1 }, { at_ := s[k].Hi, list_ := l, by_ := -1 }] := by simp only [evs, List.flatMap_append, List.flatMap_cons, List.flatMap_nil, List.append_nil]
    rw [this]; rfl
  · rintro c rfl
    have hb1 : decide ((s.length : Int) < (s.length : Int)) = false := decide_eq_false (by omega)
    exact ⟨_, by simp only [span_ends_e1_L2, hb1, cond_false]; rfl, by rw [List.take_length]⟩

def ltE (a b : span_end) : Bool := decide (a.at_ < b.at_)
def inE (e : span_end) : Prop := -1000000 ≤ e.at_ ∧ e.at_ ≤ 1000000
theorem swoE : Sort.SWO ltE where
  irrefl := by intro x; simp [ltE]
  trans := by intro x y z; simp only [ltE, decide_eq_true_eq]; omega
  ntrans := by intro x y z; simp only [ltE, decide_eq_false_iff_not]; omega
theorem cmpE : CmpOk (fun x0 x1 => span_ends_1 x0 x1) ltE inE := by
  rintro x y ⟨h1, h2⟩ ⟨h3, h4⟩
  refine ⟨x.at_ - y.at_, ?_, ?_⟩
  · show some (w64 (x.at_ - y.at_)) = _; rw [w64_id (by omega)]
  · unfold ltE; exact decide_eq_decide.2 (by omega)

theorem spanEnds_eq (p q : List api_Span) (hp : p.length ≤ 500) (hq : q.length ≤ 500) (vp : ∀ t ∈ p, vld t) (vq : ∀ t ∈ q, vld t) :
    ∃ ys, span_ends_e1 [p, q] = some ([p, q], ys) ∧ ys.Perm (evs p 0 ++ evs q 1) ∧ ys.Pairwise (fun x y => x.at_ ≤ y.at_) := by
  have hP : ∀ x ∈ evs p 0 ++ evs q 1, inE x := by
    intro x hx
    rcases List.mem_append.1 hx with h | h
    · obtain ⟨_, _, t, ht, h⟩ := mem_evs h
      obtain ⟨a, b, c⟩ := vp t ht
      unfold inE; rcases h with h | h <;> omega
    · obtain ⟨_, _, t, ht, h⟩ := mem_evs h
      obtain ⟨a, b, c⟩ := vq t ht
      unfold inE; rcases h with h | h <;> omega
  have l1 := evs_length p 0
  have l2 := evs_length q 1
  obtain ⟨ys, h1, h2, h3⟩ := sortFunc_eq cmpE swoE (evs p 0 ++ evs q 1) (by rw [List.length_append]; omega) hP
  refine ⟨ys, ?_, h2, h3.imp (fun {x y} h => by simp only [ltE, decide_eq_false_iff_not] at h; omega)⟩
  have hloop : loop (span_ends_e1_L1 [p, q]) (0, []) = some (evs p 0 ++ evs q 1) := by
    have s0 : span_ends_e1_L1 [p, q] (0, []) = some (.inl (1, evs p 0)) := by
      have t : decide ((0 : Int) < (([p, q] : List (List api_Span)).length : Int)) = true := rfl
      simp only [span_ends_e1_L1, t, cond_true]
      have : idx [p, q] 0 = some p := rfl
      rw [this]
      simp only [Option.bind_some, ends_L2 p 0 [] (by omega) [] (by simp), List.nil_append]
      rfl
    have s1 : span_ends_e1_L1 [p, q] (1, evs p 0) = some (.inl (2, evs p 0 ++ evs q 1)) := by
      have t : decide ((1 : Int) < (([p, q] : List (List api_Span)).length : Int)) = true := rfl
      simp only [span_ends_e1_L1, t, cond_true]
      have : idx [p, q] 1 = some q := rfl
      rw [this]
      simp only [Option.bind_some, ends_L2 q 1 (evs p 0) (by omega) (evs p 0) (by omega)]
      rfl
    have s2 : span_ends_e1_L1 [p, q] (2, evs p 0 ++ evs q 1) = some (.inr (evs p 0 ++ evs q 1)) := by
      have t : decide ((2 : Int) < (([p, q] : List (List api_Span)).length : Int)) = false := rfl
      simp only [span_ends_e1_L1, t, cond_false]
    rw [loop_next s0, loop_next s1, loop_done s2]
  unfold span_ends_e1
  rw [hloop]
  simp only [Option.bind_some, spanSort_eq, h1]
  have le : lenEq ys.length (evs p 0 ++ evs q 1).length = some () := by unfold lenEq; rw [if_pos h2.length_eq]
  have le2 : lenEq ys.length ys.length = some () := by unfold lenEq; rw [if_pos rfl]
  simp only [le, Option.bind_some, slices_Values_span_end_span_end_e1, le2]

/-- How many ends of one list are chosen, with their signs. -/
def cnt (l : Int) (c : Int → Bool) : List span_end → Int
  | [] => 0
  | e :: es => (if e.list_ = l ∧ c e.at_ = true then e.by_ else 0) + cnt l c es
theorem cnt_append (l : Int) (c : Int → Bool) (a b : List span_end) : cnt l c (a ++ b) = cnt l c a + cnt l c b := by
  induction a with
  | nil => simp [cnt]
  | cons e a ih => simp only [List.cons_append, cnt, ih]; omega
theorem cnt_perm {l : Int} {c : Int → Bool} {a b : List span_end} (h : a.Perm b) : cnt l c a = cnt l c b := by
  induction h with
  | nil => rfl
  | cons x _ ih => simp only [cnt, ih]
  | swap x y l => simp only [cnt]; omega
  | trans _ _ ih1 ih2 => rw [ih1, ih2]
theorem cnt_congr {l : Int} {c c' : Int → Bool} : ∀ {a : List span_end}, (∀ e ∈ a, c e.at_ = c' e.at_) → cnt l c a = cnt l c' a
  | [], _ => rfl
  | e :: a, h => by simp only [cnt, h e (by simp), cnt_congr (fun e he => h e (List.mem_cons_of_mem _ he))]
theorem cnt_none {l : Int} {c : Int → Bool} : ∀ {a : List span_end}, (∀ e ∈ a, c e.at_ = false) → cnt l c a = 0
  | [], _ => rfl
  | e :: a, h => by
    simp only [cnt, cnt_none (fun e he => h e (List.mem_cons_of_mem _ he)), h e (by simp)]
    simp
theorem cnt_other {s : List api_Span} {l l' : Int} {c : Int → Bool} (h : l ≠ l') : cnt l c (evs s l') = 0 := by
  induction s with
  | nil => rfl
  | cons t s ih =>
    have : evs (t :: s) l' = [{ at_ := t.Lo, list_ := l', by_ := 1 }, { at_ := t.Hi, list_ := l', by_ := -1 }] ++ evs s l' := rfl
    rw [this, cnt_append, ih]
    have h' : ¬ l' = l := fun e => h e.symm
    simp [cnt, h']
theorem cnt_evs {s : List api_Span} {l : Int} (v : ∀ t ∈ s, vld t) (x : Int) : 0 ≤ cnt l (fun a => decide (a ≤ x)) (evs s l) ∧ (0 < cnt l (fun a => decide (a ≤ x)) (evs s l) ↔ has s x) := by
  induction s with
  | nil => exact ⟨Int.le_refl 0, by simp [evs, cnt, has]⟩
  | cons t s ih =>
    obtain ⟨i1, i2⟩ := ih (fun t ht => v t (List.mem_cons_of_mem _ ht))
    have hv := v t (by simp)
    have : evs (t :: s) l = [{ at_ := t.Lo, list_ := l, by_ := 1 }, { at_ := t.Hi, list_ := l, by_ := -1 }] ++ evs s l := rfl
    rw [this, cnt_append, has_cons, ← i2]
    obtain ⟨v1, v2, v3⟩ := hv
    simp only [cnt, true_and, decide_eq_true_eq]
    split <;> split <;> omega
theorem cnt_total {s : List api_Span} {l : Int} : cnt l (fun _ => true) (evs s l) = 0 := by
  induction s with
  | nil => rfl
  | cons t s ih =>
    have : evs (t :: s) l = [{ at_ := t.Lo, list_ := l, by_ := 1 }, { at_ := t.Hi, list_ := l, by_ := -1 }] ++ evs s l := rfl
    rw [this, cnt_append, ih]
    simp [cnt]
theorem cnt_bound {l : Int} {c : Int → Bool} : ∀ {a : List span_end}, (∀ e ∈ a, e.by_ = 1 ∨ e.by_ = -1) → -(a.length : Int) ≤ cnt l c a ∧ cnt l c a ≤ (a.length : Int)
  | [], _ => by simp [cnt]
  | e :: a, h => by
    obtain ⟨h1, h2⟩ := cnt_bound (l := l) (c := c) (fun e he => h e (List.mem_cons_of_mem _ he))
    have := h e (by simp)
    simp only [cnt, List.length_cons]
    split <;> omega


theorem close_eq (at_ last : Int) (inn : Bool) (out : List api_Span) (h : out.length ≤ 10000) :
    span_join_1_e2 at_ inn last out = some (inn, last, if inn = true ∧ last ≠ at_ then addS out last at_ else out) := by
  unfold span_join_1_e2
  cases inn with
  | false => rfl
  | true =>
    by_cases he : last = at_
    · simp [he]
    · have hb : (last == at_) = false := by simpa using he
      simp only [Bool.not_true, cond_false, Option.bind_some, hb]
      rw [if_pos ⟨trivial, he⟩]
      rcases snoc_cases out with rfl | ⟨d, t, rfl⟩
      · rfl
      · have hl : (d ++ [t]).length = d.length + 1 := by simp
        have h0 : decide (((d ++ [t]).length : Int) > 0) = true := decide_eq_true (by omega)
        have hw : w64 (((d ++ [t]).length : Int) - 1) = (d.length : Int) := by rw [w64_id (by omega)]; omega
        have hx : idx (d ++ [t]) (d.length : Int) = some t := by
          rw [idx_lt (by omega)]; simp
        simp only [h0, cond_true, hw, hx, Option.bind_some]
        by_cases h2 : t.Hi = last
        · subst h2
          simp only [beq_self_eq_true, cond_true, addS_eq, Int.toNat_natCast, set_last]
        · have hb2 : (t.Hi == last) = false := by simpa using h2
          simp only [hb2, cond_false, addS_ne h2]
          rw [app_of (by simp; omega)]
          rfl

open Classical in
structure Sweep (f : Bool → Bool → Bool) (p q : List api_Span) (ys : List span_end) (k : Nat) (c : List Int × Int × Bool × List api_Span) : Prop where
  opn : c.1 = [cnt 0 (fun _ => true) (ys.take k), cnt 1 (fun _ => true) (ys.take k)]
  inn : c.2.2.1 = f (decide (0 < cnt 0 (fun _ => true) (ys.take k))) (decide (0 < cnt 1 (fun _ => true) (ys.take k)))
  lst : ∀ (h : k - 1 < ys.length), 0 < k → c.2.1 = ys[k - 1].at_
  can : Can c.2.2.2
  his : ∀ t ∈ c.2.2.2, t.Hi ≤ c.2.1
  zro : k = 0 → c.2.2.2 = []
  pts : ∀ x, has c.2.2.2 x ↔ 0 < k ∧ x < c.2.1 ∧ f (decide (has p x)) (decide (has q x)) = true
  len : c.2.2.2.length ≤ k

theorem addS_len (c : List api_Span) (a b : Int) : (addS c a b).length ≤ c.length + 1 := by
  rcases snoc_cases c with rfl | ⟨d, t, rfl⟩
  · simp [addS_nil]
  · by_cases h : t.Hi = a
    · subst h; rw [addS_eq]; simp
    · rw [addS_ne h]; simp

theorem cnt_at {p q : List api_Span} {ys : List span_end} (hp : ∀ t ∈ p, vld t) (hq : ∀ t ∈ q, vld t) (hperm : ys.Perm (evs p 0 ++ evs q 1)) (hs : ys.Pairwise (fun x y => x.at_ ≤ y.at_)) (k : Nat) (x : Int)
    (h1 : ∀ i (h : i < ys.length), i < k → ys[i].at_ ≤ x) (h2 : ∀ i (h : i < ys.length), k ≤ i → x < ys[i].at_) :
    (0 < cnt 0 (fun _ => true) (ys.take k) ↔ has p x) ∧ (0 < cnt 1 (fun _ => true) (ys.take k) ↔ has q x) := by
  have key : ∀ l, cnt l (fun _ => true) (ys.take k) = cnt l (fun a => decide (a ≤ x)) (evs p 0) + cnt l (fun a => decide (a ≤ x)) (evs q 1) := by
    intro l
    rw [← cnt_append, ← cnt_perm hperm]
    conv => rhs; rw [← List.take_append_drop k ys]
    rw [cnt_append]
    have a1 : cnt l (fun a => decide (a ≤ x)) (ys.drop k) = 0 := by
      refine cnt_none fun e he => ?_
      obtain ⟨i, hi, rfl⟩ := List.mem_iff_getElem.1 he
      rw [List.getElem_drop]
      rw [List.length_drop] at hi
      have := h2 (k + i) (by omega) (by omega)
      exact decide_eq_false (by omega)
    have a2 : cnt l (fun a => decide (a ≤ x)) (ys.take k) = cnt l (fun _ => true) (ys.take k) := by
      refine cnt_congr fun e he => ?_
      obtain ⟨i, hi, rfl⟩ := List.mem_iff_getElem.1 he
      rw [List.getElem_take]
      rw [List.length_take] at hi
      exact decide_eq_true (h1 i (by omega) (by omega))
    rw [a1, a2]; omega
  rw [key 0, key 1, cnt_other (l := 0) (l' := 1) (by decide), cnt_other (l := 1) (l' := 0) (by decide)]
  have e1 := cnt_evs (l := 0) hp x
  have e2 := cnt_evs (l := 1) hq x
  rw [Int.add_zero, Int.zero_add]
  exact ⟨e1.2, e2.2⟩

open Classical in
theorem join_eq (f : Bool → Bool → Bool) (hf : f false false = false) (p2 : Bool → Bool → Option Bool) (hp2 : ∀ a b, p2 a b = some (f a b)) (p q : List api_Span)
    (hp : p.length ≤ 500) (hq : q.length ≤ 500) (vp : ∀ t ∈ p, vld t) (vq : ∀ t ∈ q, vld t) :
    ∃ out, span_join p q p2 = some out ∧ Can out ∧ ∀ x, has out x ↔ f (decide (has p x)) (decide (has q x)) = true := by
  obtain ⟨ys, e1, hperm, hs⟩ := spanEnds_eq p q hp hq vp vq
  have hlen : ys.length ≤ 2000 := by rw [hperm.length_eq, List.length_append, evs_length, evs_length]; omega
  have hle : ∀ i j (hi : i < ys.length) (hj : j < ys.length), i ≤ j → ys[i].at_ ≤ ys[j].at_ := by
    intro i j hi hj hij
    rcases Nat.lt_or_ge i j with h | h
    · exact List.pairwise_iff_getElem.1 hs i j hi hj h
    · obtain rfl : i = j := by omega
      exact Int.le_refl _
  have hmem : ∀ e ∈ ys, (e.list_ = 0 ∨ e.list_ = 1) ∧ (e.by_ = 1 ∨ e.by_ = -1) := by
    intro e he
    rcases List.mem_append.1 (hperm.mem_iff.1 he) with h | h
    · obtain ⟨a, b, _⟩ := mem_evs h; exact ⟨.inl a, b⟩
    · obtain ⟨a, b, _⟩ := mem_evs h; exact ⟨.inr a, b⟩
  have := loop_rng (f := span_join_L1 ([p, q], ys) p2) (σ := List Int × Int × Bool × List api_Span) (fun k c => ((k : Int), c)) ys.length (Sweep f p q ys) (fun out => Can out ∧ ∀ x, has out x ↔ f (decide (has p x)) (decide (has q x)) = true) ?_ ?_ (k0 := 0) (c0 := ([0, 0], 0, false, [])) (by omega) ?_
  · obtain ⟨out, h1, h2⟩ := this
    refine ⟨out, ?_, h2⟩
    unfold span_join
    have h1 : loop (span_join_L1 ([p, q], ys) p2) (0, [0, 0], 0, false, []) = some out := h1
    rw [e1]
    simp only [Option.bind_some, h1]
    rfl
  · rintro k ⟨opn, last, inn, out⟩ hk ⟨s1, s2, s3, s4, s5, s6, s7, s8⟩
    simp only at s1 s2 s3 s4 s5 s6 s7 s8
    have hb1 : decide ((k : Int) < (ys.length : Int)) = true := decide_eq_true (by omega)
    have hcl := close_eq ys[k].at_ last inn out (by omega)
    have hm := hmem ys[k] (List.getElem_mem hk)
    have htk : ys.take (k + 1) = ys.take k ++ [ys[k]] := List.take_succ_eq_append_getElem hk
    have hby : ∀ e ∈ ys.take k, e.by_ = 1 ∨ e.by_ = -1 := fun e he => (hmem e (List.mem_of_mem_take he)).2
    have b0 := cnt_bound (l := 0) (c := fun _ => true) hby
    have b1 := cnt_bound (l := 1) (c := fun _ => true) hby
    have hlt : (ys.take k).length = k := by rw [List.length_take]; omega
    rw [hlt] at b0 b1
    -- the open spans
    have hopen : ∃ v, idxA 2 opn ys[k].list_ = some v ∧ opn.set ys[k].list_.toNat (w64 (v + ys[k].by_)) = [cnt 0 (fun _ => true) (ys.take (k + 1)), cnt 1 (fun _ => true) (ys.take (k + 1))] := by
      subst s1
      rw [htk, cnt_append, cnt_append]
      rcases hm.1 with h | h
      · refine ⟨cnt 0 (fun _ => true) (ys.take k), by rw [h]; rfl, ?_⟩
        rw [h, w64_id (by omega)]
        simp [cnt, h]
      · refine ⟨cnt 1 (fun _ => true) (ys.take k), by rw [h]; rfl, ?_⟩
        rw [h, w64_id (by omega)]
        simp [cnt, h]
    obtain ⟨v, o1, o2⟩ := hopen
    refine .inl ⟨([cnt 0 (fun _ => true) (ys.take (k + 1)), cnt 1 (fun _ => true) (ys.take (k + 1))], ys[k].at_, f (decide (0 < cnt 0 (fun _ => true) (ys.take (k + 1)))) (decide (0 < cnt 1 (fun _ => true) (ys.take (k + 1)))), if inn = true ∧ last ≠ ys[k].at_ then addS out last ys[k].at_ else out), ?_, ?_⟩
    · have x0 : ∀ a b : Int, idxA 2 [a, b] 0 = some a := fun a b => rfl
      have x1 : ∀ a b : Int, idxA 2 [a, b] 1 = some b := fun a b => rfl
      simp only [span_join_L1, hb1, cond_true, idx_lt hk, Option.bind_some, hcl, o1, o2, x0, x1, hp2, Bool.not_true, cond_false]
      rw [w64_id (by omega)]
      rfl
    · have hall1 : ∀ x, (0 < k → last ≤ x) → ∀ i (h : i < ys.length), i < k → ys[i].at_ ≤ x := by
        intro x hx i hi hik
        have := s3 (by omega) (by omega)
        have := hle i (k - 1) hi (by omega) (by omega)
        have := hx (by omega)
        omega
      have hall2 : ∀ x, x < ys[k].at_ → ∀ i (h : i < ys.length), k ≤ i → x < ys[i].at_ := by
        intro x hx i hi hik
        have := hle k i hk hi hik
        omega
      have hF : ∀ x, (0 < k → last ≤ x) → x < ys[k].at_ → f (decide (has p x)) (decide (has q x)) = inn := by
        intro x hx hx2
        obtain ⟨c1, c2⟩ := cnt_at vp vq hperm hs k x (hall1 x hx) (hall2 x hx2)
        rw [s2, decide_eq_decide.2 c1, decide_eq_decide.2 c2]
      have hlast : 0 < k → last ≤ ys[k].at_ := by
        intro h0
        rw [s3 (by omega) h0]
        exact hle (k - 1) k (by omega) hk (by omega)
      have hin0 : k = 0 → inn = false := by
        intro h0
        subst h0
        rw [s2]; exact hf
      by_cases hc : inn = true ∧ last ≠ ys[k].at_
      · have hk0 : 0 < k := by
          rcases Nat.eq_zero_or_pos k with h | h
          · rw [hin0 h] at hc; cases hc.1
          · exact h
        have hl := hlast hk0
        have hab : last < ys[k].at_ := by have := hc.2; omega
        obtain ⟨d1, d2, d3, d4⟩ := addS_spec s4 s5 hab
        constructor
        · rfl
        · rfl
        · intro h _; rfl
        · simp only [if_pos hc]; exact d1
        · simp only [if_pos hc]; exact d3
        · omega
        · intro x
          simp only [if_pos hc]
          rw [d2, s7]
          constructor
          · rintro (⟨h0, h1, h2⟩ | ⟨h1, h2⟩)
            · exact ⟨by omega, by omega, h2⟩
            · exact ⟨by omega, h2, by rw [hF x (fun _ => h1) h2]; exact hc.1⟩
          · rintro ⟨h0, h1, h2⟩
            by_cases hx : x < last
            · exact .inl ⟨hk0, hx, h2⟩
            · exact .inr ⟨by omega, h1⟩
        · simp only [if_pos hc]
          have := addS_len out last ys[k].at_
          omega
      · constructor
        · rfl
        · rfl
        · intro h _; rfl
        · simp only [if_neg hc]; exact s4
        · simp only [if_neg hc]
          intro t ht
          rcases Nat.eq_zero_or_pos k with h | h
          · rw [s6 h] at ht; cases ht
          · have := s5 t ht; have := hlast h; omega
        · omega
        · intro x
          simp only [if_neg hc]
          rw [s7]
          constructor
          · rintro ⟨h0, h1, h2⟩
            exact ⟨by omega, by have := hlast h0; omega, h2⟩
          · rintro ⟨h0, h1, h2⟩
            by_cases hx : 0 < k ∧ x < last
            · exact ⟨hx.1, hx.2, h2⟩
            · have hx' : 0 < k → last ≤ x := fun h => by
                refine Int.not_lt.1 fun h' => hx ⟨h, h'⟩
              have := hF x hx' h1
              rw [this] at h2
              refine absurd ⟨h2, ?_⟩ hc
              intro e
              rcases Nat.eq_zero_or_pos k with h | h
              · rw [hin0 h] at h2; cases h2
              · have := hx' h; omega
        · simp only [if_neg hc]; omega
  · rintro ⟨opn, last, inn, out⟩ ⟨s1, s2, s3, s4, s5, s6, s7, s8⟩
    simp only at s1 s2 s3 s4 s5 s6 s7 s8
    have hb1 : decide ((ys.length : Int) < (ys.length : Int)) = false := decide_eq_false (by omega)
    refine ⟨out, by simp only [span_join_L1, hb1, cond_false], s4, fun x => ?_⟩
    rw [s7]
    constructor
    · rintro ⟨_, _, h⟩; exact h
    · intro h
      by_cases hx : 0 < ys.length ∧ x < last
      · exact ⟨hx.1, hx.2, h⟩
      · obtain ⟨c1, c2⟩ := cnt_at vp vq hperm hs ys.length x (fun i hi _ => by
            have := s3 (by omega) (by omega)
            have := hle i (ys.length - 1) hi (by omega) (by omega)
            have : last ≤ x := Int.not_lt.1 fun h' => hx ⟨by omega, h'⟩
            omega) (fun i hi hi2 => by omega)
        have tot : ∀ l, cnt l (fun _ => true) (ys.take ys.length) = 0 := by
          intro l
          rw [List.take_length, cnt_perm hperm, cnt_append]
          by_cases h0 : l = 0
          · subst h0; rw [cnt_total, cnt_other (by decide)]; rfl
          · rw [cnt_other h0]
            by_cases h1 : l = 1
            · subst h1; rw [cnt_total]; rfl
            · rw [cnt_other h1]; rfl
        rw [tot] at c1 c2
        have n1 : ¬ has p x := fun h => absurd (c1.2 h) (by decide)
        have n2 : ¬ has q x := fun h => absurd (c2.2 h) (by decide)
        rw [decide_eq_false n1, decide_eq_false n2, hf] at h
        cases h
  · constructor
    · simp [cnt]
    · simp [cnt, hf]
    · intro h h0; omega
    · exact ⟨fun t ht => (by cases ht), .nil⟩
    · intro t ht; cases ht
    · intro _; rfl
    · intro x; simp [has]
    · simp


noncomputable def joinedS (kind : Int) (p q : List api_Span) : List api_Span := (r11_Joined kind p q).getD []
theorem joinedS_eq (kind : Int) (p q : List api_Span) (hp : p.length ≤ 100000) (hq : q.length ≤ 100000) : r11_Joined kind p q = some (joinedS kind p q) ∧ JoinOf kind p q (joinedS kind p q) := by
  obtain ⟨out, h1, h2⟩ := joined_eq kind p q hp hq
  unfold joinedS
  rw [h1]; exact ⟨rfl, h2⟩

noncomputable def opS (kind : Int) (p q : List api_Span) : List api_Span × Int :=
  if checkS p ≠ 0 then ([], checkS p) else if checkS q ≠ 0 then ([], checkS q) else if 400 < (joinedS kind p q).length then ([], 4) else (joinedS kind p q, 0)

theorem opS_len (kind : Int) (p q : List api_Span) : (opS kind p q).1.length ≤ 400 := by
  unfold opS
  split
  · simp
  · split
    · simp
    · split
      · simp
      · simp only; omega

theorem r11_join_eq (kind : Int) (p q : List api_Span) : r11_Join kind p q = some (opS kind p q) := by
  unfold r11_Join opS
  simp only [r11_check_eq, Option.bind_some]
  by_cases h1 : checkS p = 0
  · have e1 : (checkS p != 0) = false := by simpa using h1
    simp only [e1, cond_false]
    simp only [h1, ne_eq, not_true_eq_false, if_false]
    by_cases h2 : checkS q = 0
    · have e2 : (checkS q != 0) = false := by simpa using h2
      obtain ⟨l1, _⟩ := checkS_good h1
      obtain ⟨l2, _⟩ := checkS_good h2
      obtain ⟨j1, j2⟩ := joinedS_eq kind p q (by omega) (by omega)
      simp only [e2, cond_false, h2, not_true_eq_false, if_false, j1, Option.bind_some]
      by_cases h3 : 400 < (joinedS kind p q).length
      · have e3 : decide (((joinedS kind p q).length : Int) > 400) = true := decide_eq_true (by omega)
        rw [e3, if_pos h3]; rfl
      · have e3 : decide (((joinedS kind p q).length : Int) > 400) = false := decide_eq_false (by omega)
        rw [e3, if_neg h3]; rfl
    · have e2 : (checkS q != 0) = true := by simpa using h2
      simp only [e2, cond_true, h2, not_false_eq_true, if_true]
  · have e1 : (checkS p != 0) = true := by simpa using h1
    simp only [e1, cond_true, h1, ne_eq, not_false_eq_true, if_true]

open Classical in
theorem join_kind (kind : Int) (f : Bool → Bool → Bool) (hf0 : f false false = false) (hf : ∀ a b : Prop, (f (decide a) (decide b) = true ↔ holdsP kind a b)) (p2 : Bool → Bool → Option Bool) (hp2 : ∀ a b, p2 a b = some (f a b))
    (p q : List api_Span) (hp : p.length ≤ 500) (hq : q.length ≤ 500) (vp : ∀ t ∈ p, vld t) (vq : ∀ t ∈ q, vld t) : span_join p q p2 = some (joinedS kind p q) := by
  obtain ⟨out, h1, h2, h3⟩ := join_eq f hf0 p2 hp2 p q hp hq vp vq
  obtain ⟨_, j⟩ := joinedS_eq kind p q (by omega) (by omega)
  rw [h1]
  congr 1
  refine can_unique h2 j.can fun x => ?_
  rw [h3, j.pts, hf]

open Classical in
theorem checked_eq (kind : Int) (f : Bool → Bool → Bool) (hf0 : f false false = false) (hf : ∀ a b : Prop, (f (decide a) (decide b) = true ↔ holdsP kind a b)) (p2 : Bool → Bool → Option Bool) (hp2 : ∀ a b, p2 a b = some (f a b))
    (p q : List api_Span) : span_checked p q p2 = some (opS kind p q) := by
  unfold span_checked opS
  simp only [check_eq, Option.bind_some]
  by_cases h1 : checkS p = 0
  · have e1 : (checkS p != 0) = false := by simpa using h1
    simp only [e1, cond_false]
    simp only [h1, ne_eq, not_true_eq_false, if_false]
    by_cases h2 : checkS q = 0
    · have e2 : (checkS q != 0) = false := by simpa using h2
      obtain ⟨l1, g1⟩ := checkS_good h1
      obtain ⟨l2, g2⟩ := checkS_good h2
      simp only [e2, cond_false, h2, not_true_eq_false, if_false, join_kind kind f hf0 hf p2 hp2 p q (by omega) (by omega) g1.1 g2.1, Option.bind_some]
      by_cases h3 : 400 < (joinedS kind p q).length
      · have e3 : decide (((joinedS kind p q).length : Int) > 400) = true := decide_eq_true (by omega)
        rw [e3, if_pos h3]; rfl
      · have e3 : decide (((joinedS kind p q).length : Int) > 400) = false := decide_eq_false (by omega)
        rw [e3, if_neg h3]; rfl
    · have e2 : (checkS q != 0) = true := by simpa using h2
      simp only [e2, cond_true, h2, not_false_eq_true, if_true]
  · have e1 : (checkS p != 0) = true := by simpa using h1
    simp only [e1, cond_true, h1, ne_eq, not_false_eq_true, if_true]

theorem union_eq (p q : List api_Span) : span_Union p q = some (opS 2 p q) := by
  classical
  unfold span_Union
  rw [checked_eq 2 (fun a b => a || b) rfl (by intro a b; by_cases ha : a <;> by_cases hb : b <;> simp [holdsP, ha, hb]) _ (by intro a b; cases a <;> rfl)]
  rfl
theorem meet_eq (p q : List api_Span) : span_Meet p q = some (opS 1 p q) := by
  classical
  unfold span_Meet
  rw [checked_eq 1 (fun a b => a && b) rfl (by intro a b; by_cases ha : a <;> by_cases hb : b <;> simp [holdsP, ha, hb]) _ (by intro a b; cases a <;> rfl)]
  rfl
theorem minus_eq (p q : List api_Span) : span_Minus p q = some (opS 3 p q) := by
  classical
  unfold span_Minus
  rw [checked_eq 3 (fun a b => a && !b) rfl (by intro a b; by_cases ha : a <;> by_cases hb : b <;> simp [holdsP, ha, hb]) _ (by intro a b; cases a <;> rfl)]
  rfl

/-- **THE LAW SpanJoins.** -/
theorem spanJoins (p q : List api_Span) : l11_SpanJoins p q = some true := by
  unfold l11_SpanJoins
  by_cases h : (cond (decide ((p.length : Int) > 450)) (some true) (some (decide ((q.length : Int) > 450)))) = some true
  · rw [h]; rfl
  · have h : (cond (decide ((p.length : Int) > 450)) (some true) (some (decide ((q.length : Int) > 450)))) = some false := by
      revert h
      cases decide ((p.length : Int) > 450) <;> cases decide ((q.length : Int) > 450) <;> intro h <;> first | rfl | exact absurd rfl h
    rw [h]
    have l1 := opS_len 1 p q
    have l2 := opS_len 2 p q
    have l3 := opS_len 3 p q
    simp only [Option.bind_some, cond_false, union_eq, meet_eq, minus_eq, r11_join_eq, same_self _ (by omega : (opS 1 p q).1.length ≤ 1000000), same_self _ (by omega : (opS 2 p q).1.length ≤ 1000000), same_self _ (by omega : (opS 3 p q).1.length ≤ 1000000), cond_true, beq_self_eq_true]

/-! ### ContainsFunc, Has, Make -/
theorem index_eq (s : List api_Span) (p1 : api_Span → Option Bool) (c : api_Span → Bool) (h : ∀ t, p1 t = some (c t)) (hl : s.length ≤ 1000000) :
    ∃ r, slices_IndexFunc_api_Span_api_Span s p1 = some r ∧ decide (r ≥ 0) = s.any c := by
  have := loop_rng (f := slices_IndexFunc_api_Span_api_Span_L1 s p1) (σ := Unit) (fun k _ => (k : Int)) s.length (fun k _ => ∀ i (h : i < s.length), i < k → c s[i] = false)
    (fun m => ∃ r : Int, (match m with | .inl b22 => some (-1) | .inr x1 => some x1) = some r ∧ decide (r ≥ 0) = s.any c) ?_ ?_ (k0 := 0) (c0 := ()) (by omega) (fun i _ hi => by omega)
  · obtain ⟨m, h1, r, h2, h3⟩ := this
    have h1 : loop (slices_IndexFunc_api_Span_api_Span_L1 s p1) 0 = some m := h1
    exact ⟨r, by unfold slices_IndexFunc_api_Span_api_Span; rw [h1]; exact h2, h3⟩
  · rintro k _ hk hi
    have hb : decide ((k : Int) < (s.length : Int)) = true := decide_eq_true (by omega)
    cases hc : c s[k] with
    | true =>
      refine .inr ⟨.inr (k : Int), ?_, (k : Int), rfl, ?_⟩
      · simp only [slices_IndexFunc_api_Span_api_Span_L1, hb, cond_true, idx_lt hk, Option.bind_some, h, hc]
      · have : s.any c = true := List.any_eq_true.2 ⟨s[k], List.getElem_mem hk, hc⟩
        rw [this]; exact decide_eq_true (by omega)
    | false =>
      refine .inl ⟨(), ?_, ?_⟩
      · simp only [slices_IndexFunc_api_Span_api_Span_L1, hb, cond_true, idx_lt hk, Option.bind_some, h, hc, cond_false]
        rw [w64_id (by omega)]; rfl
      · intro i hi1 hi2
        by_cases e : i = k
        · subst e; exact hc
        · exact hi i hi1 (by omega)
  · rintro _ hi
    have hb : decide ((s.length : Int) < (s.length : Int)) = false := decide_eq_false (by omega)
    refine ⟨.inl (), by simp only [slices_IndexFunc_api_Span_api_Span_L1, hb, cond_false], -1, rfl, ?_⟩
    have : s.any c = false := by
      rw [List.any_eq_false]
      intro t ht
      obtain ⟨i, hi1, rfl⟩ := List.mem_iff_getElem.1 ht
      simp [hi i hi1 hi1]
    rw [this]; rfl

theorem contains_eq (s : List api_Span) (p1 : api_Span → Option Bool) (c : api_Span → Bool) (h : ∀ t, p1 t = some (c t)) (hl : s.length ≤ 1000000) : slices_ContainsFunc_api_Span_api_Span s p1 = some (s.any c) := by
  obtain ⟨r, h1, h2⟩ := index_eq s p1 c h hl
  unfold slices_ContainsFunc_api_Span_api_Span
  rw [h1, Option.bind_some, h2]

open Classical in
theorem has_eq (s : List api_Span) (x : Int) (hl : s.length ≤ 1000000) : span_Has s x = some (decide (has s x)) := by
  unfold span_Has
  rw [contains_eq s _ (fun t => decide (t.Lo ≤ x ∧ x < t.Hi)) (fun t => by
    show (cond (decide (t.Lo ≤ x)) (some (decide (x < t.Hi))) (some false)).bind (fun c1 => some c1) = _
    by_cases h1 : t.Lo ≤ x
    · simp [h1]
    · simp [h1]) hl, Option.bind_some]
  congr 1
  by_cases h : has s x
  · rw [decide_eq_true h, List.any_eq_true]
    obtain ⟨t, ht, h⟩ := h
    exact ⟨t, ht, decide_eq_true h⟩
  · rw [decide_eq_false h, List.any_eq_false]
    intro t ht h1
    exact h ⟨t, ht, of_decide_eq_true h1⟩

open Classical in
noncomputable def makeS (s : List api_Span) : List api_Span × Int := if 400 < s.length then ([], 4) else if ∀ t ∈ s, vld t then (joinedS 2 s [], 0) else ([], 8)

theorem make_join (s : List api_Span) (hl : s.length ≤ 400) (hv : ∀ t ∈ s, vld t) (p2 : Bool → Bool → Option Bool) (hp2 : ∀ a b, p2 a b = some a) : span_join s [] p2 = some (joinedS 2 s []) := by
  classical
  obtain ⟨out, h1, h2, h3⟩ := join_eq (fun a _ => a) rfl p2 hp2 s [] (by omega) (by simp) hv (fun t ht => by cases ht)
  obtain ⟨_, j⟩ := joinedS_eq 2 s [] (by omega) (by simp)
  rw [h1]
  congr 1
  refine can_unique h2 j.can fun x => ?_
  rw [h3, j.pts]
  simp [holdsP, has_nil]

theorem make_eq (s : List api_Span) : span_Make s = some (makeS s) := by
  classical
  unfold span_Make makeS
  by_cases hl : 400 < s.length
  · have e : decide ((s.length : Int) > 400) = true := decide_eq_true (by omega)
    rw [e, if_pos hl]; rfl
  · have e : decide ((s.length : Int) > 400) = false := decide_eq_false (by omega)
    rw [e, if_neg hl, cond_false, contains_eq s _ (fun t => !decide (vld t)) (fun t => by show (span_valid t).bind _ = _; rw [valid_eq]; rfl) (by omega), Option.bind_some]
    by_cases hv : ∀ t ∈ s, vld t
    · have : (s.any fun t => !decide (vld t)) = false := by
        rw [List.any_eq_false]; intro t ht; simp [hv t ht]
      rw [this, cond_false, if_pos hv, make_join s (by omega) hv (fun x0 x1 => span_Make_2 x0 x1) (fun a b => rfl)]
      rfl
    · have : (s.any fun t => !decide (vld t)) = true := by
        rw [List.any_eq_true]
        obtain ⟨t, hv⟩ := Classical.not_forall.1 hv
        obtain ⟨ht, h⟩ := Classical.not_imp.1 hv
        exact ⟨t, ht, by simp [h]⟩
      rw [this, cond_true, if_neg hv]

theorem r11_make_eq (s : List api_Span) : r11_Make s = some (makeS s) := by
  classical
  unfold r11_Make makeS
  by_cases hl : 400 < s.length
  · have e : decide ((s.length : Int) > 400) = true := decide_eq_true (by omega)
    rw [e, if_pos hl]; rfl
  · have e : decide ((s.length : Int) > 400) = false := decide_eq_false (by omega)
    rw [e, if_neg hl, cond_false]
    have := loop_rng (f := r11_Make_L1 s) (σ := Unit) (fun k _ => (k : Int)) s.length (fun k _ => ∀ i (h : i < s.length), i < k → vld s[i])
      (fun m => (match m with | .inl b22 => (r11_Joined 2 s []).bind fun r31 => some (r31, 0) | .inr x1 => some x1) = some (if ∀ t ∈ s, vld t then (joinedS 2 s [], (0 : Int)) else ([], 8))) ?_ ?_ (k0 := 0) (c0 := ()) (by omega) (fun i _ hi => by omega)
    · obtain ⟨m, h1, h2⟩ := this
      have h1 : loop (r11_Make_L1 s) 0 = some m := h1
      rw [h1]; exact h2
    · rintro k _ hk hi
      have hb : decide ((k : Int) < (s.length : Int)) = true := decide_eq_true (by omega)
      by_cases hv : vld s[k]
      · refine .inl ⟨(), ?_, ?_⟩
        · simp only [r11_Make_L1, hb, cond_true, idx_lt hk, Option.bind_some, r11_Valid_eq, hv, decide_true, Bool.not_true, cond_false]
          rw [w64_id (by omega)]; rfl
        · intro i hi1 hi2
          by_cases e : i = k
          · subst e; exact hv
          · exact hi i hi1 (by omega)
      · refine .inr ⟨.inr ([], 8), ?_, ?_⟩
        · simp only [r11_Make_L1, hb, cond_true, idx_lt hk, Option.bind_some, r11_Valid_eq, hv, decide_false, Bool.not_false]
        · rw [if_neg (fun h => hv (h _ (List.getElem_mem hk)))]
    · rintro _ hi
      have hb : decide ((s.length : Int) < (s.length : Int)) = false := decide_eq_false (by omega)
      refine ⟨.inl (), by simp only [r11_Make_L1, hb, cond_false], ?_⟩
      obtain ⟨j1, _⟩ := joinedS_eq 2 s [] (by omega) (by simp)
      have : ∀ t ∈ s, vld t := by
        intro t ht
        obtain ⟨i, hi1, rfl⟩ := List.mem_iff_getElem.1 ht
        exact hi i hi1 hi1
      rw [if_pos this]
      simp only [j1, Option.bind_some]

/-! ### Length -/
def lenL : List api_Span → Int
  | [] => 0
  | t :: s => (t.Hi - t.Lo) + lenL s
theorem lenL_append (a b : List api_Span) : lenL (a ++ b) = lenL a + lenL b := by
  induction a with
  | nil => simp [lenL]
  | cons t a ih => simp only [List.cons_append, lenL, ih]; omega
theorem lenL_bound : ∀ {s : List api_Span}, (∀ t ∈ s, vld t) → 0 ≤ lenL s ∧ lenL s ≤ 2000000 * (s.length : Int)
  | [], _ => by simp [lenL]
  | t :: s, h => by
    obtain ⟨h1, h2⟩ := lenL_bound (fun t ht => h t (List.mem_cons_of_mem _ ht))
    obtain ⟨v1, v2, v3⟩ := h t (by simp)
    simp only [lenL, List.length_cons]
    omega
noncomputable def lengthS (s : List api_Span) : Int × Int := if checkS s = 0 then (lenL s, 0) else (0, checkS s)

theorem len_loop (s : List api_Span) (hl : s.length ≤ 400) (hv : ∀ t ∈ s, vld t) : loop (span_Length_L1 s) (0, 0) = some (lenL s) ∧ loop (r11_Length_L1 s) (0, 0) = some (lenL s) := by
  have hb0 : ∀ k, 0 ≤ lenL (s.take k) ∧ lenL (s.take k) ≤ 800000000 := by
    intro k
    have := lenL_bound (s := s.take k) (fun t ht => hv t (List.mem_of_mem_take ht))
    have : (s.take k).length ≤ 400 := by rw [List.length_take]; omega
    omega
  constructor
  · have := loop_rng (f := span_Length_L1 s) (σ := Int) (fun k c => (c, (k : Int))) s.length (fun k c => c = lenL (s.take k)) (fun r => r = lenL s) ?_ ?_ (k0 := 0) (c0 := 0) (by omega) (by simp [lenL])
    · obtain ⟨b, h1, rfl⟩ := this; exact h1
    · rintro k c hk rfl
      have hb : decide ((k : Int) < (s.length : Int)) = true := decide_eq_true (by omega)
      obtain ⟨v1, v2, v3⟩ := hv _ (List.getElem_mem hk)
      have := hb0 k
      refine .inl ⟨lenL (s.take (k + 1)), ?_, rfl⟩
      simp only [span_Length_L1, hb, cond_true, idx_lt hk, Option.bind_some]
      rw [w64_id (x := s[k].Hi - s[k].Lo) (by omega), w64_id (x := lenL (s.take k) + _) (by omega), w64_id (by omega), List.take_succ_eq_append_getElem hk, lenL_append]
      simp only [lenL, Int.add_zero]; rfl
    · rintro c rfl
      have hb : decide ((s.length : Int) < (s.length : Int)) = false := decide_eq_false (by omega)
      exact ⟨_, by simp only [span_Length_L1, hb, cond_false]; rfl, by rw [List.take_length]⟩
  · have := loop_rng (f := r11_Length_L1 s) (σ := Int) (fun k c => (c, (k : Int))) s.length (fun k c => c = lenL (s.take k)) (fun r => r = lenL s) ?_ ?_ (k0 := 0) (c0 := 0) (by omega) (by simp [lenL])
    · obtain ⟨b, h1, rfl⟩ := this; exact h1
    · rintro k c hk rfl
      have hb : decide ((k : Int) < (s.length : Int)) = true := decide_eq_true (by omega)
      obtain ⟨v1, v2, v3⟩ := hv _ (List.getElem_mem hk)
      have := hb0 k
      refine .inl ⟨lenL (s.take (k + 1)), ?_, rfl⟩
      simp only [r11_Length_L1, hb, cond_true, idx_lt hk, Option.bind_some]
      rw [w64_id (x := lenL (s.take k) + s[k].Hi) (by omega), w64_id (x := lenL (s.take k) + s[k].Hi - _) (by omega), w64_id (by omega), List.take_succ_eq_append_getElem hk, lenL_append]
      have : lenL (s.take k) + s[k].Hi - s[k].Lo = lenL (s.take k) + lenL [s[k]] := by simp only [lenL]; omega
      rw [this]; rfl
    · rintro c rfl
      have hb : decide ((s.length : Int) < (s.length : Int)) = false := decide_eq_false (by omega)
      exact ⟨_, by simp only [r11_Length_L1, hb, cond_false]; rfl, by rw [List.take_length]⟩

theorem length_eq (s : List api_Span) : span_Length s = some (lengthS s) ∧ r11_Length s = some (lengthS s) := by
  unfold span_Length r11_Length lengthS
  simp only [check_eq, r11_check_eq, Option.bind_some]
  by_cases h : checkS s = 0
  · obtain ⟨hl, hg⟩ := checkS_good h
    obtain ⟨a, b⟩ := len_loop s hl hg.1
    have e : (checkS s != 0) = false := by simpa using h
    simp only [e, cond_false, a, b, Option.bind_some]
    simp only [h, if_true]
    exact ⟨trivial, trivial⟩
  · have e : (checkS s != 0) = true := by simpa using h
    simp only [e, cond_true, if_neg h]
    exact ⟨trivial, trivial⟩

theorem makeS_len (s : List api_Span) : (makeS s).1.length ≤ 1000 := by
  classical
  unfold makeS
  split
  · simp
  · split
    · obtain ⟨_, j⟩ := joinedS_eq 2 s [] (by omega) (by simp)
      have := j.len
      simp only [List.length_nil] at this
      simp only; omega
    · simp

/-- **THE LAW SpanMakes.** -/
theorem spanMakes (s : List api_Span) (x : Int) : l11_SpanMakes s x = some true := by
  classical
  unfold l11_SpanMakes
  by_cases hl : (s.length : Int) > 450
  · simp [hl]
  · have hc : l11_copied s = some s := by
      unfold l11_copied
      rw [app_of (by simp only [List.length_nil]; omega)]; rfl
    obtain ⟨a, b⟩ := length_eq s
    have := makeS_len s
    simp only [hl, decide_false, cond_false, hc, Option.bind_some, make_eq, r11_make_eq, a, b, check_eq, r11_check_eq, same_self _ (by omega : (makeS s).1.length ≤ 1000000), beq_self_eq_true, cond_true, has_eq s x (by omega), r11_Has_eq s x (by omega), same_self s (by omega)]


theorem checkS_of {s : List api_Span} (h : s.length ≤ 400) (hg : Good s) : checkS s = 0 := by
  unfold checkS
  rw [if_neg (by omega), if_pos hg]
theorem joined_good {kind : Int} {p q : List api_Span} (hp : Good p) (hq : Good q) (h1 : p.length ≤ 400) (h2 : q.length ≤ 400) : Good (joinedS kind p q) := by
  obtain ⟨_, j⟩ := joinedS_eq kind p q (by omega) (by omega)
  refine ⟨fun t ht => ?_, j.can.2⟩
  obtain ⟨e1, e2⟩ := j.ends t ht
  have lo := j.can.1 t ht
  have key : ∀ x, (x ∈ ends p ∨ x ∈ ends q) → -1000000 ≤ x ∧ x ≤ 1000000 := by
    rintro x (h | h)
    · obtain ⟨u, hu, h⟩ := mem_ends.1 h
      obtain ⟨v1, v2, v3⟩ := hp.1 u hu
      omega
    · obtain ⟨u, hu, h⟩ := mem_ends.1 h
      obtain ⟨v1, v2, v3⟩ := hq.1 u hu
      omega
  have := key _ e1
  have := key _ e2
  exact ⟨lo, by omega, by omega⟩
/-- What an operation on two good sets answers. -/
theorem opS_good (kind : Int) {p q : List api_Span} (hp : Good p) (hq : Good q) (h1 : p.length ≤ 400) (h2 : q.length ≤ 400) :
    opS kind p q = ([], 4) ∨ (opS kind p q = (joinedS kind p q, 0) ∧ checkS (joinedS kind p q) = 0) := by
  unfold opS
  rw [if_neg (by simp [checkS_of h1 hp]), if_neg (by simp [checkS_of h2 hq])]
  split
  · exact .inl rfl
  · exact .inr ⟨rfl, checkS_of (by omega) (joined_good hp hq h1 h2)⟩
theorem joined_is {kind : Int} {p q out : List api_Span} (h1 : p.length ≤ 400) (h2 : q.length ≤ 400) (hc : Can out) (h : ∀ x, has out x ↔ holdsP kind (has p x) (has q x)) : joinedS kind p q = out := by
  obtain ⟨_, j⟩ := joinedS_eq kind p q (by omega) (by omega)
  exact can_unique j.can hc fun x => by rw [j.pts, h]

theorem near_good (s : List api_Span) (x : Int) (hl : s.length ≤ 400) (hg : Good s) (hx : -1000000 ≤ x ∧ x ≤ 1000000) (hne : s ≠ []) : ∃ m, span_Near s x = some (m, 0) ∧ Least s x m := by
  obtain ⟨m, h1, h2⟩ := near_loop s x hl hg hx
  rcases h2 with ⟨h, _⟩ | ⟨_, hm⟩
  · exact absurd h hne
  · refine ⟨m, ?_, hm⟩
    have hm0 : 0 ≤ m := by obtain ⟨⟨t, _, e⟩, _⟩ := hm; have := dst_nn x t; omega
    unfold span_Near
    have e1 : decide (x < -1000000) = false := decide_eq_false (by omega)
    have e2 : decide (x > 1000000) = false := decide_eq_false (by omega)
    have e4 : decide (m < 0) = false := decide_eq_false (by omega)
    have e0 : ((0 : Int) != 0) = false := rfl
    simp only [check_eq, checkS_of hl hg, Option.bind_some, e0, cond_false, e1, e2, h1, e4]

def pairL : List api_Span := [{ Lo := 0, Hi := 2 }, { Lo := 4, Hi := 7 }]
theorem pair_good : Good pairL := by
  refine ⟨fun t ht => ?_, by simp [pairL]⟩
  simp only [pairL, List.mem_cons, List.not_mem_nil, or_false] at ht
  rcases ht with rfl | rfl <;> exact ⟨by decide, by decide, by decide⟩

theorem alive_eq : l11_alive = some true := by
  classical
  have hp : l11_pair = some pairL := rfl
  have hcp : checkS pairL = 0 := checkS_of (by decide) pair_good
  have m1 : makeS [({ Lo := 0, Hi := 3 } : api_Span), ({ Lo := 5, Hi := 6 } : api_Span), ({ Lo := 2, Hi := 5 } : api_Span)] = ([{ Lo := 0, Hi := 6 }], 0) := by
    unfold makeS
    rw [if_neg (by decide), if_pos]
    · rw [joined_is (by decide) (by decide) (out := [{ Lo := 0, Hi := 6 }]) ⟨by simp, by simp⟩ (fun x => ?_)]
      simp [holdsP, has_cons, has_nil]
      omega
    · intro t ht
      simp only [List.mem_cons, List.not_mem_nil, or_false] at ht
      rcases ht with rfl | rfl | rfl <;> exact ⟨by decide, by decide, by decide⟩
  have g1 : Good [({ Lo := 1, Hi := 5 } : api_Span)] := by
    refine ⟨fun t ht => ?_, by simp⟩
    simp only [List.mem_cons, List.not_mem_nil, or_false] at ht
    subst ht; exact ⟨by decide, by decide, by decide⟩
  have m2 : opS 3 pairL [({ Lo := 1, Hi := 5 } : api_Span)] = ([{ Lo := 0, Hi := 1 }, { Lo := 5, Hi := 7 }], 0) := by
    unfold opS
    have e : joinedS 3 pairL [({ Lo := 1, Hi := 5 } : api_Span)] = [{ Lo := 0, Hi := 1 }, { Lo := 5, Hi := 7 }] := by
      refine joined_is (by decide) (by decide) ⟨by simp, by simp⟩ (fun x => ?_)
      simp [holdsP, pairL, has_cons, has_nil]
      omega
    rw [e, if_neg (by simp [hcp]), if_neg (by simp [checkS_of (s := [({ Lo := 1, Hi := 5 } : api_Span)]) (by decide) g1]), if_neg (by decide)]
  obtain ⟨m, n1, n2⟩ := near_good pairL 3 (by decide) pair_good (by decide) (by simp [pairL])
  have hm : m = 1 := by
    refine n2.unique ⟨⟨{ Lo := 4, Hi := 7 }, by simp [pairL], by decide⟩, ?_⟩
    intro t ht
    simp only [pairL, List.mem_cons, List.not_mem_nil, or_false] at ht
    rcases ht with rfl | rfl <;> decide
  subst hm
  have hlen : lengthS pairL = (5, 0) := by unfold lengthS; rw [if_pos hcp]; rfl
  have hgap : gapsL pairL = [{ Lo := 2, Hi := 4 }] := rfl
  have h6 : has pairL 6 := ⟨{ Lo := 4, Hi := 7 }, by simp [pairL], by decide, by decide⟩
  have h7 : ¬ has pairL 7 := by
    simp only [pairL, has_cons, has_nil, or_false]; omega
  have e1 : span_Has pairL 6 = some true := by rw [has_eq _ _ (by decide), decide_eq_true h6]
  have e2 : span_Has pairL 7 = some false := by rw [has_eq _ _ (by decide), decide_eq_false h7]
  unfold l11_alive
  simp only [hp, make_eq, m1, Option.bind_some, (length_eq pairL).1, hlen, gaps_eq, hcp, if_true, hgap, minus_eq, m2, n1, e1, e2]
  have s1 := same_self [({ Lo := 0, Hi := 6 } : api_Span)] (by decide)
  have s2 := same_self [({ Lo := 2, Hi := 4 } : api_Span)] (by decide)
  have s3 := same_self [({ Lo := 0, Hi := 1 } : api_Span), ({ Lo := 5, Hi := 7 } : api_Span)] (by decide)
  simp only [s1, s2, s3, beq_self_eq_true, cond_true, Option.bind_some, Bool.not_false]

theorem fit_eq (p q : List api_Span) : ∃ b, l11_fit p q = some b ∧ (b = true ↔ checkS p = 0 ∧ checkS q = 0) := by
  unfold l11_fit
  simp only [r11_check_eq, Option.bind_some]
  by_cases h1 : checkS p = 0
  · by_cases h2 : checkS q = 0
    · exact ⟨true, by simp [h1, h2], by simp [h1, h2]⟩
    · exact ⟨false, by simp [h1, h2], by simp [h1, h2]⟩
  · have e : (checkS p == 0) = false := beq_eq_false_iff_ne.2 h1
    exact ⟨false, by rw [e]; rfl, by simp [h1]⟩

/-- **THE LAW SpanPoints.** -/
theorem spanPoints (p q : List api_Span) (x : Int) : l11_SpanPoints p q x = some true := by
  classical
  unfold l11_SpanPoints
  obtain ⟨b, f1, f2⟩ := fit_eq p q
  rw [alive_eq, Option.bind_some, f1, Option.bind_some]
  cases b with
  | false => rfl
  | true =>
    obtain ⟨c1, c2⟩ := f2.1 rfl
    obtain ⟨l1, g1⟩ := checkS_good c1
    obtain ⟨l2, g2⟩ := checkS_good c2
    simp only [Bool.not_true, cond_false, Option.bind_some, union_eq, meet_eq, minus_eq, has_eq p x (by omega), has_eq q x (by omega)]
    have pt : ∀ k : Int, opS k p q = ([], 4) ∨ (opS k p q = (joinedS k p q, 0) ∧ checkS (joinedS k p q) = 0 ∧ span_Has (joinedS k p q) x = some (decide (holdsP k (has p x) (has q x)))) := by
      intro k
      rcases opS_good k g1 g2 l1 l2 with h | ⟨h, h'⟩
      · exact .inl h
      · refine .inr ⟨h, h', ?_⟩
        obtain ⟨_, j⟩ := joinedS_eq k p q (by omega) (by omega)
        rw [has_eq _ _ (by have := j.len; omega)]
        congr 1
        exact decide_eq_decide.2 (j.pts x)
    have u : ∀ (a b : Bool), (cond a (some true) (some b)) = some (a || b) := by decide
    have m : ∀ (a b : Bool), (cond a (some b) (some false)) = some (a && b) := by decide
    have d : ∀ (a b : Bool), (cond a (some (!b)) (some false)) = some (a && !b) := by decide
    have t1 : decide (holdsP 2 (has p x) (has q x)) = (decide (has p x) || decide (has q x)) := by
      by_cases ha : has p x <;> by_cases hb : has q x <;> simp [holdsP, ha, hb]
    have t2 : decide (holdsP 1 (has p x) (has q x)) = (decide (has p x) && decide (has q x)) := by
      by_cases ha : has p x <;> by_cases hb : has q x <;> simp [holdsP, ha, hb]
    have t3 : decide (holdsP 3 (has p x) (has q x)) = (decide (has p x) && !decide (has q x)) := by
      by_cases ha : has p x <;> by_cases hb : has q x <;> simp [holdsP, ha, hb]
    have k4 : ((4 : Int) == 0) = false := rfl
    have k0 : ((0 : Int) != 0) = false := rfl
    rcases pt 2 with h2 | ⟨h2, v2, w2⟩ <;> rcases pt 1 with h1 | ⟨h1, v1, w1⟩ <;> rcases pt 3 with h3 | ⟨h3, v3, w3⟩ <;>
      simp only [h1, h2, h3, r11_check_eq, *, beq_self_eq_true, cond_true, cond_false, Option.bind_some, Bool.not_true] <;> (try rfl)

/-- **THE LAW SpanNear.** -/
theorem spanNear (s : List api_Span) (x : Int) (hx : I64 x) : l11_SpanNear s x = some true := by
  classical
  unfold l11_SpanNear
  rw [alive_eq, Option.bind_some, r11_check_eq, Option.bind_some]
  by_cases hc : checkS s = 0
  · obtain ⟨hl, hg⟩ := checkS_good hc
    cases hs : s with
    | nil =>
      subst hs
      simp [hc]
    | cons a r =>
      have hne : s ≠ [] := by rw [hs]; simp
      have hlen : 0 < s.length := List.length_pos_iff.2 hne
      rw [← hs]
      have e0 : (checkS s != 0) = false := by simpa using hc
      have e1 : ((s.length : Int) == 0) = false := beq_eq_false_iff_ne.2 (by omega)
      have i0 : idx s 0 = some s[0] := idx_of (k := 0) rfl hlen
      have i1 : idx s (w64 ((s.length : Int) - 1)) = some s[s.length - 1] := by rw [w64_id (by omega)]; exact idx_of (by omega) (by omega)
      simp only [e0, cond_false, Option.bind_some, e1, i0, i1, Bool.not_true]
      by_cases k1 : s[0].Lo < -1000
      · simp [k1]
      · by_cases k2 : s[s.length - 1].Hi > 1000
        · simp [k2]
        · by_cases k3 : x < -1000
          · simp only [decide_eq_false k1, decide_eq_false k2, decide_eq_true k3, cond_false, cond_true, Option.bind_some]
          · by_cases k4 : x > 1000
            · simp only [decide_eq_false k1, decide_eq_false k2, decide_eq_false k3, decide_eq_true k4, cond_false, cond_true, Option.bind_some]
            · obtain ⟨m, n1, n2⟩ := near_good s x hl hg (by omega) hne
              have hin : ∀ t ∈ s, -1000 ≤ t.Lo ∧ t.Lo < t.Hi ∧ t.Hi ≤ 1000 := by
                intro t ht
                obtain ⟨i, hi, rfl⟩ := List.mem_iff_getElem.1 ht
                have v := hg.get i hi
                have lo : s[0].Lo ≤ s[i].Lo := by
                  rcases Nat.eq_zero_or_pos i with h | h
                  · subst h; exact Int.le_refl _
                  · have := hg.nxt 0 i hlen hi h
                    have := (hg.get 0 hlen).1
                    omega
                have hi' : s[i].Hi ≤ s[s.length - 1].Hi := by
                  rcases Nat.lt_or_ge i (s.length - 1) with h | h
                  · have := hg.nxt i (s.length - 1) hi (by omega) h
                    have := (hg.get (s.length - 1) (by omega)).1
                    omega
                  · obtain rfl : i = s.length - 1 := by omega
                    exact Int.le_refl _
                exact ⟨by omega, v.1, by omega⟩
              obtain ⟨⟨t, ht, em⟩, hmin⟩ := n2
              have b := hin t ht
              have hm0 : 0 ≤ m := by rw [em]; exact dst_nn x t
              have hm2 : m ≤ 2000 := by rw [em]; unfold dst; omega
              have q1 : decide (s[0].Lo < -1000) = false := decide_eq_false k1
              have q2 : decide (s[s.length - 1].Hi > 1000) = false := decide_eq_false k2
              have q3 : decide (x < -1000) = false := decide_eq_false k3
              have q4 : decide (x > 1000) = false := decide_eq_false k4
              have q5 : decide (m < 0) = false := decide_eq_false (by omega)
              have q6 : decide (m > 2000) = false := decide_eq_false (by omega)
              have z0 : ((0 : Int) != 0) = false := rfl
              simp only [q1, q2, q3, q4, cond_false, Option.bind_some, n1, z0, q5, q6]
              have hA : has s (x - m) ∨ has s (x + m) := by
                rw [em]
                by_cases h : dst x t = x - t.Hi + 1
                · left; exact ⟨t, ht, by unfold dst at h ⊢; omega, by unfold dst at h ⊢; omega⟩
                · right; exact ⟨t, ht, by unfold dst at h ⊢; omega, by unfold dst at h ⊢; omega⟩
              have hB : ∀ k : Int, 0 ≤ k → k < m → ¬ has s (x - k) ∧ ¬ has s (x + k) := by
                intro k hk hkm
                constructor
                · rintro ⟨u, hu, a1, a2⟩; have := hmin u hu; unfold dst at this; omega
                · rintro ⟨u, hu, a1, a2⟩; have := hmin u hu; unfold dst at this; omega
              rw [w64_id (x := x - m) (by omega), w64_id (x := x + m) (by omega), has_eq s _ (by omega), has_eq s _ (by omega)]
              have hcond : ((cond (!decide (has s (x - m))) (Option.bind (some (decide (has s (x + m)))) fun r110 => some (!r110)) (some false)).bind fun c101 => some c101) = some false := by
                rcases hA with h | h
                · simp [h]
                · by_cases h' : has s (x - m) <;> simp [h, h']
              simp only [Option.bind_some] at hcond ⊢
              rw [hcond]
              simp only [Option.bind_some, cond_false]
              have hloop : loop (l11_SpanNear_L1 (m, 0) s x) 0 = some (.inl ()) := by
                have := loop_rng (f := l11_SpanNear_L1 (m, 0) s x) (σ := Unit) (fun k _ => (k : Int)) m.toNat (fun _ _ => True) (fun r => r = (.inl () : Unit ⊕ Bool)) ?_ ?_ (k0 := 0) (c0 := ()) (by omega) trivial
                · obtain ⟨r, h1, rfl⟩ := this; exact h1
                · rintro k _ hk _
                  refine .inl ⟨(), ?_, trivial⟩
                  obtain ⟨b1, b2⟩ := hB (k : Int) (by omega) (by omega)
                  have h0 : decide ((k : Int) < m) = true := decide_eq_true (by omega)
                  simp only [l11_SpanNear_L1, h0, cond_true]
                  rw [w64_id (x := x - _) (by omega), w64_id (x := x + _) (by omega), has_eq s _ (by omega), has_eq s _ (by omega), decide_eq_false b1, decide_eq_false b2, w64_id (by omega)]
                  rfl
                · rintro _ _
                  have h0 : decide (((m.toNat : Nat) : Int) < m) = false := decide_eq_false (by omega)
                  exact ⟨_, by simp only [l11_SpanNear_L1, h0, cond_false], rfl⟩
              rw [hloop]
              rfl
  · have e0 : (checkS s != 0) = true := by simpa using hc
    simp only [e0, cond_true, Option.bind_some]


open Classical in
/-- How many of the n numbers from lo on have it. -/
noncomputable def pts (Q : Int → Prop) (lo : Int) : Nat → Int
  | 0 => 0
  | n + 1 => pts Q lo n + (if Q (lo + n) then 1 else 0)
theorem pts_congr {Q R : Int → Prop} (h : ∀ x, Q x ↔ R x) (lo : Int) (n : Nat) : pts Q lo n = pts R lo n := by
  have : Q = R := funext fun x => propext (h x)
  rw [this]
open Classical in
theorem pts_add {U M Q R : Int → Prop} (hu : ∀ x, U x ↔ Q x ∨ R x) (hm : ∀ x, M x ↔ Q x ∧ R x) (lo : Int) : ∀ n, pts U lo n + pts M lo n = pts Q lo n + pts R lo n
  | 0 => rfl
  | n + 1 => by
    have ih := pts_add hu hm lo n
    have e : (if U (lo + n) then (1 : Int) else 0) + (if M (lo + n) then 1 else 0) = (if Q (lo + n) then 1 else 0) + (if R (lo + n) then 1 else 0) := by
      have h1 := hu (lo + n)
      have h2 := hm (lo + n)
      by_cases a : Q (lo + n) <;> by_cases b : R (lo + n) <;> simp [h1, h2, a, b]
    show pts U lo n + _ + (pts M lo n + _) = pts Q lo n + _ + (pts R lo n + _)
    omega
theorem pts_none {Q : Int → Prop} (h : ∀ x, ¬ Q x) (lo : Int) : ∀ n, pts Q lo n = 0
  | 0 => rfl
  | n + 1 => by simp [pts, pts_none h lo n, h]
theorem pts_one {a b lo : Int} (h1 : lo ≤ a) (h2 : a < b) : ∀ n : Nat, pts (fun x => a ≤ x ∧ x < b) lo n = max 0 (min (lo + n) b - a)
  | 0 => by simp only [pts]; omega
  | n + 1 => by
    have ih := pts_one h1 h2 n
    simp only [pts, ih]
    split <;> omega
theorem pts_len {lo : Int} {n : Nat} : ∀ {s : List api_Span}, Can s → (∀ t ∈ s, lo ≤ t.Lo ∧ t.Hi ≤ lo + n) → pts (has s) lo n = lenL s
  | [], _, _ => pts_none (fun x => has_nil x) lo n
  | t :: s, hc, hb => by
    have ih := pts_len hc.tail (fun u hu => hb u (List.mem_cons_of_mem _ hu))
    have ht := hb t (by simp)
    have hlt := hc.1 t (by simp)
    have e := pts_add (U := has (t :: s)) (M := fun _ => False) (Q := fun x => t.Lo ≤ x ∧ x < t.Hi) (R := has s) (fun x => has_cons) (fun x => by
      constructor
      · intro h; exact h.elim
      · rintro ⟨h1, h2⟩; have := hc.tail_gt h2; omega) lo n
    rw [pts_none (fun _ h => h) lo n, pts_one ht.1 hlt, ih] at e
    simp only [lenL]
    omega
theorem good_pts {s : List api_Span} (h : Good s) : pts (has s) (-1000000) 2000000 = lenL s :=
  pts_len h.can fun t ht => by obtain ⟨a, b, c⟩ := h.1 t ht; omega
theorem len_add {u m p q : List api_Span} (gu : Good u) (gm : Good m) (gp : Good p) (gq : Good q) (hu : ∀ x, has u x ↔ has p x ∨ has q x) (hm : ∀ x, has m x ↔ has p x ∧ has q x) : lenL u + lenL m = lenL p + lenL q := by
  rw [← good_pts gu, ← good_pts gm, ← good_pts gp, ← good_pts gq]
  exact pts_add hu hm _ _

theorem holds1 {a b : Prop} : holdsP 1 a b ↔ a ∧ b := by simp [holdsP]
theorem holds2 {a b : Prop} : holdsP 2 a b ↔ a ∨ b := by simp [holdsP]
theorem holds3 {a b : Prop} : holdsP 3 a b ↔ a ∧ ¬ b := by simp [holdsP]

/-- **THE LAW SpanLengths.** -/
theorem spanLengths (p q : List api_Span) : l11_SpanLengths p q = some true := by
  classical
  unfold l11_SpanLengths
  obtain ⟨b, f1, f2⟩ := fit_eq p q
  rw [alive_eq, Option.bind_some, f1, Option.bind_some]
  cases b with
  | false => rfl
  | true =>
    obtain ⟨c1, c2⟩ := f2.1 rfl
    obtain ⟨l1, g1⟩ := checkS_good c1
    obtain ⟨l2, g2⟩ := checkS_good c2
    have k4 : ((4 : Int) != 0) = true := rfl
    have k0 : ((0 : Int) != 0) = false := rfl
    simp only [Bool.not_true, cond_false, Option.bind_some, union_eq, meet_eq, minus_eq]
    rcases opS_good 2 g1 g2 l1 l2 with h2 | ⟨h2, v2⟩ <;> rcases opS_good 1 g1 g2 l1 l2 with h1 | ⟨h1, v1⟩ <;> rcases opS_good 3 g1 g2 l1 l2 with h3 | ⟨h3, v3⟩
    · simp only [h2, h1, h3, k4, k0, cond_true, cond_false, Option.bind_some]; rfl
    · simp only [h2, h1, h3, k4, k0, cond_true, cond_false, Option.bind_some]; rfl
    · simp only [h2, h1, h3, k4, k0, cond_true, cond_false, Option.bind_some]; rfl
    · simp only [h2, h1, h3, k4, k0, cond_true, cond_false, Option.bind_some]; rfl
    · simp only [h2, h1, h3, k4, k0, cond_true, cond_false, Option.bind_some]; rfl
    · simp only [h2, h1, h3, k4, k0, cond_true, cond_false, Option.bind_some]; rfl
    · simp only [h2, h1, h3, k4, k0, cond_true, cond_false, Option.bind_some]; rfl
    · obtain ⟨_, j2⟩ := joinedS_eq 2 p q (by omega) (by omega)
      obtain ⟨_, j1⟩ := joinedS_eq 1 p q (by omega) (by omega)
      obtain ⟨_, j3⟩ := joinedS_eq 3 p q (by omega) (by omega)
      obtain ⟨n1, m1⟩ := checkS_good v1
      obtain ⟨n2, m2⟩ := checkS_good v2
      obtain ⟨n3, m3⟩ := checkS_good v3
      have eL := len_add m2 m1 g1 g2 (fun x => by rw [j2.pts, holds2]) (fun x => by rw [j1.pts, holds1])
      have eU : opS 2 (joinedS 1 p q) (joinedS 3 p q) = (p, 0) := by
        have e : joinedS 2 (joinedS 1 p q) (joinedS 3 p q) = p := by
          refine joined_is n1 n3 g1.can fun x => ?_
          rw [holds2, j1.pts, j3.pts, holds1, holds3]
          by_cases a : has p x <;> by_cases b : has q x <;> simp [a, b]
        unfold opS
        rw [if_neg (by simp [v1]), if_neg (by simp [v3]), e, if_neg (by omega)]
      have eM : opS 1 (joinedS 1 p q) (joinedS 3 p q) = ([], 0) := by
        have e : joinedS 1 (joinedS 1 p q) (joinedS 3 p q) = [] := by
          refine joined_is n1 n3 ⟨fun t ht => (by cases ht), .nil⟩ fun x => ?_
          rw [holds1, j1.pts, j3.pts, holds1, holds3]
          by_cases a : has p x <;> by_cases b : has q x <;> simp [a, b, has_nil]
        unfold opS
        rw [if_neg (by simp [v1]), if_neg (by simp [v3]), e, if_neg (by simp)]
      have hw : (w64 (lenL (joinedS 2 p q) + lenL (joinedS 1 p q)) == w64 (lenL p + lenL q)) = true := by rw [eL]; exact beq_self_eq_true _
      have L1 : lengthS (joinedS 2 p q) = (lenL (joinedS 2 p q), 0) := by unfold lengthS; rw [if_pos v2]
      have L2 : lengthS (joinedS 1 p q) = (lenL (joinedS 1 p q), 0) := by unfold lengthS; rw [if_pos v1]
      have L3 : lengthS p = (lenL p, 0) := by unfold lengthS; rw [if_pos c1]
      have L4 : lengthS q = (lenL q, 0) := by unfold lengthS; rw [if_pos c2]
      have z : (([] : List api_Span).length : Int) = 0 := rfl
      simp only [h2, h1, h3, k0, cond_false, Option.bind_some, (length_eq _).1, L1, L2, L3, L4, union_eq, meet_eq, eU, eM, hw, cond_true, beq_self_eq_true, same_self p (by omega), z]

theorem moveS_err (s : List api_Span) (d : Int) (hc : checkS s = 0) : (moveS s d).2 = 0 ∨ (moveS s d).2 = 16 := by
  unfold moveS
  rw [if_neg (by simp [hc])]
  split
  · exact .inl rfl
  · split
    · exact .inr rfl
    · split
      · exact .inl rfl
      · exact .inr rfl

theorem moveS_back (s : List api_Span) (d : Int) (hd : I64 d) (hc : checkS s = 0) (h : (moveS s d).2 = 0) : s = [] ∨ moveS (moveS s d).1 (w64 (0 - d)) = (s, 0) := by
  obtain ⟨hl, hg⟩ := checkS_good hc
  by_cases hs : s = []
  · exact .inl hs
  right
  have e0 : ¬ checkS s ≠ 0 := by simp [hc]
  unfold moveS at h ⊢
  rw [if_neg e0, if_neg hs] at h ⊢
  by_cases h1 : d < -2000000 ∨ 2000000 < d
  · rw [if_pos h1] at h; cases h
  · rw [if_neg h1] at h ⊢
    by_cases h2 : ∀ t ∈ s, vld (mvS d t)
    · rw [if_pos h2]
      simp only
      have gd : Good (s.map (mvS d)) := by
        refine ⟨fun t ht => ?_, ?_⟩
        · obtain ⟨u, hu, rfl⟩ := List.mem_map.1 ht; exact h2 u hu
        · rw [List.pairwise_map]
          refine hg.2.imp fun {a b} h => ?_
          unfold mvS; simp only; omega
      have cd : checkS (s.map (mvS d)) = 0 := checkS_of (by rw [List.length_map]; exact hl) gd
      have w : w64 (0 - d) = -d := by rw [w64_id (by omega)]; omega
      have mb : ∀ t, mvS (-d) (mvS d t) = t := by
        intro t; unfold mvS; cases t; simp only [api_Span.mk.injEq]; omega
      rw [w, if_neg (by simp [cd]), if_neg (by simpa using hs), if_neg (by omega), if_pos]
      · congr 1
        rw [List.map_map]
        have : (mvS (-d) ∘ mvS d) = id := funext fun t => mb t
        rw [this, List.map_id]
      · intro t ht
        obtain ⟨u, hu, rfl⟩ := List.mem_map.1 ht
        rw [mb]; exact hg.1 u hu
    · rw [if_neg h2] at h; cases h

/-- **THE LAW SpanHull.** -/
theorem spanHull (s : List api_Span) (d : Int) (hd : I64 d) : l11_SpanHull s d = some true := by
  classical
  unfold l11_SpanHull
  rw [alive_eq, Option.bind_some, r11_check_eq, Option.bind_some]
  have k0 : ((0 : Int) != 0) = false := rfl
  by_cases hc : checkS s = 0
  · obtain ⟨hl, hg⟩ := checkS_good hc
    have e0 : (checkS s != 0) = false := by simpa using hc
    have hm : makeS s = (s, 0) := by
      unfold makeS
      rw [if_neg (by omega), if_pos hg.1, joined_is hl (by simp) hg.can (fun x => by rw [holds2]; simp [has_nil])]
    have hL : lengthS s = (lenL s, 0) := by unfold lengthS; rw [if_pos hc]
    have hmove : ((span_Move s d).bind fun r204 => cond (r204.2 != 0) ((cond true (some (r204.2 == 16)) (some false)).bind fun c211 => some c211) ((span_Move r204.1 (w64 (0 - d))).bind fun r216 => (cond true ((cond ((s.length : Int) == 0) (some true) ((cond (r216.2 == 0) ((r11_Same r216.1 s).bind fun r291 => some r291) (some false)).bind fun c285 => some c285)).bind fun c273 => some c273) (some false)).bind fun c248 => some c248)) = some true := by
      rw [move_eq, Option.bind_some]
      rcases moveS_err s d hc with h | h
      · rw [h, k0, cond_false, move_eq, Option.bind_some]
        rcases moveS_back s d hd hc h with rfl | hb
        · rfl
        · rw [hb]
          simp only [beq_self_eq_true, cond_true, same_self s (by omega), Option.bind_some]
          cases ((s.length : Int) == 0) <;> rfl
      · rw [h]; rfl
    simp only [e0, cond_false, Option.bind_some, Bool.not_true, make_eq, hm, gaps_eq, hc, if_true, (length_eq s).1, hL, k0, same_self s (by omega)]
    cases s with
    | nil =>
      have z : decide ((([] : List api_Span).length : Int) > 0) = false := rfl
      simp only [z, cond_false, Option.bind_some]
      exact hmove
    | cons a r =>
      have z : decide (((a :: r).length : Int) > 0) = true := decide_eq_true (by simp only [List.length_cons]; omega)
      have i0 : idx (a :: r) 0 = some a := rfl
      have i1 : idx (a :: r) (w64 (((a :: r).length : Int) - 1)) = some ((a :: r).getLast (by simp)) := by
        rw [w64_id (by omega), List.getLast_eq_getElem]
        exact idx_of (by simp) (by simp)
      have hgap := gapsL_has hg.can
      have gg : Good (gapsL (a :: r)) := by
        refine ⟨fun t ht => ?_, (gapsL_can hg.can).2⟩
        obtain ⟨⟨u, hu, e1⟩, ⟨v, hv, e2⟩⟩ := gapsL_mem ht
        obtain ⟨x1, x2, x3⟩ := hg.1 u hu
        obtain ⟨y1, y2, y3⟩ := hg.1 v hv
        exact ⟨(gapsL_can hg.can).1 t ht, by omega, by omega⟩
      have lg := gapsL_len (a :: r)
      have cg : checkS (gapsL (a :: r)) = 0 := checkS_of (by omega) gg
      have hlast : ((a :: r).getLast (by simp)) ∈ (a :: r) := List.getLast_mem _
      generalize hz : (a :: r).getLast (by simp) = zz at i1 hgap hlast
      have va := hg.1 a (by simp)
      have vz := hg.1 zz hlast
      have haz : a.Lo < zz.Hi := by
        rcases List.mem_cons.1 hlast with e | h
        · rw [e]; exact va.1
        · have := hg.can.lt zz h; have := va.1; have := vz.1; omega
      have hin : ∀ x, has (a :: r) x → a.Lo ≤ x ∧ x < zz.Hi := by
        rintro x ⟨t, ht, t1, t2⟩
        constructor
        · rcases List.mem_cons.1 ht with e | h
          · rw [← e]; exact t1
          · have := hg.can.lt t h; have := va.1; omega
        · obtain ⟨i, hi, rfl⟩ := List.mem_iff_getElem.1 ht
          have ez : zz = (a :: r)[(a :: r).length - 1] := by rw [← hz, List.getLast_eq_getElem]
          rcases Nat.lt_or_ge i ((a :: r).length - 1) with h | h
          · have := hg.nxt i ((a :: r).length - 1) hi (by omega) h
            rw [← ez] at this
            have := vz.1; omega
          · have e : i = (a :: r).length - 1 := by omega
            subst e
            rw [← ez] at t2; exact t2
      have gh : Good [({ Lo := a.Lo, Hi := zz.Hi } : api_Span)] := by
        refine ⟨fun t ht => ?_, by simp⟩
        simp only [List.mem_cons, List.not_mem_nil, or_false] at ht
        subst ht; exact ⟨haz, va.2.1, vz.2.2⟩
      have hh : ∀ x, has [({ Lo := a.Lo, Hi := zz.Hi } : api_Span)] x ↔ has (a :: r) x ∨ has (gapsL (a :: r)) x := by
        intro x
        rw [hgap, has_cons]
        simp only [has_nil, or_false]
        constructor
        · intro h
          by_cases hx : has (a :: r) x
          · exact .inl hx
          · exact .inr ⟨h, hx⟩
        · rintro (h | ⟨h, _⟩)
          · exact hin x h
          · exact h
      have eU : opS 2 (a :: r) (gapsL (a :: r)) = ([{ Lo := a.Lo, Hi := zz.Hi }], 0) := by
        have e : joinedS 2 (a :: r) (gapsL (a :: r)) = [{ Lo := a.Lo, Hi := zz.Hi }] := by
          refine joined_is hl (by omega) gh.can fun x => ?_
          rw [hh, holds2]
        unfold opS
        rw [if_neg (by simp [hc]), if_neg (by simp [cg]), e, if_neg (by simp)]
      have gn : Good ([] : List api_Span) := ⟨fun t ht => (by cases ht), .nil⟩
      have eL := len_add gh gn hg gg hh (fun x => by
        rw [hgap]
        constructor
        · intro h; exact absurd h (has_nil x)
        · rintro ⟨h1, _, h2⟩; exact absurd h1 h2)
      have eL2 : lenL (a :: r) + lenL (gapsL (a :: r)) = zz.Hi - a.Lo := by rw [← eL]; simp [lenL]
      have L2 : lengthS (gapsL (a :: r)) = (lenL (gapsL (a :: r)), 0) := by unfold lengthS; rw [if_pos cg]
      have j0 : idx [({ Lo := a.Lo, Hi := zz.Hi } : api_Span)] 0 = some { Lo := a.Lo, Hi := zz.Hi } := rfl
      have b1 : (a.Lo != a.Lo) = false := by simp
      have b2 : (zz.Hi != zz.Hi) = false := by simp
      have b3 : (w64 (lenL (a :: r) + lenL (gapsL (a :: r))) != w64 (zz.Hi - a.Lo)) = false := by rw [eL2]; simp
      have b4 : ((([({ Lo := a.Lo, Hi := zz.Hi } : api_Span)]).length : Int) != 1) = false := rfl
      simp only [z, cond_true, union_eq, eU, Option.bind_some, (length_eq _).1, L2, k0, cond_false, b4, j0, i0, i1, b1, b2, b3]
      exact hmove
  · have e0 : (checkS s != 0) = true := by simpa using hc
    simp only [e0, cond_true, Option.bind_some]


@[irreducible] def manyL (n : Nat) : List api_Span := (List.range n).map fun (i : Nat) => { Lo := 4 * (i : Int), Hi := 4 * (i : Int) + 1 }
@[irreducible] def oddL (n : Nat) : List api_Span := (List.range n).map fun (i : Nat) => { Lo := 4 * (i : Int) + 2, Hi := 4 * (i : Int) + 3 }
theorem manyL_len (n : Nat) : (manyL n).length = n := by simp [manyL]
theorem oddL_len (n : Nat) : (oddL n).length = n := by simp [oddL]

theorem names_loop : loop l11_SpanNames_L1 (0, [], []) = some (manyL 401, oddL 401) := by
  have := loop_rng (f := l11_SpanNames_L1) (σ := List api_Span × List api_Span) (fun k c => ((k : Int), c.1, c.2)) 401 (fun k c => c = (manyL k, oddL k)) (fun r => r = (manyL 401, oddL 401)) ?_ ?_ (k0 := 0) (c0 := ([], [])) (by omega) (by unfold manyL oddL; rfl)
  · obtain ⟨b, h1, rfl⟩ := this; exact h1
  · rintro k c hk rfl
    have hb : decide ((k : Int) < 401) = true := decide_eq_true (by omega)
    refine .inl ⟨(manyL (k + 1), oddL (k + 1)), ?_, rfl⟩
    have l1 := manyL_len k
    have l2 := oddL_len k
    simp only [l11_SpanNames_L1, hb, cond_true]
    rw [app_of (by simp only [l1, List.length_cons, List.length_nil]; omega), app_of (by simp only [l2, List.length_cons, List.length_nil]; omega)]
    have w1 : w64 (4 * (k : Int)) = 4 * (k : Int) := w64_id (by omega)
    have w2 : w64 (4 * (k : Int) + 1) = 4 * (k : Int) + 1 := w64_id (by omega)
    have w3 : w64 (4 * (k : Int) + 2) = 4 * (k : Int) + 2 := w64_id (by omega)
    have w4 : w64 (4 * (k : Int) + 3) = 4 * (k : Int) + 3 := w64_id (by omega)
    have w5 : w64 ((k : Int) + 1) = ((k + 1 : Nat) : Int) := by rw [w64_id (by omega)]; omega
    simp only [Option.bind_some, w1, w2, w3, w4, w5, manyL, oddL, List.range_succ, List.map_append, List.map_cons, List.map_nil]
  · rintro c rfl
    have hb : decide (((401 : Nat) : Int) < 401) = false := decide_eq_false (by omega)
    exact ⟨_, by simp only [l11_SpanNames_L1, hb, cond_false], rfl⟩

theorem manyL_good (n : Nat) (hn : n ≤ 1000) : Good (manyL n) := by
  refine ⟨fun t ht => ?_, ?_⟩
  · simp only [manyL, List.mem_map, List.mem_range] at ht
    obtain ⟨i, hi, rfl⟩ := ht
    exact ⟨by simp only; omega, by simp only; omega, by simp only; omega⟩
  · unfold manyL
    rw [List.pairwise_map]
    refine List.pairwise_lt_range.imp fun {a b} h => ?_
    simp only; omega

theorem good_one {a b : Int} (h : a < b) (h1 : -1000000 ≤ a) (h2 : b ≤ 1000000) : Good [({ Lo := a, Hi := b } : api_Span)] := by
  refine ⟨fun t ht => ?_, by simp⟩
  simp only [List.mem_cons, List.not_mem_nil, or_false] at ht
  subst ht; exact ⟨h, h1, h2⟩
theorem check_bad {s : List api_Span} (hl : s.length ≤ 400) (h : ¬ Good s) : checkS s = 8 := by
  unfold checkS
  rw [if_neg (by omega), if_neg h]

theorem near_nil : span_Near [] 0 = some (0, 6) := by
  obtain ⟨m, h1, h2⟩ := near_loop [] 0 (by simp) ⟨fun t ht => (by cases ht), .nil⟩ (by omega)
  rcases h2 with ⟨_, rfl⟩ | ⟨h, _⟩
  · have hc : checkS ([] : List api_Span) = 0 := checkS_of (by simp) ⟨fun t ht => (by cases ht), .nil⟩
    unfold span_Near
    simp only [check_eq, hc, Option.bind_some, h1]
    rfl
  · exact absurd rfl h

theorem many_union : (opS 2 (manyL 400) [({ Lo := 2, Hi := 3 } : api_Span)]).2 = 4 := by
  have g1 := manyL_good 400 (by omega)
  have g2 : Good [({ Lo := 2, Hi := 3 } : api_Span)] := good_one (by decide) (by decide) (by decide)
  have hm : manyL 400 = { Lo := 0, Hi := 1 } :: ((List.range 399).map fun (i : Nat) => { Lo := 4 * ((i : Int) + 1), Hi := 4 * ((i : Int) + 1) + 1 }) := by
    unfold manyL
    rw [List.range_succ_eq_map]
    simp [List.map_map, Function.comp_def]
  have hj : joinedS 2 (manyL 400) [({ Lo := 2, Hi := 3 } : api_Span)] = { Lo := 0, Hi := 1 } :: { Lo := 2, Hi := 3 } :: ((List.range 399).map fun (i : Nat) => { Lo := 4 * ((i : Int) + 1), Hi := 4 * ((i : Int) + 1) + 1 }) := by
    refine joined_is (by rw [manyL_len]; omega) (by simp) ⟨?_, ?_⟩ fun x => ?_
    · intro t ht
      simp only [List.mem_cons, List.mem_map, List.mem_range] at ht
      rcases ht with rfl | rfl | ⟨i, _, rfl⟩
      · decide
      · decide
      · simp only; omega
    · rw [List.pairwise_cons, List.pairwise_cons, List.pairwise_map]
      refine ⟨?_, ?_, List.pairwise_lt_range.imp fun {a b} h => by simp only; omega⟩
      · intro t ht
        simp only [List.mem_cons, List.mem_map, List.mem_range] at ht
        rcases ht with rfl | ⟨i, _, rfl⟩
        · decide
        · simp only; omega
      · intro t ht
        simp only [List.mem_map, List.mem_range] at ht
        obtain ⟨i, _, rfl⟩ := ht
        simp only; omega
    · rw [holds2, hm, has_cons, has_cons, has_cons, has_cons]
      simp only [has_nil, or_false]
      constructor
      · rintro (h | h | h)
        · exact .inl (.inl h)
        · exact .inr h
        · exact .inl (.inr h)
      · rintro ((h | h) | h)
        · exact .inl h
        · exact .inr (.inr h)
        · exact .inr (.inl h)
  unfold opS
  rw [if_neg (by simp [checkS_of (by rw [manyL_len]; omega) g1]), if_neg (by simp [checkS_of (s := [({ Lo := 2, Hi := 3 } : api_Span)]) (by decide) g2]), hj, if_pos (by simp)]

theorem makeS_many {s : List api_Span} (h : 400 < s.length) : makeS s = ([], 4) := by
  unfold makeS; rw [if_pos h]
theorem check_many {s : List api_Span} (h : 400 < s.length) : checkS s = 4 := by
  unfold checkS; rw [if_pos h]

theorem opS_many {k : Int} {s t : List api_Span} (h : checkS s = 4) : (opS k s t).2 = 4 := by
  unfold opS
  have : checkS s ≠ 0 := by omega
  rw [if_pos this]
  exact h

/-- **THE LAW SpanNames.** -/
theorem spanNames : l11_SpanNames = some true := by
  classical
  have hp : l11_pair = some pairL := rfl
  have hcp : checkS pairL = 0 := checkS_of (by decide) pair_good
  have e1 : slc (manyL 401) 0 400 = some (manyL 400) := by
    unfold slc
    have hl := manyL_len 401
    rw [if_pos ⟨by omega, by omega, by omega⟩]
    unfold manyL
    rw [← List.map_drop, ← List.map_take]
    have : ((List.range 401).drop (Int.toNat 0)).take (Int.toNat 400 - Int.toNat 0) = List.range 400 := by
      show ((List.range 401).drop 0).take 400 = List.range 400
      rw [List.drop_zero, List.take_range]; rfl
    rw [this]
  have e2 : slc (oddL 401) 0 1 = some [{ Lo := 2, Hi := 3 }] := by
    unfold slc
    have hl := oddL_len 401
    rw [if_pos ⟨by omega, by omega, by omega⟩]
    unfold oddL
    rw [← List.map_drop, ← List.map_take]
    have : ((List.range 401).drop (Int.toNat 0)).take (Int.toNat 1 - Int.toNat 0) = List.range 1 := by
      show ((List.range 401).drop 0).take 1 = List.range 1
      rw [List.drop_zero, List.take_range]; rfl
    rw [this]
    rfl
  have e3 : (makeS [({ Lo := 1, Hi := 1 } : api_Span)]).2 = 8 := by
    unfold makeS
    rw [if_neg (by decide), if_neg]
    intro h
    have := (h _ (List.mem_cons_self ..)).1
    simp only at this; omega
  have e4 : (moveS pairL 999994).2 = 16 := by
    unfold moveS
    rw [if_neg (by simp [hcp]), if_neg (by simp [pairL]), if_neg (by omega), if_neg]
    intro h
    have := (h { Lo := 4, Hi := 7 } (by simp [pairL])).2.2
    simp only [mvS] at this; omega
  have e5 : moveS pairL 999993 = (pairL.map (mvS 999993), 0) := by
    unfold moveS
    rw [if_neg (by simp [hcp]), if_neg (by simp [pairL]), if_neg (by omega), if_pos]
    intro t ht
    simp only [pairL, List.mem_cons, List.not_mem_nil, or_false] at ht
    rcases ht with rfl | rfl <;> exact ⟨by decide, by decide, by decide⟩
  have e6 : span_Near pairL 1000001 = some (0, 2) := by
    unfold span_Near
    simp only [check_eq, hcp, Option.bind_some]
    rfl
  obtain ⟨m, n1, n2⟩ := near_good pairL (-1000000) (by decide) pair_good (by decide) (by simp [pairL])
  have hm : m = 1000000 := by
    refine n2.unique ⟨⟨{ Lo := 0, Hi := 2 }, by simp [pairL], by decide⟩, ?_⟩
    intro t ht
    simp only [pairL, List.mem_cons, List.not_mem_nil, or_false] at ht
    rcases ht with rfl | rfl <;> decide
  subst hm
  have e7 : lengthS [({ Lo := 0, Hi := 1 } : api_Span), ({ Lo := 1, Hi := 2 } : api_Span)] = (0, 8) := by
    have : checkS [({ Lo := 0, Hi := 1 } : api_Span), ({ Lo := 1, Hi := 2 } : api_Span)] = 8 := by
      refine check_bad (by decide) fun h => ?_
      have := h.2
      simp at this
    unfold lengthS
    rw [this]; rfl
  have e8 : moveS [] 5000000 = ([], 0) := by
    unfold moveS
    rw [if_neg (by simp [checkS_of (s := []) (by simp) ⟨fun t ht => (by cases ht), .nil⟩]), if_pos rfl]
  have c1 : checkS [({ Lo := (-1000000), Hi := 1000000 } : api_Span)] = 0 := checkS_of (by decide) (good_one (by decide) (by decide) (by decide))
  have c2 : checkS [({ Lo := (-1000001), Hi := 0 } : api_Span)] = 8 := check_bad (by decide) fun h => by
    have := (h.1 _ (List.mem_cons_self ..)).2.1
    simp only at this; omega
  have c3 : checkS [({ Lo := 0, Hi := 1000001 } : api_Span)] = 8 := check_bad (by decide) fun h => by
    have := (h.1 _ (List.mem_cons_self ..)).2.2
    simp only at this; omega
  have e9 : (opS 2 (manyL 401) []).2 = 4 := opS_many (check_many (by rw [manyL_len]; omega))
  have e10 : (makeS (manyL 401)).2 = 4 := by rw [makeS_many (by rw [manyL_len]; omega)]
  have e11 : (((pairL.map (mvS 999993)).length : Int) == 2) = true := rfl
  have e12 : (((([] : List api_Span)).length : Int) == 0) = true := rfl
  unfold l11_SpanNames
  simp only [names_loop, Option.bind_some, make_eq, e1, e2, union_eq, hp, move_eq, near_nil, e6, n1, (length_eq _).1, check_eq, alive_eq]
  simp only [c1, c2, c3, e3, e4, e5, e7, e8, e9, e10, many_union, e11, e12, beq_self_eq_true, cond_true, Option.bind_some]

end Go.Sh
