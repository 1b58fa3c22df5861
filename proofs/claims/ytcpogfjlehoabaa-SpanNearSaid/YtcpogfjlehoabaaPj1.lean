/- PLAIN, SPANS: the ends of two lists of spans, sorted; how many of them lie over a point. -/
import Derived.Test.YtcpogfjlehoabaaPl3
import Derived.Test.YtcpogfjlehoabaaPg5
import Derived.Test.YtcpogfjlehoabaaPg6
namespace Go.Sh
open Go Go.Am

instance : Inhabited span_end := ⟨⟨0, 0, 0⟩⟩

theorem spanSort_eq (q : span_end → span_end → Option Int) (xs : List span_end) : slices_SortFunc_span_end_span_end_e1 q xs = g_SortFunc q xs := by rw [se_g_SortFunc]

def evs (s : List api_Span) (l : Int) : List span_end := s.flatMap fun t => [{ at_ := t.Lo, list_ := l, by_ := 1 }, { at_ := t.Hi, list_ := l, by_ := -1 }]
theorem evs_length (s : List api_Span) (l : Int) : (evs s l).length = 2 * s.length := by
  induction s with
  | nil => rfl
  | cons t s ih => simp only [evs, List.flatMap_cons, List.length_append, List.length_cons, List.length_nil] at ih ⊢; omega
theorem mem_evs {s : List api_Span} {l : Int} {e : span_end} (h : e ∈ evs s l) : e.list_ = l ∧ (e.by_ = 1 ∨ e.by_ = -1) ∧ ∃ t ∈ s, e.at_ = t.Lo ∨ e.at_ = t.Hi := by
  simp only [evs, List.mem_flatMap] at h
  obtain ⟨t, ht, h⟩ := h
  simp only [List.mem_cons, List.not_mem_nil, or_false] at h
  rcases h with rfl | rfl
  · exact ⟨rfl, .inl rfl, t, ht, .inl rfl⟩
  · exact ⟨rfl, .inr rfl, t, ht, .inr rfl⟩

theorem ends_L2 (s : List api_Span) (l : Int) (y : List span_end) (hs : s.length ≤ 1000) (base : List span_end) (hb : base.length ≤ 10000) :
    loop (span_ends_e1_L2 s (l, y)) (0, base) = some (base ++ evs s l) := by
  have := loop_rng (f := span_ends_e1_L2 s (l, y)) (σ := List span_end) (fun k c => ((k : Int), c)) s.length (fun k c => c = base ++ evs (s.take k) l) (fun t => t = base ++ evs s l) ?_ ?_ (k0 := 0) (c0 := base) (by omega) (by simp [evs])
  · obtain ⟨b, h1, rfl⟩ := this; exact h1
  · rintro k c hk rfl
    have hb1 : decide ((k : Int) < (s.length : Int)) = true := decide_eq_true (by omega)
    refine .inl ⟨base ++ evs (s.take (k + 1)) l, ?_, rfl⟩
    have hlen : (evs (s.take k) l).length ≤ 2000 := by rw [evs_length, List.length_take]; omega
    simp only [span_ends_e1_L2, hb1, cond_true, idx_lt hk, Option.bind_some]
    rw [app_of (by rw [List.length_append]; simp only [List.length_cons, List.length_nil]; omega), Option.bind_some, w64_id (by omega), List.take_succ_eq_append_getElem hk, List.append_assoc]
    have : evs (s.take k ++ [s[k]]) l = evs (s.take k) l ++ [{ at_ := s[k].Lo, list_ := l, by_ := 1 }, { at_ := s[k].Hi, list_ := l, by_ := -1 }] := by simp only [evs, List.flatMap_append, List.flatMap_cons, List.flatMap_nil, List.append_nil]
    rw [this]; rfl
  · rintro c rfl
    have hb1 : decide ((s.length : Int) < (s.length : Int)) = false := decide_eq_false (by omega)
    exact ⟨_, by simp only [span_ends_e1_L2, hb1, cond_false]; rfl, by rw [List.take_length]⟩

def ltE (a b : span_end) : Bool := decide (a.at_ < b.at_)
def inE (e : span_end) : Prop := -1000000 ≤ e.at_ ∧ e.at_ ≤ 1000000
theorem swoE : Sort.SWO ltE where
  irrefl := by intro x; simp [ltE]
  trans := by intro x y z; simp only [ltE, decide_eq_true_eq]; omega
  ntrans := by intro x y z; simp only [ltE, decide_eq_false_iff_not]; omega
theorem cmpE : CmpOk (fun x0 x1 => span_ends_1 x0 x1) ltE inE := by
  rintro x y ⟨h1, h2⟩ ⟨h3, h4⟩
  refine ⟨x.at_ - y.at_, ?_, ?_⟩
  · show some (w64 (x.at_ - y.at_)) = _; rw [w64_id (by omega)]
  · unfold ltE; exact decide_eq_decide.2 (by omega)

theorem spanEnds_eq (p q : List api_Span) (hp : p.length ≤ 500) (hq : q.length ≤ 500) (vp : ∀ t ∈ p, vld t) (vq : ∀ t ∈ q, vld t) :
    ∃ ys, span_ends_e1 [p, q] = some ([p, q], ys) ∧ ys.Perm (evs p 0 ++ evs q 1) ∧ ys.Pairwise (fun x y => x.at_ ≤ y.at_) := by
  have hP : ∀ x ∈ evs p 0 ++ evs q 1, inE x := by
    intro x hx
    rcases List.mem_append.1 hx with h | h
    · obtain ⟨_, _, t, ht, h⟩ := mem_evs h
      obtain ⟨a, b, c⟩ := vp t ht
      unfold inE; rcases h with h | h <;> omega
    · obtain ⟨_, _, t, ht, h⟩ := mem_evs h
      obtain ⟨a, b, c⟩ := vq t ht
      unfold inE; rcases h with h | h <;> omega
  have l1 := evs_length p 0
  have l2 := evs_length q 1
  obtain ⟨ys, h1, h2, h3⟩ := sortFunc_eq cmpE swoE (evs p 0 ++ evs q 1) (by rw [List.length_append]; omega) hP
  refine ⟨ys, ?_, h2, h3.imp (fun {x y} h => by simp only [ltE, decide_eq_false_iff_not] at h; omega)⟩
  have hloop : loop (span_ends_e1_L1 [p, q]) (0, []) = some (evs p 0 ++ evs q 1) := by
    have s0 : span_ends_e1_L1 [p, q] (0, []) = some (.inl (1, evs p 0)) := by
      have t : decide ((0 : Int) < (([p, q] : List (List api_Span)).length : Int)) = true := rfl
      simp only [span_ends_e1_L1, t, cond_true]
      have : idx [p, q] 0 = some p := rfl
      rw [this]
      simp only [Option.bind_some, ends_L2 p 0 [] (by omega) [] (by simp), List.nil_append]
      rfl
    have s1 : span_ends_e1_L1 [p, q] (1, evs p 0) = some (.inl (2, evs p 0 ++ evs q 1)) := by
      have t : decide ((1 : Int) < (([p, q] : List (List api_Span)).length : Int)) = true := rfl
      simp only [span_ends_e1_L1, t, cond_true]
      have : idx [p, q] 1 = some q := rfl
      rw [this]
      simp only [Option.bind_some, ends_L2 q 1 (evs p 0) (by omega) (evs p 0) (by omega)]
      rfl
    have s2 : span_ends_e1_L1 [p, q] (2, evs p 0 ++ evs q 1) = some (.inr (evs p 0 ++ evs q 1)) := by
      have t : decide ((2 : Int) < (([p, q] : List (List api_Span)).length : Int)) = false := rfl
      simp only [span_ends_e1_L1, t, cond_false]
    rw [loop_next s0, loop_next s1, loop_done s2]
  unfold span_ends_e1
  rw [hloop]
  simp only [Option.bind_some, spanSort_eq, h1]
  have le : lenEq ys.length (evs p 0 ++ evs q 1).length = some () := by unfold lenEq; rw [if_pos h2.length_eq]
  have le2 : lenEq ys.length ys.length = some () := by unfold lenEq; rw [if_pos rfl]
  simp only [le, Option.bind_some, slices_Values_span_end_span_end_e1, le2]

/-- How many ends of one list are chosen, with their signs. -/
def cnt (l : Int) (c : Int → Bool) : List span_end → Int
  | [] => 0
  | e :: es => (if e.list_ = l ∧ c e.at_ = true then e.by_ else 0) + cnt l c es
theorem cnt_append (l : Int) (c : Int → Bool) (a b : List span_end) : cnt l c (a ++ b) = cnt l c a + cnt l c b := by
  induction a with
  | nil => simp [cnt]
  | cons e a ih => simp only [List.cons_append, cnt, ih]; omega
theorem cnt_perm {l : Int} {c : Int → Bool} {a b : List span_end} (h : a.Perm b) : cnt l c a = cnt l c b := by
  induction h with
  | nil => rfl
  | cons x _ ih => simp only [cnt, ih]
  | swap x y l => simp only [cnt]; omega
  | trans _ _ ih1 ih2 => rw [ih1, ih2]
theorem cnt_congr {l : Int} {c c' : Int → Bool} : ∀ {a : List span_end}, (∀ e ∈ a, c e.at_ = c' e.at_) → cnt l c a = cnt l c' a
  | [], _ => rfl
  | e :: a, h => by simp only [cnt, h e (by simp), cnt_congr (fun e he => h e (List.mem_cons_of_mem _ he))]
theorem cnt_none {l : Int} {c : Int → Bool} : ∀ {a : List span_end}, (∀ e ∈ a, c e.at_ = false) → cnt l c a = 0
  | [], _ => rfl
  | e :: a, h => by
    simp only [cnt, cnt_none (fun e he => h e (List.mem_cons_of_mem _ he)), h e (by simp)]
    simp
theorem cnt_other {s : List api_Span} {l l' : Int} {c : Int → Bool} (h : l ≠ l') : cnt l c (evs s l') = 0 := by
  induction s with
  | nil => rfl
  | cons t s ih =>
    have : evs (t :: s) l' = [{ at_ := t.Lo, list_ := l', by_ := 1 }, { at_ := t.Hi, list_ := l', by_ := -1 }] ++ evs s l' := rfl
    rw [this, cnt_append, ih]
    have h' : ¬ l' = l := fun e => h e.symm
    simp [cnt, h']
theorem cnt_evs {s : List api_Span} {l : Int} (v : ∀ t ∈ s, vld t) (x : Int) : 0 ≤ cnt l (fun a => decide (a ≤ x)) (evs s l) ∧ (0 < cnt l (fun a => decide (a ≤ x)) (evs s l) ↔ has s x) := by
  induction s with
  | nil => exact ⟨Int.le_refl 0, by simp [evs, cnt, has]⟩
  | cons t s ih =>
    obtain ⟨i1, i2⟩ := ih (fun t ht => v t (List.mem_cons_of_mem _ ht))
    have hv := v t (by simp)
    have : evs (t :: s) l = [{ at_ := t.Lo, list_ := l, by_ := 1 }, { at_ := t.Hi, list_ := l, by_ := -1 }] ++ evs s l := rfl
    rw [this, cnt_append, has_cons, ← i2]
    obtain ⟨v1, v2, v3⟩ := hv
    simp only [cnt, true_and, decide_eq_true_eq]
    split <;> split <;> omega
theorem cnt_total {s : List api_Span} {l : Int} : cnt l (fun _ => true) (evs s l) = 0 := by
  induction s with
  | nil => rfl
  | cons t s ih =>
    have : evs (t :: s) l = [{ at_ := t.Lo, list_ := l, by_ := 1 }, { at_ := t.Hi, list_ := l, by_ := -1 }] ++ evs s l := rfl
    rw [this, cnt_append, ih]
    simp [cnt]
theorem cnt_bound {l : Int} {c : Int → Bool} : ∀ {a : List span_end}, (∀ e ∈ a, e.by_ = 1 ∨ e.by_ = -1) → -(a.length : Int) ≤ cnt l c a ∧ cnt l c a ≤ (a.length : Int)
  | [], _ => by simp [cnt]
  | e :: a, h => by
    obtain ⟨h1, h2⟩ := cnt_bound (l := l) (c := c) (fun e he => h e (List.mem_cons_of_mem _ he))
    have := h e (by simp)
    simp only [cnt, List.length_cons]
    split <;> omega
end Go.Sh
