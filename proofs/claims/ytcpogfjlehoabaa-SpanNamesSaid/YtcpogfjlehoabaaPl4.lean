/- PLAIN, SPANS (4): gaps, moving, distances; the law SpanMoves. -/
import Derived.Test.YtcpogfjlehoabaaPl3
namespace Go.Sh
open Go Go.Am

theorem checkS_good {s : List api_Span} (h : checkS s = 0) : s.length ≤ 400 ∧ Good s := by
  unfold checkS at h
  split at h
  · cases h
  · split at h
    · rename_i h1 h2; exact ⟨by omega, h2⟩
    · cases h

/-! ### Same -/
theorem same_self (s : List api_Span) (hl : s.length ≤ 1000000) : r11_Same s s = some true := by
  have := loop_rng (f := r11_Same_L1 s s) (σ := Unit) (fun k _ => (k : Int)) s.length (fun k _ => True) (fun b => b = .inl ()) ?_ ?_ (k0 := 0) (c0 := ()) (by omega) trivial
  · obtain ⟨b, h1, rfl⟩ := this
    have h1 : loop (r11_Same_L1 s s) 0 = some (.inl ()) := h1
    unfold r11_Same
    simp [h1]
  · intro k _ hk _
    have hb : decide ((k : Int) < (s.length : Int)) = true := decide_eq_true (by omega)
    refine .inl ⟨(), ?_, trivial⟩
    simp only [r11_Same_L1, hb, cond_true, idx_lt hk, Option.bind_some]
    rw [w64_id (by omega)]; simp
  · intro _ _
    have hb : decide ((s.length : Int) < (s.length : Int)) = false := decide_eq_false (by omega)
    exact ⟨_, by simp only [r11_Same_L1, hb, cond_false], rfl⟩

/-! ### Gaps -/
def gapsL : List api_Span → List api_Span
  | a :: b :: r => { Lo := a.Hi, Hi := b.Lo } :: gapsL (b :: r)
  | _ => []
theorem gapsL_snoc : ∀ (d : List api_Span) (t u : api_Span), gapsL (d ++ [t, u]) = gapsL (d ++ [t]) ++ [{ Lo := t.Hi, Hi := u.Lo }]
  | [], t, u => rfl
  | [a], t, u => rfl
  | a :: b :: r, t, u => by
    have := gapsL_snoc (b :: r) t u
    simp only [List.cons_append, gapsL] at this ⊢
    rw [this]
theorem gapsL_len : ∀ (s : List api_Span), (gapsL s).length ≤ s.length
  | [] => by simp [gapsL]
  | [a] => by simp [gapsL]
  | a :: b :: r => by have := gapsL_len (b :: r); simp [gapsL] at this ⊢; omega
theorem gapsL_mem : ∀ {s : List api_Span} {g : api_Span}, g ∈ gapsL s → (∃ a ∈ s, g.Lo = a.Hi) ∧ ∃ b ∈ s, g.Hi = b.Lo
  | [], g, h => by simp [gapsL] at h
  | [a], g, h => by simp [gapsL] at h
  | a :: b :: r, g, h => by
    simp only [gapsL, List.mem_cons] at h
    rcases h with rfl | h
    · exact ⟨⟨a, by simp, rfl⟩, ⟨b, by simp, rfl⟩⟩
    · obtain ⟨⟨x, hx, e1⟩, ⟨y, hy, e2⟩⟩ := gapsL_mem h
      exact ⟨⟨x, List.mem_cons_of_mem _ hx, e1⟩, ⟨y, List.mem_cons_of_mem _ hy, e2⟩⟩
theorem gapsL_lo : ∀ {a : api_Span} {s : List api_Span} {g : api_Span}, Can (a :: s) → g ∈ gapsL (a :: s) → a.Hi ≤ g.Lo
  | a, [], g, _, h => by simp [gapsL] at h
  | a, b :: r, g, hc, h => by
    simp only [gapsL, List.mem_cons] at h
    rcases h with rfl | h
    · simp
    · have h1 := gapsL_lo hc.tail h
      have h2 := hc.lt b (by simp)
      have h3 := hc.1 b (by simp)
      omega
theorem gapsL_can : ∀ {s : List api_Span}, Can s → Can (gapsL s)
  | [], _ => ⟨by simp [gapsL], by simp [gapsL]⟩
  | [a], _ => ⟨by simp [gapsL], by simp [gapsL]⟩
  | a :: b :: r, h => by
    have ih := gapsL_can h.tail
    have hb := h.tail.1 b (by simp)
    refine ⟨fun t ht => ?_, ?_⟩
    · simp only [gapsL, List.mem_cons] at ht
      rcases ht with rfl | ht
      · exact h.lt b (by simp)
      · exact ih.1 t ht
    · simp only [gapsL]
      rw [List.pairwise_cons]
      refine ⟨fun g hg => ?_, ih.2⟩
      have := gapsL_lo h.tail hg
      simp only; omega
/-- What lies between the first and the last number, and in no span. -/
theorem gapsL_has : ∀ {a : api_Span} {s : List api_Span}, Can (a :: s) → ∀ x, has (gapsL (a :: s)) x ↔ (a.Lo ≤ x ∧ x < ((a :: s).getLast (by simp)).Hi) ∧ ¬ has (a :: s) x
  | a, [], h, x => by
    have := h.1 a (by simp)
    simp [gapsL, has_nil, has_cons]
  | a, b :: r, h, x => by
    have ih := gapsL_has h.tail x
    have ha := h.1 a (by simp)
    have hb := h.tail.1 b (by simp)
    have hab := h.lt b (by simp)
    simp only [gapsL, has_cons (a := { Lo := a.Hi, Hi := b.Lo }), ih, has_cons (a := a)]
    have hL : ((a :: b :: r).getLast (by simp)) = (b :: r).getLast (by simp) := List.getLast_cons (by simp)
    rw [hL]
    have hlast : b.Lo < ((b :: r).getLast (by simp)).Hi := by
      have hm := List.getLast_mem (l := b :: r) (by simp)
      rcases List.mem_cons.1 hm with e | hm
      · rw [e]; exact hb
      · have h1 := h.tail.lt _ hm
        have h2 := h.tail.tail.1 _ hm
        omega
    have hnb : has (b :: r) x → b.Lo ≤ x := by
      rintro hx
      rcases has_cons.1 hx with hx | hx
      · exact hx.1
      · have := h.tail.tail_gt hx; omega
    by_cases hx : has (b :: r) x
    · have := hnb hx
      simp only [hx, not_true_eq_false, and_false, or_false, or_true]
      exact ⟨fun h => by omega, fun h => h.elim⟩
    · simp only [hx, not_false_iff, and_true, or_false]
      omega

theorem gaps_loop (s : List api_Span) (hl : s.length ≤ 400) : loop (span_Gaps_L1 s) (1, []) = some (gapsL s) := by
  by_cases h0 : s.length = 0
  · obtain rfl := List.length_eq_zero_iff.1 h0
    exact loop_done (by simp [span_Gaps_L1, gapsL])
  have := loop_rng (f := span_Gaps_L1 s) (σ := List api_Span) (fun k c => ((k : Int), c)) s.length (fun k c => 1 ≤ k ∧ c = gapsL (s.take k)) (fun t => t = gapsL s) ?_ ?_ (k0 := 1) (c0 := []) (by omega) ⟨by omega, ?_⟩
  · obtain ⟨b, h1, rfl⟩ := this; exact h1
  · rintro k c hk ⟨h1, rfl⟩
    obtain ⟨j, rfl⟩ : ∃ j, k = j + 1 := ⟨k - 1, by omega⟩
    have hb : decide (((j + 1 : Nat) : Int) < (s.length : Int)) = true := decide_eq_true (by omega)
    have hj : idx s (w64 (((j + 1 : Nat) : Int) - 1)) = some (s[j]'(by omega)) := by rw [w64_id (by omega)]; exact idx_of (by omega) (by omega)
    refine .inl ⟨gapsL (s.take (j + 1 + 1)), ?_, by omega, rfl⟩
    have hlen := gapsL_len (s.take (j + 1))
    simp only [span_Gaps_L1, hb, cond_true, hj, idx_lt hk, Option.bind_some]
    rw [app_of (by simp at hlen ⊢; omega), w64_id (by omega)]
    rw [List.take_succ_eq_append_getElem hk, List.take_succ_eq_append_getElem (show j < s.length by omega), List.append_assoc]
    have := gapsL_snoc (s.take j) s[j] s[j+1]
    simp only [List.singleton_append]
    rw [this]
    simp
  · rintro c ⟨_, rfl⟩
    have hb : decide ((s.length : Int) < (s.length : Int)) = false := decide_eq_false (by omega)
    simp [span_Gaps_L1, hb]
  · cases s with
    | nil => simp at h0
    | cons a r => simp [gapsL]
theorem gaps_eq (s : List api_Span) : span_Gaps s = some (if checkS s = 0 then (gapsL s, 0) else ([], checkS s)) := by
  unfold span_Gaps
  simp only [check_eq, Option.bind_some]
  by_cases h : checkS s = 0
  · have e : (checkS s != 0) = false := by simpa using h
    simp only [h, if_true]
    rw [gaps_loop s (checkS_good h).1]
    rfl
  · have e : (checkS s != 0) = true := by simpa using h
    simp only [e, cond_true, h, if_false]
theorem r11_gaps_eq (s : List api_Span) : r11_Gaps s = some (if checkS s = 0 then (gapsL s, 0) else ([], checkS s)) := by
  unfold r11_Gaps
  simp only [r11_check_eq, Option.bind_some]
  by_cases h : checkS s = 0
  · have e : (checkS s != 0) = false := by simpa using h
    obtain ⟨hl, hg⟩ := checkS_good h
    simp only [h, if_true]
    cases s with
    | nil => rfl
    | cons a r =>
      have e0 : (((a :: r).length : Int) == 0) = false := beq_eq_false_iff_ne.2 (by simp; omega)
      have i0 : idx (a :: r) 0 = some a := rfl
      have i1 : idx (a :: r) (w64 (((a :: r).length : Int) - 1)) = some ((a :: r).getLast (by simp)) := by
        rw [w64_id (by omega), List.getLast_eq_getElem]
        exact idx_of (by simp) (by simp)
      obtain ⟨out, h1, h2⟩ := joined_eq 3 [{ Lo := a.Lo, Hi := ((a :: r).getLast (by simp)).Hi }] (a :: r) (by simp) (by omega)
      have h3 : out = gapsL (a :: r) := by
        refine can_unique h2.can (gapsL_can hg.can) fun x => ?_
        rw [h2.pts, gapsL_has hg.can]
        simp only [holdsP, has_cons (s := []), has_nil, or_false]
        have : (3 : Int) ≠ 1 := by decide
        have : (3 : Int) ≠ 2 := by decide
        simp
      subst h3
      rw [show ((0 : Int) != 0) = false from rfl]
      simp only [cond_false, e0, i0, i1, Option.bind_some, h1]
  · have e : (checkS s != 0) = true := by simpa using h
    simp only [e, cond_true, h, if_false]

/-! ### Move -/
def mvS (d : Int) (t : api_Span) : api_Span := { Lo := t.Lo + d, Hi := t.Hi + d }
open Classical in
noncomputable def moveS (s : List api_Span) (d : Int) : List api_Span × Int :=
  if checkS s ≠ 0 then ([], checkS s) else if s = [] then ([], 0) else if d < -2000000 ∨ 2000000 < d then ([], 16) else if ∀ t ∈ s, vld (mvS d t) then (s.map (mvS d), 0) else ([], 16)
theorem mv_w {t : api_Span} {d : Int} (h : vld t) (hd : -2000000 ≤ d ∧ d ≤ 2000000) : ({ Lo := w64 (t.Lo + d), Hi := w64 (t.Hi + d) } : api_Span) = mvS d t := by
  obtain ⟨h1, h2, h3⟩ := h
  rw [w64_id (by omega), w64_id (by omega)]; rfl
theorem move_loop (s : List api_Span) (d : Int) (hl : s.length ≤ 400) (hg : Good s) (hd : -2000000 ≤ d ∧ d ≤ 2000000) :
    ∃ m, loop (span_Move_L1 s d) (0, []) = some m ∧ ((m = .inl (s.map (mvS d)) ∧ ∀ t ∈ s, vld (mvS d t)) ∨ (m = .inr ([], 16) ∧ ¬ ∀ t ∈ s, vld (mvS d t))) := by
  refine loop_rng (f := span_Move_L1 s d) (σ := List api_Span) (fun k c => ((k : Int), c)) s.length (fun k c => c = (s.take k).map (mvS d) ∧ ∀ i (h : i < s.length), i < k → vld (mvS d s[i])) _ ?_ ?_ (k0 := 0) (c0 := []) (by omega) ⟨by simp, fun i _ h => by omega⟩
  · rintro k c hk ⟨rfl, hv⟩
    have hb : decide ((k : Int) < (s.length : Int)) = true := decide_eq_true (by omega)
    simp only [span_Move_L1, hb, cond_true, idx_lt hk, Option.bind_some, mv_w (hg.get k hk) hd, valid_eq]
    by_cases h : vld (mvS d s[k])
    · refine .inl ⟨(s.take (k + 1)).map (mvS d), ?_, rfl, fun i hi h' => ?_⟩
      · simp only [h, decide_true, Bool.not_true, cond_false]
        rw [app_of (by simp; omega), w64_id (by omega), List.take_succ_eq_append_getElem hk, List.map_append]
        rfl
      · by_cases e : i = k
        · subst e; exact h
        · exact hv i hi (by omega)
    · refine .inr ⟨_, by simp only [h, decide_false, Bool.not_false, cond_true], .inr ⟨rfl, fun hh => h (hh _ (List.getElem_mem hk))⟩⟩
  · rintro c ⟨rfl, hv⟩
    have hb : decide ((s.length : Int) < (s.length : Int)) = false := decide_eq_false (by omega)
    refine ⟨.inl (s.map (mvS d)), by simp [span_Move_L1, hb], .inl ⟨rfl, fun t ht => ?_⟩⟩
    obtain ⟨i, hi, rfl⟩ := List.mem_iff_getElem.1 ht
    exact hv i hi hi
theorem r11_Move_L1_eq (s : List api_Span) (d : Int) (hd : -2000000 ≤ d ∧ d ≤ 2000000) : r11_Move_L1 s d = span_Move_L1 s d := by
  funext a
  have e1 : decide (d > 2000000) = false := decide_eq_false (by omega)
  have e2 : decide (d < -2000000) = false := decide_eq_false (by omega)
  unfold r11_Move_L1 span_Move_L1
  cases h : idx s a.1 with
  | none => simp [e1, e2]
  | some v => simp only [e1, e2, cond_false, Option.bind_some, r11_valid_fun]; cases span_valid { Lo := w64 (v.Lo + d), Hi := w64 (v.Hi + d) } <;> rfl
theorem move_eq (s : List api_Span) (d : Int) : span_Move s d = some (moveS s d) := by
  unfold span_Move moveS
  simp only [check_eq, Option.bind_some]
  by_cases h : checkS s = 0
  · obtain ⟨hl, hg⟩ := checkS_good h
    simp only [h, ne_eq, not_true, if_false]
    rw [show ((0 : Int) != 0) = false from rfl, cond_false]
    by_cases hs : s = []
    · subst hs
      have : loop (span_Move_L1 [] d) (0, []) = some (.inl []) := loop_done (by simp [span_Move_L1])
      simp [this]
    · have hl0 : 0 < s.length := List.length_pos_iff.2 hs
      have e0 : decide ((s.length : Int) > 0) = true := decide_eq_true (by omega)
      simp only [e0, cond_true, hs, if_false]
      by_cases hd : d < -2000000 ∨ 2000000 < d
      · simp only [hd, if_true]
        by_cases h1 : d > 2000000
        · simp [h1]
        · have h2 : d < -2000000 := by omega
          simp [h1, h2]
      · have e1 : decide (d > 2000000) = false := decide_eq_false (by omega)
        have e2 : decide (d < -2000000) = false := decide_eq_false (by omega)
        simp only [hd, if_false, e1, e2, cond_false, Option.bind_some]
        obtain ⟨m, h1, h2⟩ := move_loop s d hl hg (by omega)
        rw [h1]
        rcases h2 with ⟨rfl, h2⟩ | ⟨rfl, h2⟩
        · simp only [Option.bind_some]; rw [if_pos h2]
        · simp only [Option.bind_some]; rw [if_neg h2]
  · have e : (checkS s != 0) = true := by simpa using h
    simp [e, h]
theorem r11_move_eq (s : List api_Span) (d : Int) : r11_Move s d = some (moveS s d) := by
  rw [← move_eq]
  unfold r11_Move span_Move
  simp only [r11_check_eq, check_eq, Option.bind_some]
  by_cases h : checkS s = 0
  · obtain ⟨hl, hg⟩ := checkS_good h
    rw [h, show ((0 : Int) != 0) = false from rfl, cond_false, cond_false]
    by_cases hd : d < -2000000 ∨ 2000000 < d
    · by_cases hs : s = []
      · subst hs
        have h1 : loop (span_Move_L1 [] d) (0, []) = some (.inl []) := loop_done (by simp [span_Move_L1])
        have h2 : loop (r11_Move_L1 [] d) (0, []) = some (.inl []) := loop_done (by simp [r11_Move_L1])
        simp [h1, h2]
      · have hl0 : 0 < s.length := List.length_pos_iff.2 hs
        have e0 : decide ((s.length : Int) > 0) = true := decide_eq_true (by omega)
        have hb : decide ((0 : Int) < (s.length : Int)) = true := decide_eq_true (by omega)
        have hx : (cond (decide (d > 2000000)) (some true) (some (decide (d < -2000000)))) = some true := by
          by_cases h1 : d > 2000000
          · simp [h1]
          · have h2 : d < -2000000 := by omega
            simp [h1, h2]
        have h2 : loop (r11_Move_L1 s d) (0, []) = some (.inr ([], 16)) := loop_done (by simp only [r11_Move_L1, hb, cond_true, hx, Option.bind_some])
        simp only [e0, cond_true, hx, Option.bind_some, h2]
    · rw [r11_Move_L1_eq s d (by omega)]
      have e1 : decide (d > 2000000) = false := decide_eq_false (by omega)
      have e2 : decide (d < -2000000) = false := decide_eq_false (by omega)
      simp only [e1, e2, cond_false, Option.bind_some]
      cases decide ((s.length : Int) > 0) <;> rfl
  · have e : (checkS s != 0) = true := by simpa using h
    simp [e]

/-! ### Near -/
def dst (x : Int) (t : api_Span) : Int := max (max (t.Lo - x) (x - t.Hi + 1)) 0
theorem dst_nn (x : Int) (t : api_Span) : 0 ≤ dst x t := by unfold dst; omega
/-- m is the least distance. -/
def Least (s : List api_Span) (x m : Int) : Prop := (∃ t ∈ s, m = dst x t) ∧ ∀ t ∈ s, m ≤ dst x t
theorem Least.unique {s : List api_Span} {x m n : Int} (h : Least s x m) (h' : Least s x n) : m = n := by
  obtain ⟨⟨t, ht, e⟩, h1⟩ := h
  obtain ⟨⟨u, hu, e'⟩, h1'⟩ := h'
  have := h1 u hu
  have := h1' t ht
  omega
def LeastTo (s : List api_Span) (x : Int) (k : Nat) (m : Int) : Prop := (∃ i, ∃ h : i < s.length, i < k ∧ m = dst x s[i]) ∧ ∀ i (h : i < s.length), i < k → m ≤ dst x s[i]
theorem leastTo_all {s : List api_Span} {x m : Int} (h : LeastTo s x s.length m) : Least s x m := by
  obtain ⟨⟨i, hi, _, e⟩, h2⟩ := h
  refine ⟨⟨s[i], List.getElem_mem hi, e⟩, fun t ht => ?_⟩
  obtain ⟨j, hj, rfl⟩ := List.mem_iff_getElem.1 ht
  exact h2 j hj hj
theorem near_loop (s : List api_Span) (x : Int) (hl : s.length ≤ 400) (hg : Good s) (hx : -1000000 ≤ x ∧ x ≤ 1000000) : ∃ m, loop (span_Near_L1 s x) (-1, 0) = some m ∧ ((s = [] ∧ m = -1) ∨ (s ≠ [] ∧ Least s x m)) := by
  refine loop_rng (f := span_Near_L1 s x) (σ := Int) (fun k c => (c, (k : Int))) s.length (fun k c => (k = 0 ∧ c = -1) ∨ (0 < k ∧ LeastTo s x k c)) _ ?_ ?_ (k0 := 0) (c0 := -1) (by omega) (.inl ⟨rfl, rfl⟩)
  · intro k c hk hc
    have hb : decide ((k : Int) < (s.length : Int)) = true := decide_eq_true (by omega)
    obtain ⟨v1, v2, v3⟩ := hg.get k hk
    have hd : max (max (w64 (s[k].Lo - x)) (w64 (w64 (x - s[k].Hi) + 1))) 0 = dst x s[k] := by
      rw [w64_id (x := s[k].Lo - x) (by omega), w64_id (x := x - s[k].Hi) (by omega), w64_id (by omega)]; rfl
    have hd0 := dst_nn x s[k]
    simp only [span_Near_L1, hb, cond_true, idx_lt hk, Option.bind_some, hd]
    have hw : w64 ((k : Int) + 1) = ((k + 1 : Nat) : Int) := by rw [w64_id (by omega)]; omega
    rw [hw]
    rcases hc with ⟨rfl, rfl⟩ | ⟨hk0, ⟨i, hi, hik, e⟩, hle⟩
    · refine .inl ⟨dst x s[0], by simp, .inr ⟨by omega, ⟨0, hk, by omega, rfl⟩, fun i hi h => ?_⟩⟩
      obtain rfl : i = 0 := by omega
      omega
    · have hc0 : decide (c < 0) = false := decide_eq_false (by have := dst_nn x s[i]; omega)
      by_cases hlt : dst x s[k] < c
      · refine .inl ⟨dst x s[k], by simp [hc0, hlt], .inr ⟨by omega, ⟨k, hk, by omega, rfl⟩, fun j hj h => ?_⟩⟩
        by_cases ej : j = k
        · subst ej; omega
        · have := hle j hj (by omega); omega
      · refine .inl ⟨c, by simp [hc0, hlt], .inr ⟨by omega, ⟨i, hi, by omega, e⟩, fun j hj h => ?_⟩⟩
        by_cases ej : j = k
        · subst ej; omega
        · exact hle j hj (by omega)
  · intro c hc
    have hb : decide ((s.length : Int) < (s.length : Int)) = false := decide_eq_false (by omega)
    refine ⟨c, by simp only [span_Near_L1, hb, cond_false], ?_⟩
    rcases hc with ⟨h0, rfl⟩ | ⟨h0, hc⟩
    · exact .inl ⟨List.length_eq_zero_iff.1 h0, rfl⟩
    · exact .inr ⟨by rintro rfl; simp at h0, leastTo_all hc⟩
theorem r11_near_loop (s : List api_Span) (x : Int) (hl : s.length ≤ 400) (hg : Good s) (hx : -1000000 ≤ x ∧ x ≤ 1000000) (hne : s ≠ []) (hno : ¬ has s x) : ∃ m, loop (r11_Near_L1 s x) (4000000, 0) = some m ∧ Least s x m := by
  have hl0 : 0 < s.length := List.length_pos_iff.2 hne
  refine loop_rng (f := r11_Near_L1 s x) (σ := Int) (fun k c => (c, (k : Int))) s.length (fun k c => (k = 0 ∧ c = 4000000) ∨ (0 < k ∧ LeastTo s x k c)) _ ?_ ?_ (k0 := 0) (c0 := 4000000) (by omega) (.inl ⟨rfl, rfl⟩)
  · intro k c hk hc
    have hb : decide ((k : Int) < (s.length : Int)) = true := decide_eq_true (by omega)
    obtain ⟨v1, v2, v3⟩ := hg.get k hk
    have hnk : ¬ (s[k].Lo ≤ x ∧ x < s[k].Hi) := fun h => hno ⟨_, List.getElem_mem hk, h⟩
    have hw : w64 ((k : Int) + 1) = ((k + 1 : Nat) : Int) := by rw [w64_id (by omega)]; omega
    have hstep : r11_Near_L1 s x (c, (k : Int)) = some (.inl (min c (dst x s[k]), ((k + 1 : Nat) : Int))) := by
      simp only [r11_Near_L1, hb, cond_true, idx_lt hk, Option.bind_some, hw]
      by_cases h1 : s[k].Lo > x
      · have : w64 (s[k].Lo - x) = dst x s[k] := by rw [w64_id (by omega)]; unfold dst; omega
        simp [h1, this]
      · have : w64 (x - w64 (s[k].Hi - 1)) = dst x s[k] := by rw [w64_id (x := s[k].Hi - 1) (by omega), w64_id (by omega)]; unfold dst; omega
        simp [h1, this]
    refine .inl ⟨_, hstep, .inr ⟨by omega, ?_⟩⟩
    have hd : dst x s[k] < 4000000 := by unfold dst; omega
    rcases hc with ⟨rfl, rfl⟩ | ⟨hk0, ⟨i, hi, hik, e⟩, hle⟩
    · refine ⟨⟨0, hk, by omega, by omega⟩, fun i hi h => ?_⟩
      obtain rfl : i = 0 := by omega
      omega
    · by_cases hlt : dst x s[k] < c
      · refine ⟨⟨k, hk, by omega, by omega⟩, fun j hj h => ?_⟩
        by_cases ej : j = k
        · subst ej; omega
        · have := hle j hj (by omega); omega
      · refine ⟨⟨i, hi, by omega, by omega⟩, fun j hj h => ?_⟩
        by_cases ej : j = k
        · subst ej; omega
        · have := hle j hj (by omega); omega
  · intro c hc
    have hb : decide ((s.length : Int) < (s.length : Int)) = false := decide_eq_false (by omega)
    refine ⟨c, by simp only [r11_Near_L1, hb, cond_false], ?_⟩
    rcases hc with ⟨h0, rfl⟩ | ⟨h0, hc⟩
    · omega
    · exact leastTo_all hc
/-- Both give the same distance. -/
theorem near_same (s : List api_Span) (x : Int) : ∃ r, span_Near s x = some r ∧ r11_Near s x = some r := by
  unfold span_Near r11_Near
  simp only [check_eq, r11_check_eq, Option.bind_some]
  by_cases h : checkS s = 0
  · obtain ⟨hl, hg⟩ := checkS_good h
    rw [h, show ((0 : Int) != 0) = false from rfl, cond_false, cond_false]
    by_cases hx : -1000000 ≤ x ∧ x ≤ 1000000
    · have e1 : decide (x < -1000000) = false := decide_eq_false (by omega)
      have e2 : decide (x > 1000000) = false := decide_eq_false (by omega)
      simp only [e1, e2, cond_false, Option.bind_some]
      obtain ⟨m, h1, h2⟩ := near_loop s x hl hg hx
      rw [h1]
      rcases h2 with ⟨rfl, rfl⟩ | ⟨hne, hm⟩
      · exact ⟨(0, 6), rfl, rfl⟩
      · have hl0 : 0 < s.length := List.length_pos_iff.2 hne
        have e3 : ((s.length : Int) == 0) = false := beq_eq_false_iff_ne.2 (by omega)
        have hm0 : 0 ≤ m := by obtain ⟨⟨t, _, e⟩, _⟩ := hm; have := dst_nn x t; omega
        have e4 : decide (m < 0) = false := decide_eq_false (by omega)
        simp only [Option.bind_some, e4, cond_false, e3, r11_Has_eq s x (by omega)]
        refine ⟨(m, 0), rfl, ?_⟩
        by_cases hh : has s x
        · simp only [hh, decide_true, cond_true]
          have : Least s x 0 := by
            obtain ⟨t, ht, k1, k2⟩ := hh
            refine ⟨⟨t, ht, by unfold dst; omega⟩, fun u _ => dst_nn x u⟩
          rw [hm.unique this]
        · obtain ⟨n, g1, g2⟩ := r11_near_loop s x hl hg hx hne hh
          simp only [hh, decide_false, cond_false, g1, Option.bind_some]
          rw [hm.unique g2]
    · have hc : (cond (decide (x < -1000000)) (some true) (some (decide (x > 1000000)))) = some true := by
        by_cases h1 : x < -1000000
        · simp [h1]
        · have h2 : x > 1000000 := by omega
          simp [h1, h2]
      simp only [hc, Option.bind_some, cond_true]
      exact ⟨_, rfl, rfl⟩
  · have e : (checkS s != 0) = true := by simpa using h
    simp only [e, cond_true]
    exact ⟨_, rfl, rfl⟩

/-- **THE LAW SpanMoves.** -/
theorem spanMoves (s : List api_Span) (d x : Int) : l11_SpanMoves s d x = some true := by
  unfold l11_SpanMoves
  by_cases hl : (s.length : Int) > 450
  · simp [hl]
  · simp only [hl, decide_false, cond_false]
    obtain ⟨r, n1, n2⟩ := near_same s x
    rw [gaps_eq, r11_gaps_eq, move_eq, r11_move_eq, n1, n2]
    simp only [Option.bind_some]
    rw [same_self _ ?_, same_self _ ?_]
    · simp
    · unfold moveS; split
      · simp
      · split
        · simp
        · split
          · simp
          · split
            · simp only [List.length_map]; omega
            · simp
    · split
      · have := gapsL_len s; simp only; omega
      · simp
end Go.Sh
