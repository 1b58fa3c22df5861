/- PLAIN, SPANS: what the functions answer. -/
import Derived.Test.YtcpogfjlehoabaaPj2
import Derived.Test.YtcpogfjlehoabaaPl4
namespace Go.Sh
open Go Go.Am

noncomputable def joinedS (kind : Int) (p q : List api_Span) : List api_Span := (r11_Joined kind p q).getD []
theorem joinedS_eq (kind : Int) (p q : List api_Span) (hp : p.length ≤ 100000) (hq : q.length ≤ 100000) : r11_Joined kind p q = some (joinedS kind p q) ∧ JoinOf kind p q (joinedS kind p q) := by
  obtain ⟨out, h1, h2⟩ := joined_eq kind p q hp hq
  unfold joinedS
  rw [h1]; exact ⟨rfl, h2⟩

noncomputable def opS (kind : Int) (p q : List api_Span) : List api_Span × Int :=
  if checkS p ≠ 0 then ([], checkS p) else if checkS q ≠ 0 then ([], checkS q) else if 400 < (joinedS kind p q).length then ([], 4) else (joinedS kind p q, 0)

theorem opS_len (kind : Int) (p q : List api_Span) : (opS kind p q).1.length ≤ 400 := by
  unfold opS
  split
  · simp
  · split
    · simp
    · split
      · simp
      · simp only; omega

theorem r11_join_eq (kind : Int) (p q : List api_Span) : r11_Join kind p q = some (opS kind p q) := by
  unfold r11_Join opS
  simp only [r11_check_eq, Option.bind_some]
  by_cases h1 : checkS p = 0
  · have e1 : (checkS p != 0) = false := by simpa using h1
    simp only [e1, cond_false]
    simp only [h1, ne_eq, not_true_eq_false, if_false]
    by_cases h2 : checkS q = 0
    · have e2 : (checkS q != 0) = false := by simpa using h2
      obtain ⟨l1, _⟩ := checkS_good h1
      obtain ⟨l2, _⟩ := checkS_good h2
      obtain ⟨j1, j2⟩ := joinedS_eq kind p q (by omega) (by omega)
      simp only [e2, cond_false, h2, not_true_eq_false, if_false, j1, Option.bind_some]
      by_cases h3 : 400 < (joinedS kind p q).length
      · have e3 : decide (((joinedS kind p q).length : Int) > 400) = true := decide_eq_true (by omega)
        rw [e3, if_pos h3]; rfl
      · have e3 : decide (((joinedS kind p q).length : Int) > 400) = false := decide_eq_false (by omega)
        rw [e3, if_neg h3]; rfl
    · have e2 : (checkS q != 0) = true := by simpa using h2
      simp only [e2, cond_true, h2, not_false_eq_true, if_true]
  · have e1 : (checkS p != 0) = true := by simpa using h1
    simp only [e1, cond_true, h1, ne_eq, not_false_eq_true, if_true]

open Classical in
theorem join_kind (kind : Int) (f : Bool → Bool → Bool) (hf0 : f false false = false) (hf : ∀ a b : Prop, (f (decide a) (decide b) = true ↔ holdsP kind a b)) (p2 : Bool → Bool → Option Bool) (hp2 : ∀ a b, p2 a b = some (f a b))
    (p q : List api_Span) (hp : p.length ≤ 500) (hq : q.length ≤ 500) (vp : ∀ t ∈ p, vld t) (vq : ∀ t ∈ q, vld t) : span_join p q p2 = some (joinedS kind p q) := by
  obtain ⟨out, h1, h2, h3⟩ := join_eq f hf0 p2 hp2 p q hp hq vp vq
  obtain ⟨_, j⟩ := joinedS_eq kind p q (by omega) (by omega)
  rw [h1]
  congr 1
  refine can_unique h2 j.can fun x => ?_
  rw [h3, j.pts, hf]

open Classical in
theorem checked_eq (kind : Int) (f : Bool → Bool → Bool) (hf0 : f false false = false) (hf : ∀ a b : Prop, (f (decide a) (decide b) = true ↔ holdsP kind a b)) (p2 : Bool → Bool → Option Bool) (hp2 : ∀ a b, p2 a b = some (f a b))
    (p q : List api_Span) : span_checked p q p2 = some (opS kind p q) := by
  unfold span_checked opS
  simp only [check_eq, Option.bind_some]
  by_cases h1 : checkS p = 0
  · have e1 : (checkS p != 0) = false := by simpa using h1
    simp only [e1, cond_false]
    simp only [h1, ne_eq, not_true_eq_false, if_false]
    by_cases h2 : checkS q = 0
    · have e2 : (checkS q != 0) = false := by simpa using h2
      obtain ⟨l1, g1⟩ := checkS_good h1
      obtain ⟨l2, g2⟩ := checkS_good h2
      simp only [e2, cond_false, h2, not_true_eq_false, if_false, join_kind kind f hf0 hf p2 hp2 p q (by omega) (by omega) g1.1 g2.1, Option.bind_some]
      by_cases h3 : 400 < (joinedS kind p q).length
      · have e3 : decide (((joinedS kind p q).length : Int) > 400) = true := decide_eq_true (by omega)
        rw [e3, if_pos h3]; rfl
      · have e3 : decide (((joinedS kind p q).length : Int) > 400) = false := decide_eq_false (by omega)
        rw [e3, if_neg h3]; rfl
    · have e2 : (checkS q != 0) = true := by simpa using h2
      simp only [e2, cond_true, h2, not_false_eq_true, if_true]
  · have e1 : (checkS p != 0) = true := by simpa using h1
    simp only [e1, cond_true, h1, ne_eq, not_false_eq_true, if_true]

theorem union_eq (p q : List api_Span) : span_Union p q = some (opS 2 p q) := by
  classical
  unfold span_Union
  rw [checked_eq 2 (fun a b => a || b) rfl (by intro a b; by_cases ha : a <;> by_cases hb : b <;> simp [holdsP, ha, hb]) _ (by intro a b; cases a <;> rfl)]
  rfl
theorem meet_eq (p q : List api_Span) : span_Meet p q = some (opS 1 p q) := by
  classical
  unfold span_Meet
  rw [checked_eq 1 (fun a b => a && b) rfl (by intro a b; by_cases ha : a <;> by_cases hb : b <;> simp [holdsP, ha, hb]) _ (by intro a b; cases a <;> rfl)]
  rfl
theorem minus_eq (p q : List api_Span) : span_Minus p q = some (opS 3 p q) := by
  classical
  unfold span_Minus
  rw [checked_eq 3 (fun a b => a && !b) rfl (by intro a b; by_cases ha : a <;> by_cases hb : b <;> simp [holdsP, ha, hb]) _ (by intro a b; cases a <;> rfl)]
  rfl

/-- **THE LAW SpanJoins.** -/
theorem spanJoins (p q : List api_Span) : l11_SpanJoins p q = some true := by
  unfold l11_SpanJoins
  by_cases h : (cond (decide ((p.length : Int) > 450)) (some true) (some (decide ((q.length : Int) > 450)))) = some true
  · rw [h]; rfl
  · have h : (cond (decide ((p.length : Int) > 450)) (some true) (some (decide ((q.length : Int) > 450)))) = some false := by
      revert h
      cases decide ((p.length : Int) > 450) <;> cases decide ((q.length : Int) > 450) <;> intro h <;> first | rfl | exact absurd rfl h
    rw [h]
    have l1 := opS_len 1 p q
    have l2 := opS_len 2 p q
    have l3 := opS_len 3 p q
    simp only [Option.bind_some, cond_false, union_eq, meet_eq, minus_eq, r11_join_eq, same_self _ (by omega : (opS 1 p q).1.length ≤ 1000000), same_self _ (by omega : (opS 2 p q).1.length ≤ 1000000), same_self _ (by omega : (opS 3 p q).1.length ≤ 1000000), cond_true, beq_self_eq_true]

/-! ### ContainsFunc, Has, Make -/
theorem index_eq (s : List api_Span) (p1 : api_Span → Option Bool) (c : api_Span → Bool) (h : ∀ t, p1 t = some (c t)) (hl : s.length ≤ 1000000) :
    ∃ r, slices_IndexFunc_api_Span_api_Span s p1 = some r ∧ decide (r ≥ 0) = s.any c := by
  have := loop_rng (f := slices_IndexFunc_api_Span_api_Span_L1 s p1) (σ := Unit) (fun k _ => (k : Int)) s.length (fun k _ => ∀ i (h : i < s.length), i < k → c s[i] = false)
    (fun m => ∃ r : Int, (match m with | .inl b22 => some (-1) | .inr x1 => some x1) = some r ∧ decide (r ≥ 0) = s.any c) ?_ ?_ (k0 := 0) (c0 := ()) (by omega) (fun i _ hi => by omega)
  · obtain ⟨m, h1, r, h2, h3⟩ := this
    have h1 : loop (slices_IndexFunc_api_Span_api_Span_L1 s p1) 0 = some m := h1
    exact ⟨r, by unfold slices_IndexFunc_api_Span_api_Span; rw [h1]; exact h2, h3⟩
  · rintro k _ hk hi
    have hb : decide ((k : Int) < (s.length : Int)) = true := decide_eq_true (by omega)
    cases hc : c s[k] with
    | true =>
      refine .inr ⟨.inr (k : Int), ?_, (k : Int), rfl, ?_⟩
      · simp only [slices_IndexFunc_api_Span_api_Span_L1, hb, cond_true, idx_lt hk, Option.bind_some, h, hc]
      · have : s.any c = true := List.any_eq_true.2 ⟨s[k], List.getElem_mem hk, hc⟩
        rw [this]; exact decide_eq_true (by omega)
    | false =>
      refine .inl ⟨(), ?_, ?_⟩
      · simp only [slices_IndexFunc_api_Span_api_Span_L1, hb, cond_true, idx_lt hk, Option.bind_some, h, hc, cond_false]
        rw [w64_id (by omega)]; rfl
      · intro i hi1 hi2
        by_cases e : i = k
        · subst e; exact hc
        · exact hi i hi1 (by omega)
  · rintro _ hi
    have hb : decide ((s.length : Int) < (s.length : Int)) = false := decide_eq_false (by omega)
    refine ⟨.inl (), by simp only [slices_IndexFunc_api_Span_api_Span_L1, hb, cond_false], -1, rfl, ?_⟩
    have : s.any c = false := by
      rw [List.any_eq_false]
      intro t ht
      obtain ⟨i, hi1, rfl⟩ := List.mem_iff_getElem.1 ht
      simp [hi i hi1 hi1]
    rw [this]; rfl

theorem contains_eq (s : List api_Span) (p1 : api_Span → Option Bool) (c : api_Span → Bool) (h : ∀ t, p1 t = some (c t)) (hl : s.length ≤ 1000000) : slices_ContainsFunc_api_Span_api_Span s p1 = some (s.any c) := by
  obtain ⟨r, h1, h2⟩ := index_eq s p1 c h hl
  unfold slices_ContainsFunc_api_Span_api_Span
  rw [h1, Option.bind_some, h2]

open Classical in
theorem has_eq (s : List api_Span) (x : Int) (hl : s.length ≤ 1000000) : span_Has s x = some (decide (has s x)) := by
  unfold span_Has
  rw [contains_eq s _ (fun t => decide (t.Lo ≤ x ∧ x < t.Hi)) (fun t => by
    show (cond (decide (t.Lo ≤ x)) (some (decide (x < t.Hi))) (some false)).bind (fun c1 => some c1) = _
    by_cases h1 : t.Lo ≤ x
    · simp [h1]
    · simp [h1]) hl, Option.bind_some]
  congr 1
  by_cases h : has s x
  · rw [decide_eq_true h, List.any_eq_true]
    obtain ⟨t, ht, h⟩ := h
    exact ⟨t, ht, decide_eq_true h⟩
  · rw [decide_eq_false h, List.any_eq_false]
    intro t ht h1
    exact h ⟨t, ht, of_decide_eq_true h1⟩

open Classical in
noncomputable def makeS (s : List api_Span) : List api_Span × Int := if 400 < s.length then ([], 4) else if ∀ t ∈ s, vld t then (joinedS 2 s [], 0) else ([], 8)

theorem make_join (s : List api_Span) (hl : s.length ≤ 400) (hv : ∀ t ∈ s, vld t) (p2 : Bool → Bool → Option Bool) (hp2 : ∀ a b, p2 a b = some a) : span_join s [] p2 = some (joinedS 2 s []) := by
  classical
  obtain ⟨out, h1, h2, h3⟩ := join_eq (fun a _ => a) rfl p2 hp2 s [] (by omega) (by simp) hv (fun t ht => by cases ht)
  obtain ⟨_, j⟩ := joinedS_eq 2 s [] (by omega) (by simp)
  rw [h1]
  congr 1
  refine can_unique h2 j.can fun x => ?_
  rw [h3, j.pts]
  simp [holdsP, has_nil]

theorem make_eq (s : List api_Span) : span_Make s = some (makeS s) := by
  classical
  unfold span_Make makeS
  by_cases hl : 400 < s.length
  · have e : decide ((s.length : Int) > 400) = true := decide_eq_true (by omega)
    rw [e, if_pos hl]; rfl
  · have e : decide ((s.length : Int) > 400) = false := decide_eq_false (by omega)
    rw [e, if_neg hl, cond_false, contains_eq s _ (fun t => !decide (vld t)) (fun t => by show (span_valid t).bind _ = _; rw [valid_eq]; rfl) (by omega), Option.bind_some]
    by_cases hv : ∀ t ∈ s, vld t
    · have : (s.any fun t => !decide (vld t)) = false := by
        rw [List.any_eq_false]; intro t ht; simp [hv t ht]
      rw [this, cond_false, if_pos hv, make_join s (by omega) hv (fun x0 x1 => span_Make_2 x0 x1) (fun a b => rfl)]
      rfl
    · have : (s.any fun t => !decide (vld t)) = true := by
        rw [List.any_eq_true]
        obtain ⟨t, hv⟩ := Classical.not_forall.1 hv
        obtain ⟨ht, h⟩ := Classical.not_imp.1 hv
        exact ⟨t, ht, by simp [h]⟩
      rw [this, cond_true, if_neg hv]

theorem r11_make_eq (s : List api_Span) : r11_Make s = some (makeS s) := by
  classical
  unfold r11_Make makeS
  by_cases hl : 400 < s.length
  · have e : decide ((s.length : Int) > 400) = true := decide_eq_true (by omega)
    rw [e, if_pos hl]; rfl
  · have e : decide ((s.length : Int) > 400) = false := decide_eq_false (by omega)
    rw [e, if_neg hl, cond_false]
    have := loop_rng (f := r11_Make_L1 s) (σ := Unit) (fun k _ => (k : Int)) s.length (fun k _ => ∀ i (h : i < s.length), i < k → vld s[i])
      (fun m => (match m with | .inl b22 => (r11_Joined 2 s []).bind fun r31 => some (r31, 0) | .inr x1 => some x1) = some (if ∀ t ∈ s, vld t then (joinedS 2 s [], (0 : Int)) else ([], 8))) ?_ ?_ (k0 := 0) (c0 := ()) (by omega) (fun i _ hi => by omega)
    · obtain ⟨m, h1, h2⟩ := this
      have h1 : loop (r11_Make_L1 s) 0 = some m := h1
      rw [h1]; exact h2
    · rintro k _ hk hi
      have hb : decide ((k : Int) < (s.length : Int)) = true := decide_eq_true (by omega)
      by_cases hv : vld s[k]
      · refine .inl ⟨(), ?_, ?_⟩
        · simp only [r11_Make_L1, hb, cond_true, idx_lt hk, Option.bind_some, r11_Valid_eq, hv, decide_true, Bool.not_true, cond_false]
          rw [w64_id (by omega)]; rfl
        · intro i hi1 hi2
          by_cases e : i = k
          · subst e; exact hv
          · exact hi i hi1 (by omega)
      · refine .inr ⟨.inr ([], 8), ?_, ?_⟩
        · simp only [r11_Make_L1, hb, cond_true, idx_lt hk, Option.bind_some, r11_Valid_eq, hv, decide_false, Bool.not_false]
        · rw [if_neg (fun h => hv (h _ (List.getElem_mem hk)))]
    · rintro _ hi
      have hb : decide ((s.length : Int) < (s.length : Int)) = false := decide_eq_false (by omega)
      refine ⟨.inl (), by simp only [r11_Make_L1, hb, cond_false], ?_⟩
      obtain ⟨j1, _⟩ := joinedS_eq 2 s [] (by omega) (by simp)
      have : ∀ t ∈ s, vld t := by
        intro t ht
        obtain ⟨i, hi1, rfl⟩ := List.mem_iff_getElem.1 ht
        exact hi i hi1 hi1
      rw [if_pos this]
      simp only [j1, Option.bind_some]

/-! ### Length -/
def lenL : List api_Span → Int
  | [] => 0
  | t :: s => (t.Hi - t.Lo) + lenL s
theorem lenL_append (a b : List api_Span) : lenL (a ++ b) = lenL a + lenL b := by
  induction a with
  | nil => simp [lenL]
  | cons t a ih => simp only [List.cons_append, lenL, ih]; omega
theorem lenL_bound : ∀ {s : List api_Span}, (∀ t ∈ s, vld t) → 0 ≤ lenL s ∧ lenL s ≤ 2000000 * (s.length : Int)
  | [], _ => by simp [lenL]
  | t :: s, h => by
    obtain ⟨h1, h2⟩ := lenL_bound (fun t ht => h t (List.mem_cons_of_mem _ ht))
    obtain ⟨v1, v2, v3⟩ := h t (by simp)
    simp only [lenL, List.length_cons]
    omega
noncomputable def lengthS (s : List api_Span) : Int × Int := if checkS s = 0 then (lenL s, 0) else (0, checkS s)

theorem len_loop (s : List api_Span) (hl : s.length ≤ 400) (hv : ∀ t ∈ s, vld t) : loop (span_Length_L1 s) (0, 0) = some (lenL s) ∧ loop (r11_Length_L1 s) (0, 0) = some (lenL s) := by
  have hb0 : ∀ k, 0 ≤ lenL (s.take k) ∧ lenL (s.take k) ≤ 800000000 := by
    intro k
    have := lenL_bound (s := s.take k) (fun t ht => hv t (List.mem_of_mem_take ht))
    have : (s.take k).length ≤ 400 := by rw [List.length_take]; omega
    omega
  constructor
  · have := loop_rng (f := span_Length_L1 s) (σ := Int) (fun k c => (c, (k : Int))) s.length (fun k c => c = lenL (s.take k)) (fun r => r = lenL s) ?_ ?_ (k0 := 0) (c0 := 0) (by omega) (by simp [lenL])
    · obtain ⟨b, h1, rfl⟩ := this; exact h1
    · rintro k c hk rfl
      have hb : decide ((k : Int) < (s.length : Int)) = true := decide_eq_true (by omega)
      obtain ⟨v1, v2, v3⟩ := hv _ (List.getElem_mem hk)
      have := hb0 k
      refine .inl ⟨lenL (s.take (k + 1)), ?_, rfl⟩
      simp only [span_Length_L1, hb, cond_true, idx_lt hk, Option.bind_some]
      rw [w64_id (x := s[k].Hi - s[k].Lo) (by omega), w64_id (x := lenL (s.take k) + _) (by omega), w64_id (by omega), List.take_succ_eq_append_getElem hk, lenL_append]
      simp only [lenL, Int.add_zero]; rfl
    · rintro c rfl
      have hb : decide ((s.length : Int) < (s.length : Int)) = false := decide_eq_false (by omega)
      exact ⟨_, by simp only [span_Length_L1, hb, cond_false]; rfl, by rw [List.take_length]⟩
  · have := loop_rng (f := r11_Length_L1 s) (σ := Int) (fun k c => (c, (k : Int))) s.length (fun k c => c = lenL (s.take k)) (fun r => r = lenL s) ?_ ?_ (k0 := 0) (c0 := 0) (by omega) (by simp [lenL])
    · obtain ⟨b, h1, rfl⟩ := this; exact h1
    · rintro k c hk rfl
      have hb : decide ((k : Int) < (s.length : Int)) = true := decide_eq_true (by omega)
      obtain ⟨v1, v2, v3⟩ := hv _ (List.getElem_mem hk)
      have := hb0 k
      refine .inl ⟨lenL (s.take (k + 1)), ?_, rfl⟩
      simp only [r11_Length_L1, hb, cond_true, idx_lt hk, Option.bind_some]
      rw [w64_id (x := lenL (s.take k) + s[k].Hi) (by omega), w64_id (x := lenL (s.take k) + s[k].Hi - _) (by omega), w64_id (by omega), List.take_succ_eq_append_getElem hk, lenL_append]
      have : lenL (s.take k) + s[k].Hi - s[k].Lo = lenL (s.take k) + lenL [s[k]] := by simp only [lenL]; omega
      rw [this]; rfl
    · rintro c rfl
      have hb : decide ((s.length : Int) < (s.length : Int)) = false := decide_eq_false (by omega)
      exact ⟨_, by simp only [r11_Length_L1, hb, cond_false]; rfl, by rw [List.take_length]⟩

theorem length_eq (s : List api_Span) : span_Length s = some (lengthS s) ∧ r11_Length s = some (lengthS s) := by
  unfold span_Length r11_Length lengthS
  simp only [check_eq, r11_check_eq, Option.bind_some]
  by_cases h : checkS s = 0
  · obtain ⟨hl, hg⟩ := checkS_good h
    obtain ⟨a, b⟩ := len_loop s hl hg.1
    have e : (checkS s != 0) = false := by simpa using h
    simp only [e, cond_false, a, b, Option.bind_some]
    simp only [h, if_true]
    exact ⟨trivial, trivial⟩
  · have e : (checkS s != 0) = true := by simpa using h
    simp only [e, cond_true, if_neg h]
    exact ⟨trivial, trivial⟩

theorem makeS_len (s : List api_Span) : (makeS s).1.length ≤ 1000 := by
  classical
  unfold makeS
  split
  · simp
  · split
    · obtain ⟨_, j⟩ := joinedS_eq 2 s [] (by omega) (by simp)
      have := j.len
      simp only [List.length_nil] at this
      simp only; omega
    · simp

/-- **THE LAW SpanMakes.** -/
theorem spanMakes (s : List api_Span) (x : Int) : l11_SpanMakes s x = some true := by
  classical
  unfold l11_SpanMakes
  by_cases hl : (s.length : Int) > 450
  · simp [hl]
  · have hc : l11_copied s = some s := by
      unfold l11_copied
      rw [app_of (by simp only [List.length_nil]; omega)]; rfl
    obtain ⟨a, b⟩ := length_eq s
    have := makeS_len s
    simp only [hl, decide_false, cond_false, hc, Option.bind_some, make_eq, r11_make_eq, a, b, check_eq, r11_check_eq, same_self _ (by omega : (makeS s).1.length ≤ 1000000), beq_self_eq_true, cond_true, has_eq s x (by omega), r11_Has_eq s x (by omega), same_self s (by omega)]
end Go.Sh
