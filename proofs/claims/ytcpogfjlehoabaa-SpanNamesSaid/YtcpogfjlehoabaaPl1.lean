/- PLAIN, SPANS: sets of integers as canonical lists. -/
import Derived.Test.YtcpogfjlehoabaaPl0
import Derived.Test.YtcpogfjlehoabaaPspan
namespace Go.Sh
open Go Go.Am

/-! ### The theory -/
def has (s : List api_Span) (x : Int) : Prop := ∃ t ∈ s, t.Lo ≤ x ∧ x < t.Hi
def Can (s : List api_Span) : Prop := (∀ t ∈ s, t.Lo < t.Hi) ∧ s.Pairwise (fun a b => a.Hi < b.Lo)
def vld (t : api_Span) : Prop := t.Lo < t.Hi ∧ -1000000 ≤ t.Lo ∧ t.Hi ≤ 1000000
instance (t : api_Span) : Decidable (vld t) := by unfold vld; exact inferInstance
def Good (s : List api_Span) : Prop := (∀ t ∈ s, vld t) ∧ s.Pairwise (fun a b => a.Hi < b.Lo)

theorem Good.can {s : List api_Span} (h : Good s) : Can s := ⟨fun t ht => (h.1 t ht).1, h.2⟩
theorem has_nil (x : Int) : ¬ has [] x := by rintro ⟨t, h, _⟩; cases h
theorem has_cons {a : api_Span} {s : List api_Span} {x : Int} : has (a :: s) x ↔ (a.Lo ≤ x ∧ x < a.Hi) ∨ has s x := by
  constructor
  · rintro ⟨t, ht, h⟩
    rcases List.mem_cons.1 ht with rfl | ht
    · exact .inl h
    · exact .inr ⟨t, ht, h⟩
  · rintro (h | ⟨t, ht, h⟩)
    · exact ⟨a, by simp, h⟩
    · exact ⟨t, by simp [ht], h⟩
theorem has_append {a b : List api_Span} {x : Int} : has (a ++ b) x ↔ has a x ∨ has b x := by
  induction a with
  | nil => simp [has_nil]
  | cons t r ih => simp only [List.cons_append, has_cons, ih, or_assoc]
theorem Can.tail {a : api_Span} {s : List api_Span} (h : Can (a :: s)) : Can s := ⟨fun t ht => h.1 t (by simp [ht]), (List.pairwise_cons.1 h.2).2⟩
theorem Can.lt {a : api_Span} {s : List api_Span} (h : Can (a :: s)) : ∀ t ∈ s, a.Hi < t.Lo := (List.pairwise_cons.1 h.2).1
theorem Can.tail_gt {a : api_Span} {s : List api_Span} (h : Can (a :: s)) {x : Int} (hx : has s x) : a.Hi < x := by
  obtain ⟨t, ht, h1, h2⟩ := hx
  have := h.lt t ht
  omega

/-- **A canonical list is known by its points.** -/
theorem can_unique : ∀ {s t : List api_Span}, Can s → Can t → (∀ x, has s x ↔ has t x) → s = t
  | [], [], _, _, _ => rfl
  | [], b :: t, _, ht, h => absurd ((h b.Lo).2 (has_cons.2 (.inl ⟨Int.le_refl _, ht.1 b (by simp)⟩))) (has_nil _)
  | a :: s, [], hs, _, h => absurd ((h a.Lo).1 (has_cons.2 (.inl ⟨Int.le_refl _, hs.1 a (by simp)⟩))) (has_nil _)
  | a :: s, b :: t, hs, ht, h => by
    have ha := hs.1 a (by simp)
    have hb := ht.1 b (by simp)
    have lo : ∀ {a b : api_Span} {s t : List api_Span}, Can (a :: s) → Can (b :: t) → (∀ x, has (a :: s) x ↔ has (b :: t) x) → b.Lo ≤ a.Lo := by
      intro a b s t hs ht h
      rcases has_cons.1 ((h a.Lo).1 (has_cons.2 (.inl ⟨Int.le_refl _, hs.1 a (by simp)⟩))) with h1 | h1
      · exact h1.1
      · have := ht.tail_gt h1; have := ht.1 b (by simp); omega
    have e1 : a.Lo = b.Lo := Int.le_antisymm (lo ht hs fun x => (h x).symm) (lo hs ht h)
    have hi : ∀ {a b : api_Span} {s t : List api_Span}, Can (a :: s) → Can (b :: t) → (∀ x, has (a :: s) x ↔ has (b :: t) x) → a.Lo = b.Lo → b.Hi ≤ a.Hi := by
      intro a b s t hs ht h e
      have ha := hs.1 a (by simp)
      have hb := ht.1 b (by simp)
      refine Int.not_lt.1 fun hlt => ?_
      rcases has_cons.1 ((h a.Hi).2 (has_cons.2 (.inl ⟨by omega, hlt⟩))) with h1 | h1
      · omega
      · have := hs.tail_gt h1; omega
    have e2 : a.Hi = b.Hi := Int.le_antisymm (hi ht hs (fun x => (h x).symm) e1.symm) (hi hs ht h e1)
    have e : a = b := by cases a; cases b; simp at e1 e2; simp [e1, e2]
    subst e
    congr 1
    refine can_unique hs.tail ht.tail fun x => ⟨fun hx => ?_, fun hx => ?_⟩
    · have h1 := hs.tail_gt hx
      rcases has_cons.1 ((h x).1 (has_cons.2 (.inr hx))) with h2 | h2
      · omega
      · exact h2
    · have h1 := ht.tail_gt hx
      rcases has_cons.1 ((h x).2 (has_cons.2 (.inr hx))) with h2 | h2
      · omega
      · exact h2

/-! ### The contracts: checks -/
theorem valid_eq (t : api_Span) : span_valid t = some (decide (vld t)) := by
  unfold span_valid vld
  by_cases h1 : t.Lo < t.Hi <;> by_cases h2 : -1000000 ≤ t.Lo <;> by_cases h3 : t.Hi ≤ 1000000 <;> simp [h1, h2, h3]
theorem r11_Valid_eq (t : api_Span) : r11_Valid t = some (decide (vld t)) := valid_eq t

open Classical in
noncomputable def checkS (s : List api_Span) : Int := if 400 < s.length then 4 else if Good s then 0 else 8

/-- What was seen so far is good. -/
def GoodTo (s : List api_Span) (k : Nat) : Prop := (∀ i (h : i < s.length), i < k → vld s[i]) ∧ ∀ i (h : i + 1 < s.length), i + 1 < k → s[i].Hi < s[i+1].Lo
theorem goodTo_all {s : List api_Span} (h : GoodTo s s.length) : Good s := by
  refine ⟨fun t ht => ?_, ?_⟩
  · obtain ⟨i, hi, rfl⟩ := List.mem_iff_getElem.1 ht
    exact h.1 i hi hi
  · have key : ∀ i j (hi : i < s.length) (hj : j < s.length), i < j → s[i].Hi < s[j].Lo := by
      intro i j hi hj hij
      induction j with
      | zero => omega
      | succ j ih =>
        have h1 := h.2 j hj hj
        by_cases e : i = j
        · subst e; exact h1
        · have h2 := ih (by omega) (by omega)
          have h3 := (h.1 j (by omega) (by omega)).1
          omega
    rw [List.pairwise_iff_getElem]
    exact key
theorem Good.get {s : List api_Span} (h : Good s) (i : Nat) (hi : i < s.length) : vld s[i] := h.1 _ (List.getElem_mem hi)
theorem Good.nxt {s : List api_Span} (h : Good s) (i j : Nat) (hi : i < s.length) (hj : j < s.length) (hij : i < j) : s[i].Hi < s[j].Lo := List.pairwise_iff_getElem.1 h.2 i j hi hj hij

theorem check_eq (s : List api_Span) : span_Check s = some (checkS s) := by
  unfold span_Check checkS
  by_cases hl : 400 < s.length
  · have : decide ((s.length : Int) > 400) = true := by simp; omega
    simp [this, hl]
  · have hd : decide ((s.length : Int) > 400) = false := by simp; omega
    simp only [hd, hl, if_false, cond_false]
    have := loop_rng (f := span_Check_L1 s) (σ := Unit) (fun k _ => (k : Int)) s.length (fun k _ => GoodTo s k) (fun b => (b = .inl () ∧ Good s) ∨ (b = .inr 8 ∧ ¬ Good s)) ?_ ?_ (k0 := 0) (c0 := ()) (by omega) ⟨fun i _ h => by omega, fun i _ h => by omega⟩
    · obtain ⟨b, h1, h2⟩ := this
      have h1 : loop (span_Check_L1 s) 0 = some b := h1
      rw [h1]
      rcases h2 with ⟨rfl, h2⟩ | ⟨rfl, h2⟩ <;> simp [h2]
    · intro k _ hk hg
      have hb : decide ((k : Int) < (s.length : Int)) = true := by simp; omega
      simp only [span_Check_L1, hb, cond_true, idx_lt hk, Option.bind_some, valid_eq]
      have bad : ¬ Good s → ∃ b, (some (Sum.inr (Sum.inr 8)) : Option (Int ⊕ (Unit ⊕ Int))) = some (.inr b) ∧ ((b = .inl () ∧ Good s) ∨ (b = .inr 8 ∧ ¬ Good s)) := fun h => ⟨_, rfl, .inr ⟨rfl, h⟩⟩
      by_cases hv : vld s[k]
      · simp only [hv, decide_true, Bool.not_true, cond_false]
        by_cases h0 : k = 0
        · subst h0
          refine .inl ⟨(), by simp [w64_id], ⟨fun i hi h => ?_, fun i hi h => by omega⟩⟩
          (obtain rfl : i = 0 := by omega)
          exact hv
        · obtain ⟨j, rfl⟩ : ∃ j, k = j + 1 := ⟨k - 1, by omega⟩
          have hp : decide (((j + 1 : Nat) : Int) > 0) = true := decide_eq_true (by omega)
          have hj : idx s (w64 (((j + 1 : Nat) : Int) - 1)) = some (s[j]'(by omega)) := by
            rw [w64_id (by omega)]; exact idx_of (by omega) (by omega)
          simp only [hp, cond_true, hj, Option.bind_some]
          by_cases hlt : s[j].Hi < s[j+1].Lo
          · have : decide (s[j].Hi ≥ s[j+1].Lo) = false := by simp; omega
            simp only [this, cond_false]
            rw [w64_id (by omega)]
            refine .inl ⟨(), rfl, ⟨fun i hi h => ?_, fun i hi h => ?_⟩⟩
            · by_cases e : i = j + 1
              · subst e; exact hv
              · exact hg.1 i hi (by omega)
            · by_cases e : i = j
              · subst e; exact hlt
              · exact hg.2 i hi (by omega)
          · have : decide (s[j].Hi ≥ s[j+1].Lo) = true := by simp; omega
            simp only [this, cond_true]
            exact .inr (bad fun h => hlt (h.nxt j (j + 1) (by omega) hk (by omega)))
      · simp only [hv, decide_false, Bool.not_false, cond_true, Option.bind_some]
        exact .inr (bad fun h => hv (h.get k hk))
    · intro _ hg
      have hb : decide ((s.length : Int) < (s.length : Int)) = false := by simp
      simp only [span_Check_L1, hb, cond_false]
      exact ⟨_, rfl, .inl ⟨rfl, goodTo_all hg⟩⟩
theorem r11_valid_fun : r11_Valid = span_valid := rfl
theorem r11_Check_L1_eq (s : List api_Span) : r11_Check_L1 s = span_Check_L1 s := by
  funext a
  unfold r11_Check_L1 span_Check_L1
  cases h : idx s a <;> simp [h, r11_valid_fun]
theorem r11_check_eq (s : List api_Span) : r11_Check s = some (checkS s) := by
  rw [← check_eq]; unfold r11_Check span_Check; rw [r11_Check_L1_eq]

/-! ### Has -/
open Classical in
theorem r11_Has_eq (s : List api_Span) (x : Int) (hl : s.length ≤ 1000000) : r11_Has s x = some (decide (has s x)) := by
  have := loop_rng (f := r11_Has_L1 s x) (σ := Unit) (fun k _ => (k : Int)) s.length (fun k _ => ∀ i (h : i < s.length), i < k → ¬ (s[i].Lo ≤ x ∧ x < s[i].Hi)) (fun b => (b = .inl () ∧ ¬ has s x) ∨ (b = .inr true ∧ has s x)) ?_ ?_ (k0 := 0) (c0 := ()) (by omega) (fun i _ h => by omega)
  · obtain ⟨b, h1, h2⟩ := this
    have h1 : loop (r11_Has_L1 s x) 0 = some b := h1
    unfold r11_Has
    rw [h1]
    rcases h2 with ⟨rfl, h2⟩ | ⟨rfl, h2⟩ <;> simp [h2]
  · intro k _ hk hg
    have hb : decide ((k : Int) < (s.length : Int)) = true := decide_eq_true (by omega)
    simp only [r11_Has_L1, hb, cond_true, idx_lt hk, Option.bind_some]
    by_cases h1 : s[k].Lo ≤ x <;> by_cases h2 : x < s[k].Hi
    · exact .inr ⟨.inr true, by simp [h1, h2], .inr ⟨rfl, s[k], List.getElem_mem hk, h1, h2⟩⟩
    all_goals
      refine .inl ⟨(), by simp [h1, h2]; exact w64_id (by omega), fun i hi h => ?_⟩
      by_cases e : i = k
      · subst e; omega
      · exact hg i hi (by omega)
  · intro _ hg
    have hb : decide ((s.length : Int) < (s.length : Int)) = false := decide_eq_false (by omega)
    simp only [r11_Has_L1, hb, cond_false]
    refine ⟨_, rfl, .inl ⟨rfl, ?_⟩⟩
    rintro ⟨t, ht, h⟩
    obtain ⟨i, hi, rfl⟩ := List.mem_iff_getElem.1 ht
    exact hg i hi hi h
end Go.Sh
