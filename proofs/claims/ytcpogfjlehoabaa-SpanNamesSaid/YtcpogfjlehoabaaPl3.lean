/- PLAIN, SPANS (3): canonical lists out of cuts. -/
import Derived.Test.YtcpogfjlehoabaaPl2
namespace Go.Sh
open Go Go.Am

/-- A piece is put behind the last span, or lengthens it. -/
def addS (c : List api_Span) (a b : Int) : List api_Span := match c.getLast? with
  | some t => if t.Hi = a then c.dropLast ++ [{ Lo := t.Lo, Hi := b }] else c ++ [{ Lo := a, Hi := b }]
  | none => [{ Lo := a, Hi := b }]
theorem addS_nil (a b : Int) : addS [] a b = [{ Lo := a, Hi := b }] := rfl
theorem addS_eq {c : List api_Span} {t : api_Span} {b : Int} : addS (c ++ [t]) t.Hi b = c ++ [{ Lo := t.Lo, Hi := b }] := by simp [addS]
theorem addS_ne {c : List api_Span} {t : api_Span} {a b : Int} (h : t.Hi ≠ a) : addS (c ++ [t]) a b = (c ++ [t]) ++ [{ Lo := a, Hi := b }] := by simp [addS, h]
theorem snoc_cases {α : Type} (c : List α) : c = [] ∨ ∃ d t, c = d ++ [t] := by
  rcases List.eq_nil_or_concat c with h | ⟨d, t, h⟩
  · exact .inl h
  · exact .inr ⟨d, t, by simpa using h⟩

theorem can_snoc {d : List api_Span} {t : api_Span} : Can (d ++ [t]) ↔ Can d ∧ t.Lo < t.Hi ∧ ∀ s ∈ d, s.Hi < t.Lo := by
  unfold Can
  constructor
  · rintro ⟨h1, h2⟩
    rw [List.pairwise_append] at h2
    exact ⟨⟨fun s hs => h1 s (by simp [hs]), h2.1⟩, h1 t (by simp), fun s hs => h2.2.2 s hs t (by simp)⟩
  · rintro ⟨⟨h1, h2⟩, h3, h4⟩
    refine ⟨fun s hs => ?_, ?_⟩
    · rcases List.mem_append.1 hs with hs | hs
      · exact h1 s hs
      · simp at hs; subst hs; exact h3
    · rw [List.pairwise_append]
      exact ⟨h2, by simp, fun s hs u hu => by simp at hu; subst hu; exact h4 s hs⟩
theorem has_snoc {d : List api_Span} {t : api_Span} {x : Int} : has (d ++ [t]) x ↔ has d x ∨ (t.Lo ≤ x ∧ x < t.Hi) := by
  rw [has_append, has_cons]; simp [has_nil]

theorem addS_spec {c : List api_Span} {a b : Int} (hc : Can c) (hh : ∀ t ∈ c, t.Hi ≤ a) (hab : a < b) :
    Can (addS c a b) ∧ (∀ x, has (addS c a b) x ↔ has c x ∨ (a ≤ x ∧ x < b)) ∧ (∀ t ∈ addS c a b, t.Hi ≤ b) ∧ (addS c a b).length ≤ c.length + 1 ∧
    (∀ t ∈ addS c a b, (t.Lo = a ∨ ∃ u ∈ c, t.Lo = u.Lo) ∧ (t.Hi = b ∨ ∃ u ∈ c, t.Hi = u.Hi)) := by
  rcases snoc_cases c with rfl | ⟨d, t, rfl⟩
  · rw [addS_nil]
    refine ⟨⟨by simpa using hab, by simp⟩, fun x => ?_, by simp, by simp, by simp⟩
    rw [has_cons]; simp [has_nil]
  · have h1 := can_snoc.1 hc
    have h2 : t.Hi ≤ a := hh t (by simp)
    by_cases e : t.Hi = a
    · subst e
      rw [addS_eq]
      refine ⟨can_snoc.2 ⟨h1.1, by simp; omega, h1.2.2⟩, fun x => ?_, fun s hs => ?_, by simp, fun s hs => ?_⟩
      · rw [has_snoc, has_snoc]; by_cases hd : has d x <;> simp only [hd, true_or, false_or] <;> omega
      · rcases List.mem_append.1 hs with hs | hs
        · have := hh s (by simp [hs]); omega
        · simp at hs; subst hs; simp
      · rcases List.mem_append.1 hs with hs | hs
        · exact ⟨.inr ⟨s, by simp [hs], rfl⟩, .inr ⟨s, by simp [hs], rfl⟩⟩
        · simp at hs; subst hs; exact ⟨.inr ⟨t, by simp, rfl⟩, .inl rfl⟩
    · rw [addS_ne e]
      refine ⟨can_snoc.2 ⟨hc, hab, fun s hs => ?_⟩, fun x => ?_, fun s hs => ?_, by simp, fun s hs => ?_⟩
      · rcases List.mem_append.1 hs with hs | hs
        · have := h1.2.2 s hs; simp only; omega
        · simp at hs; subst hs; simp only; omega
      · rw [has_snoc]
      · rcases List.mem_append.1 hs with hs | hs
        · have := hh s hs; omega
        · simp at hs; subst hs; simp
      · rcases List.mem_append.1 hs with hs | hs
        · exact ⟨.inr ⟨s, hs, rfl⟩, .inr ⟨s, hs, rfl⟩⟩
        · simp at hs; subst hs; exact ⟨.inl rfl, .inl rfl⟩

theorem set_last {d : List api_Span} {t u : api_Span} : (d ++ [t]).set d.length u = d ++ [u] := by
  induction d with
  | nil => rfl
  | cons x d ih => simp [ih]

/-- The list out of cuts and bools. -/
structure CanonOf (cuts : List Int) (ins : List Bool) (k : Nat) (c : List api_Span) : Prop where
  can : Can c
  pts : ∀ x, has c x ↔ ∃ i, ∃ (h : i + 1 < cuts.length) (h' : i < ins.length), i < k ∧ ins[i] = true ∧ cuts[i] ≤ x ∧ x < cuts[i + 1]
  hi : ∀ t ∈ c, ∃ (h : k < cuts.length), t.Hi ≤ cuts[k]
  len : c.length ≤ k
  ends : ∀ t ∈ c, t.Lo ∈ cuts ∧ t.Hi ∈ cuts

theorem canon_eq (cuts : List Int) (ins : List Bool) (hs : cuts.Pairwise (· < ·)) (hl : cuts.length ≤ 1000000) (hi : cuts.length ≤ ins.length + 1) :
    ∃ c, r11_Canon cuts ins = some c ∧ CanonOf cuts ins (cuts.length - 1) c := by
  have := loop_rng (f := r11_Canon_L1 cuts ins) (σ := List api_Span) (fun k c => ((k : Int), c)) (cuts.length - 1) (fun k c => CanonOf cuts ins k c) (fun c => CanonOf cuts ins (cuts.length - 1) c) ?_ ?_ (k0 := 0) (c0 := []) (by omega)
    ⟨⟨by simp, by simp⟩, fun x => ⟨fun h => absurd h (has_nil x), fun ⟨i, _, _, h, _⟩ => by omega⟩, by simp, by simp, by simp⟩
  · obtain ⟨b, h1, h2⟩ := this
    have h1 : loop (r11_Canon_L1 cuts ins) (0, []) = some b := h1
    exact ⟨b, by unfold r11_Canon; rw [h1]; rfl, h2⟩
  · intro k c hk hc
    have hw : w64 ((k : Int) + 1) = ((k + 1 : Nat) : Int) := by rw [w64_id (by omega)]; omega
    have hk1 : k + 1 < cuts.length := by omega
    have hk0 : k < cuts.length := by omega
    have hki : k < ins.length := by omega
    have hb : decide (((k + 1 : Nat) : Int) < (cuts.length : Int)) = true := decide_eq_true (by omega)
    refine .inl ?_
    simp only [r11_Canon_L1, hw, hb, cond_true, idx_lt hki, idx_lt hk1, idx_lt hk0, Option.bind_some]
    have hlt : cuts[k] < cuts[k+1] := List.pairwise_iff_getElem.1 hs k (k+1) hk0 hk1 (by omega)
    have hhi : ∀ t ∈ c, t.Hi ≤ cuts[k] := fun t ht => (hc.hi t ht).2
    cases hin : ins[k] with
    | false =>
      refine ⟨c, by simp, hc.can, fun x => ?_, fun t ht => ⟨hk1, by have := hhi t ht; omega⟩, by have := hc.len; omega, hc.ends⟩
      rw [hc.pts]
      constructor
      · rintro ⟨i, h1, h2, h3, h4⟩; exact ⟨i, h1, h2, by omega, h4⟩
      · rintro ⟨i, h1, h2, h3, h4⟩
        by_cases e : i = k
        · subst e; rw [hin] at h4; simp at h4
        · exact ⟨i, h1, h2, by omega, h4⟩
    | true =>
      have hstep : (cond (!true) (some c) ((cond (decide ((c.length : Int) > 0)) ((idx c (w64 ((c.length : Int) - 1))).bind fun v125 => some (v125.Hi == cuts[k])) (some false)).bind fun c111 => cond c111 ((idx c (w64 ((c.length : Int) - 1))).bind fun v131 => some (c.set (w64 ((c.length : Int) - 1)).toNat ({ Lo := v131.Lo, Hi := cuts[k+1] } : api_Span))) ((app 16 c [({ Lo := cuts[k], Hi := cuts[k+1] } : api_Span)]).bind fun z137 => some z137))) = some (addS c cuts[k] cuts[k+1]) := by
        have hap : ∀ y, app 16 c [y] = some (c ++ [y]) := fun y => app_of (by have := hc.len; simp; omega)
        rcases snoc_cases c with rfl | ⟨d, t, rfl⟩
        · simp [hap, addS]
        · have h0 : decide ((((d ++ [t]).length : Nat) : Int) > 0) = true := decide_eq_true (by rw [List.length_append, List.length_singleton]; omega)
          have hl' := hc.len
          have hlen : (((d ++ [t]).length : Nat) : Int) = d.length + 1 := by simp
          have hl2 : d.length + 1 ≤ k := by simpa using hl'
          have h1 : w64 (((d ++ [t]).length : Int) - 1) = (d.length : Int) := by rw [hlen, w64_id (by omega)]; omega
          have h2 : idx (d ++ [t]) (d.length : Int) = some t := by rw [idx_lt (by simp)]; simp
          simp only [Bool.not_true, cond_false, h0, cond_true, h1, h2, Option.bind_some, Int.toNat_natCast, set_last, hap]
          by_cases e : t.Hi = cuts[k]
          · simp [e, ← addS_eq]
          · have e' : (t.Hi == cuts[k]) = false := by simpa using e
            simp only [e', cond_false, addS_ne e]
      rw [hstep]
      obtain ⟨a1, a2, a3, a4, a5⟩ := addS_spec hc.can hhi hlt
      refine ⟨_, rfl, a1, fun x => ?_, fun t ht => ⟨hk1, a3 t ht⟩, by have := hc.len; omega, fun t ht => ?_⟩
      · rw [a2, hc.pts]
        constructor
        · rintro (⟨i, h1, h2, h3, h4⟩ | h)
          · exact ⟨i, h1, h2, by omega, h4⟩
          · exact ⟨k, hk1, hki, by omega, hin, h⟩
        · rintro ⟨i, h1, h2, h3, h4⟩
          by_cases e : i = k
          · subst e; exact .inr h4.2
          · exact .inl ⟨i, h1, h2, by omega, h4⟩
      · obtain ⟨b1, b2⟩ := a5 t ht
        constructor
        · rcases b1 with b1 | ⟨u, hu, b1⟩
          · rw [b1]; exact List.getElem_mem hk0
          · rw [b1]; exact (hc.ends u hu).1
        · rcases b2 with b2 | ⟨u, hu, b2⟩
          · rw [b2]; exact List.getElem_mem hk1
          · rw [b2]; exact (hc.ends u hu).2
  · intro c hc
    refine ⟨c, ?_, hc⟩
    have hw : decide (w64 (((cuts.length - 1 : Nat) : Int) + 1) < (cuts.length : Int)) = false := by
      rw [w64_id (by omega)]; exact decide_eq_false (by omega)
    simp only [r11_Canon_L1, hw, cond_false]

/-! ### Joined -/
def holdsP (kind : Int) (a b : Prop) : Prop := (kind = 1 ∧ a ∧ b) ∨ (kind = 2 ∧ (a ∨ b)) ∨ (kind ≠ 1 ∧ kind ≠ 2 ∧ a ∧ ¬ b)
open Classical in
theorem holds_eq (kind : Int) (a b : Prop) : r11_Holds kind (decide a) (decide b) = some (decide (holdsP kind a b)) := by
  unfold r11_Holds holdsP
  by_cases h1 : kind = 1
  · subst h1; by_cases ha : a <;> by_cases hb : b <;> simp [ha, hb]
  · by_cases h2 : kind = 2
    · subst h2; by_cases ha : a <;> by_cases hb : b <;> simp [ha, hb]
    · have e1 : (kind == 1) = false := by simpa using h1
      have e2 : (kind == 2) = false := by simpa using h2
      by_cases ha : a <;> by_cases hb : b <;> simp [ha, hb, h1, h2, e1, e2]
theorem seg_has {cuts : List Int} (hs : cuts.Pairwise (· < ·)) {p : List api_Span} (hm : ∀ x ∈ ends p, x ∈ cuts) {i : Nat} (h : i + 1 < cuts.length) {x : Int} (h1 : cuts[i] ≤ x) (h2 : x < cuts[i + 1]) : has p x ↔ has p cuts[i] := by
  have mono : ∀ a b (ha : a < cuts.length) (hb : b < cuts.length), cuts[a] < cuts[b] → a < b := by
    intro a b ha hb hlt
    refine Nat.not_le.1 fun hle => ?_
    by_cases e : a = b
    · subst e; omega
    · have := List.pairwise_iff_getElem.1 hs b a hb ha (by omega); omega
  have mono' : ∀ a b (ha : a < cuts.length) (hb : b < cuts.length), a ≤ b → cuts[a] ≤ cuts[b] := by
    intro a b ha hb hle
    by_cases e : a = b
    · subst e; omega
    · have := List.pairwise_iff_getElem.1 hs a b ha hb (by omega); omega
  constructor
  · rintro ⟨t, ht, k1, k2⟩
    refine ⟨t, ht, ?_, by omega⟩
    obtain ⟨j, hj, e⟩ := List.mem_iff_getElem.1 (hm t.Lo (mem_ends.2 ⟨t, ht, .inl rfl⟩))
    have := mono j (i + 1) hj h (by omega)
    have := mono' j i hj (by omega) (by omega)
    omega
  · rintro ⟨t, ht, k1, k2⟩
    refine ⟨t, ht, by omega, ?_⟩
    obtain ⟨j, hj, e⟩ := List.mem_iff_getElem.1 (hm t.Hi (mem_ends.2 ⟨t, ht, .inr rfl⟩))
    have := mono i j (by omega) hj (by omega)
    have := mono' (i + 1) j h hj (by omega)
    omega
/-- A number that some span has lies between two cuts. -/
theorem has_seg {cuts : List Int} (hs : cuts.Pairwise (· < ·)) {p : List api_Span} (hm : ∀ x ∈ ends p, x ∈ cuts) {x : Int} (h : has p x) : ∃ i, ∃ (h : i + 1 < cuts.length), cuts[i] ≤ x ∧ x < cuts[i + 1] := by
  obtain ⟨t, ht, k1, k2⟩ := h
  obtain ⟨a, ha, ea⟩ := List.mem_iff_getElem.1 (hm t.Lo (mem_ends.2 ⟨t, ht, .inl rfl⟩))
  obtain ⟨b, hb, eb⟩ := List.mem_iff_getElem.1 (hm t.Hi (mem_ends.2 ⟨t, ht, .inr rfl⟩))
  have key : ∀ n j (hj : j < cuts.length), j + n = b → cuts[j] ≤ x → ∃ i, ∃ (h : i + 1 < cuts.length), cuts[i] ≤ x ∧ x < cuts[i + 1] := by
    intro n
    induction n with
    | zero => intro j hj e h1; simp at e; subst e; omega
    | succ n ih =>
      intro j hj e h1
      by_cases h2 : x < cuts[j+1]'(by omega)
      · exact ⟨j, by omega, h1, h2⟩
      · exact ih (j + 1) (by omega) (by omega) (by omega)
  have hab : a ≤ b := by
    refine Nat.not_lt.1 fun hlt => ?_
    have := List.pairwise_iff_getElem.1 hs b a hb ha hlt
    omega
  exact key (b - a) a ha (by omega) (by omega)

structure JoinOf (kind : Int) (p q out : List api_Span) : Prop where
  can : Can out
  pts : ∀ x, has out x ↔ holdsP kind (has p x) (has q x)
  ends : ∀ t ∈ out, (t.Lo ∈ ends p ∨ t.Lo ∈ ends q) ∧ (t.Hi ∈ ends p ∨ t.Hi ∈ ends q)
  len : out.length ≤ 2 * (p.length + q.length)

open Classical in
theorem joined_L1 (cuts : List Int) (p q : List api_Span) (kind : Int) (hc : cuts.length ≤ 1000000) (hp : p.length ≤ 100000) (hq : q.length ≤ 100000) :
    loop (r11_Joined_L1 cuts p q kind) (0, []) = some (cuts.map fun x => decide (holdsP kind (has p x) (has q x))) := by
  have := loop_rng (f := r11_Joined_L1 cuts p q kind) (σ := List Bool) (fun k c => ((k : Int), c)) cuts.length (fun k c => c = (cuts.take k).map fun x => decide (holdsP kind (has p x) (has q x))) (fun t => t = cuts.map fun x => decide (holdsP kind (has p x) (has q x))) ?_ ?_ (k0 := 0) (c0 := []) (by omega) (by simp)
  · obtain ⟨b, h1, rfl⟩ := this; exact h1
  · rintro k c hk rfl
    have hb : decide ((k : Int) < (cuts.length : Int)) = true := decide_eq_true (by omega)
    refine .inl ⟨_, ?_, rfl⟩
    simp only [r11_Joined_L1, hb, cond_true, idx_lt hk, Option.bind_some, r11_Has_eq p _ (by omega : p.length ≤ 1000000), r11_Has_eq q _ (by omega : q.length ≤ 1000000), holds_eq]
    rw [app_of (by simp; omega), w64_id (by omega), List.take_succ_eq_append_getElem hk, List.map_append]
    rfl
  · rintro c rfl
    have hb : decide ((cuts.length : Int) < (cuts.length : Int)) = false := decide_eq_false (by omega)
    simp [r11_Joined_L1, hb]

open Classical in
theorem joined_eq (kind : Int) (p q : List api_Span) (hp : p.length ≤ 100000) (hq : q.length ≤ 100000) : ∃ out, r11_Joined kind p q = some out ∧ JoinOf kind p q out := by
  obtain ⟨cuts, h1, ⟨hs, hm⟩, hlen⟩ := ends_eq p q hp hq
  obtain ⟨c, h2, h3⟩ := canon_eq cuts (cuts.map fun x => decide (holdsP kind (has p x) (has q x))) hs (by omega) (by rw [List.length_map]; omega)
  refine ⟨c, ?_, h3.can, fun x => ?_, fun t ht => ?_, by have := h3.len; omega⟩
  · unfold r11_Joined
    rw [h1]
    simp only [Option.bind_some, joined_L1 cuts p q kind (by omega) hp hq, h2]
  · have mp : ∀ x ∈ ends p, x ∈ cuts := fun x hx => (hm x).2 (List.mem_append_left _ hx)
    have mq : ∀ x ∈ ends q, x ∈ cuts := fun x hx => (hm x).2 (List.mem_append_right _ hx)
    rw [h3.pts]
    constructor
    · rintro ⟨i, k1, k2, _, k3, k4, k5⟩
      simp only [List.getElem_map, decide_eq_true_eq] at k3
      rw [seg_has hs mp k1 k4 k5, seg_has hs mq k1 k4 k5]; exact k3
    · intro h
      have hor : has p x ∨ has q x := by
        rcases h with ⟨_, h, _⟩ | ⟨_, h⟩ | ⟨_, _, h, _⟩
        · exact .inl h
        · exact h
        · exact .inl h
      obtain ⟨i, k1, k4, k5⟩ : ∃ i, ∃ (h : i + 1 < cuts.length), cuts[i] ≤ x ∧ x < cuts[i + 1] := hor.elim (has_seg hs mp) (has_seg hs mq)
      refine ⟨i, k1, by rw [List.length_map]; omega, by omega, ?_, k4, k5⟩
      simp only [List.getElem_map, decide_eq_true_eq]
      rw [← seg_has hs mp k1 k4 k5, ← seg_has hs mq k1 k4 k5]; exact h
  · obtain ⟨a, b⟩ := h3.ends t ht
    exact ⟨List.mem_append.1 ((hm _).1 a), List.mem_append.1 ((hm _).1 b)⟩
end Go.Sh
