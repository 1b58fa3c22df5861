/- PLAIN, SPANS: Pj4 and Pj5 in one text (a claim holds 60 files at most). -/
import Derived.Test.YtcpogfjlehoabaaPj3
namespace Go.Sh
open Go Go.Am

theorem checkS_of {s : List api_Span} (h : s.length ≤ 400) (hg : Good s) : checkS s = 0 := by
  unfold checkS
  rw [if_neg (by omega), if_pos hg]
theorem joined_good {kind : Int} {p q : List api_Span} (hp : Good p) (hq : Good q) (h1 : p.length ≤ 400) (h2 : q.length ≤ 400) : Good (joinedS kind p q) := by
  obtain ⟨_, j⟩ := joinedS_eq kind p q (by omega) (by omega)
  refine ⟨fun t ht => ?_, j.can.2⟩
  obtain ⟨e1, e2⟩ := j.ends t ht
  have lo := j.can.1 t ht
  have key : ∀ x, (x ∈ ends p ∨ x ∈ ends q) → -1000000 ≤ x ∧ x ≤ 1000000 := by
    rintro x (h | h)
    · obtain ⟨u, hu, h⟩ := mem_ends.1 h
      obtain ⟨v1, v2, v3⟩ := hp.1 u hu
      omega
    · obtain ⟨u, hu, h⟩ := mem_ends.1 h
      obtain ⟨v1, v2, v3⟩ := hq.1 u hu
      omega
  have := key _ e1
  have := key _ e2
  exact ⟨lo, by omega, by omega⟩
/-- What an operation on two good sets answers. -/
theorem opS_good (kind : Int) {p q : List api_Span} (hp : Good p) (hq : Good q) (h1 : p.length ≤ 400) (h2 : q.length ≤ 400) :
    opS kind p q = ([], 4) ∨ (opS kind p q = (joinedS kind p q, 0) ∧ checkS (joinedS kind p q) = 0) := by
  unfold opS
  rw [if_neg (by simp [checkS_of h1 hp]), if_neg (by simp [checkS_of h2 hq])]
  split
  · exact .inl rfl
  · exact .inr ⟨rfl, checkS_of (by omega) (joined_good hp hq h1 h2)⟩
theorem joined_is {kind : Int} {p q out : List api_Span} (h1 : p.length ≤ 400) (h2 : q.length ≤ 400) (hc : Can out) (h : ∀ x, has out x ↔ holdsP kind (has p x) (has q x)) : joinedS kind p q = out := by
  obtain ⟨_, j⟩ := joinedS_eq kind p q (by omega) (by omega)
  exact can_unique j.can hc fun x => by rw [j.pts, h]

theorem near_good (s : List api_Span) (x : Int) (hl : s.length ≤ 400) (hg : Good s) (hx : -1000000 ≤ x ∧ x ≤ 1000000) (hne : s ≠ []) : ∃ m, span_Near s x = some (m, 0) ∧ Least s x m := by
  obtain ⟨m, h1, h2⟩ := near_loop s x hl hg hx
  rcases h2 with ⟨h, _⟩ | ⟨_, hm⟩
  · exact absurd h hne
  · refine ⟨m, ?_, hm⟩
    have hm0 : 0 ≤ m := by obtain ⟨⟨t, _, e⟩, _⟩ := hm; have := dst_nn x t; omega
    unfold span_Near
    have e1 : decide (x < -1000000) = false := decide_eq_false (by omega)
    have e2 : decide (x > 1000000) = false := decide_eq_false (by omega)
    have e4 : decide (m < 0) = false := decide_eq_false (by omega)
    have e0 : ((0 : Int) != 0) = false := rfl
    simp only [check_eq, checkS_of hl hg, Option.bind_some, e0, cond_false, e1, e2, h1, e4]

def pairL : List api_Span := [{ Lo := 0, Hi := 2 }, { Lo := 4, Hi := 7 }]
theorem pair_good : Good pairL := by
  refine ⟨fun t ht => ?_, by simp [pairL]⟩
  simp only [pairL, List.mem_cons, List.not_mem_nil, or_false] at ht
  rcases ht with rfl | rfl <;> exact ⟨by decide, by decide, by decide⟩

theorem alive_eq : l11_alive = some true := by
  classical
  have hp : l11_pair = some pairL := rfl
  have hcp : checkS pairL = 0 := checkS_of (by decide) pair_good
  have m1 : makeS [({ Lo := 0, Hi := 3 } : api_Span), ({ Lo := 5, Hi := 6 } : api_Span), ({ Lo := 2, Hi := 5 } : api_Span)] = ([{ Lo := 0, Hi := 6 }], 0) := by
    unfold makeS
    rw [if_neg (by decide), if_pos]
    · rw [joined_is (by decide) (by decide) (out := [{ Lo := 0, Hi := 6 }]) ⟨by simp, by simp⟩ (fun x => ?_)]
      simp [holdsP, has_cons, has_nil]
      omega
    · intro t ht
      simp only [List.mem_cons, List.not_mem_nil, or_false] at ht
      rcases ht with rfl | rfl | rfl <;> exact ⟨by decide, by decide, by decide⟩
  have g1 : Good [({ Lo := 1, Hi := 5 } : api_Span)] := by
    refine ⟨fun t ht => ?_, by simp⟩
    simp only [List.mem_cons, List.not_mem_nil, or_false] at ht
    subst ht; exact ⟨by decide, by decide, by decide⟩
  have m2 : opS 3 pairL [({ Lo := 1, Hi := 5 } : api_Span)] = ([{ Lo := 0, Hi := 1 }, { Lo := 5, Hi := 7 }], 0) := by
    unfold opS
    have e : joinedS 3 pairL [({ Lo := 1, Hi := 5 } : api_Span)] = [{ Lo := 0, Hi := 1 }, { Lo := 5, Hi := 7 }] := by
      refine joined_is (by decide) (by decide) ⟨by simp, by simp⟩ (fun x => ?_)
      simp [holdsP, pairL, has_cons, has_nil]
      omega
    rw [e, if_neg (by simp [hcp]), if_neg (by simp [checkS_of (s := [({ Lo := 1, Hi := 5 } : api_Span)]) (by decide) g1]), if_neg (by decide)]
  obtain ⟨m, n1, n2⟩ := near_good pairL 3 (by decide) pair_good (by decide) (by simp [pairL])
  have hm : m = 1 := by
    refine n2.unique ⟨⟨{ Lo := 4, Hi := 7 }, by simp [pairL], by decide⟩, ?_⟩
    intro t ht
    simp only [pairL, List.mem_cons, List.not_mem_nil, or_false] at ht
    rcases ht with rfl | rfl <;> decide
  subst hm
  have hlen : lengthS pairL = (5, 0) := by unfold lengthS; rw [if_pos hcp]; rfl
  have hgap : gapsL pairL = [{ Lo := 2, Hi := 4 }] := rfl
  have h6 : has pairL 6 := ⟨{ Lo := 4, Hi := 7 }, by simp [pairL], by decide, by decide⟩
  have h7 : ¬ has pairL 7 := by
    simp only [pairL, has_cons, has_nil, or_false]; omega
  have e1 : span_Has pairL 6 = some true := by rw [has_eq _ _ (by decide), decide_eq_true h6]
  have e2 : span_Has pairL 7 = some false := by rw [has_eq _ _ (by decide), decide_eq_false h7]
  unfold l11_alive
  simp only [hp, make_eq, m1, Option.bind_some, (length_eq pairL).1, hlen, gaps_eq, hcp, if_true, hgap, minus_eq, m2, n1, e1, e2]
  have s1 := same_self [({ Lo := 0, Hi := 6 } : api_Span)] (by decide)
  have s2 := same_self [({ Lo := 2, Hi := 4 } : api_Span)] (by decide)
  have s3 := same_self [({ Lo := 0, Hi := 1 } : api_Span), ({ Lo := 5, Hi := 7 } : api_Span)] (by decide)
  simp only [s1, s2, s3, beq_self_eq_true, cond_true, Option.bind_some, Bool.not_false]

theorem fit_eq (p q : List api_Span) : ∃ b, l11_fit p q = some b ∧ (b = true ↔ checkS p = 0 ∧ checkS q = 0) := by
  unfold l11_fit
  simp only [r11_check_eq, Option.bind_some]
  by_cases h1 : checkS p = 0
  · by_cases h2 : checkS q = 0
    · exact ⟨true, by simp [h1, h2], by simp [h1, h2]⟩
    · exact ⟨false, by simp [h1, h2], by simp [h1, h2]⟩
  · have e : (checkS p == 0) = false := beq_eq_false_iff_ne.2 h1
    exact ⟨false, by rw [e]; rfl, by simp [h1]⟩

/-- **THE LAW SpanPoints.** -/
theorem spanPoints (p q : List api_Span) (x : Int) : l11_SpanPoints p q x = some true := by
  classical
  unfold l11_SpanPoints
  obtain ⟨b, f1, f2⟩ := fit_eq p q
  rw [alive_eq, Option.bind_some, f1, Option.bind_some]
  cases b with
  | false => rfl
  | true =>
    obtain ⟨c1, c2⟩ := f2.1 rfl
    obtain ⟨l1, g1⟩ := checkS_good c1
    obtain ⟨l2, g2⟩ := checkS_good c2
    simp only [Bool.not_true, cond_false, Option.bind_some, union_eq, meet_eq, minus_eq, has_eq p x (by omega), has_eq q x (by omega)]
    have pt : ∀ k : Int, opS k p q = ([], 4) ∨ (opS k p q = (joinedS k p q, 0) ∧ checkS (joinedS k p q) = 0 ∧ span_Has (joinedS k p q) x = some (decide (holdsP k (has p x) (has q x)))) := by
      intro k
      rcases opS_good k g1 g2 l1 l2 with h | ⟨h, h'⟩
      · exact .inl h
      · refine .inr ⟨h, h', ?_⟩
        obtain ⟨_, j⟩ := joinedS_eq k p q (by omega) (by omega)
        rw [has_eq _ _ (by have := j.len; omega)]
        congr 1
        exact decide_eq_decide.2 (j.pts x)
    have u : ∀ (a b : Bool), (cond a (some true) (some b)) = some (a || b) := by decide
    have m : ∀ (a b : Bool), (cond a (some b) (some false)) = some (a && b) := by decide
    have d : ∀ (a b : Bool), (cond a (some (!b)) (some false)) = some (a && !b) := by decide
    have t1 : decide (holdsP 2 (has p x) (has q x)) = (decide (has p x) || decide (has q x)) := by
      by_cases ha : has p x <;> by_cases hb : has q x <;> simp [holdsP, ha, hb]
    have t2 : decide (holdsP 1 (has p x) (has q x)) = (decide (has p x) && decide (has q x)) := by
      by_cases ha : has p x <;> by_cases hb : has q x <;> simp [holdsP, ha, hb]
    have t3 : decide (holdsP 3 (has p x) (has q x)) = (decide (has p x) && !decide (has q x)) := by
      by_cases ha : has p x <;> by_cases hb : has q x <;> simp [holdsP, ha, hb]
    have k4 : ((4 : Int) == 0) = false := rfl
    have k0 : ((0 : Int) != 0) = false := rfl
    rcases pt 2 with h2 | ⟨h2, v2, w2⟩ <;> rcases pt 1 with h1 | ⟨h1, v1, w1⟩ <;> rcases pt 3 with h3 | ⟨h3, v3, w3⟩ <;>
      simp only [h1, h2, h3, r11_check_eq, *, beq_self_eq_true, cond_true, cond_false, Option.bind_some, Bool.not_true] <;> (try rfl)

/-- **THE LAW SpanNear.** -/
theorem spanNear (s : List api_Span) (x : Int) (hx : I64 x) : l11_SpanNear s x = some true := by
  classical
  unfold l11_SpanNear
  rw [alive_eq, Option.bind_some, r11_check_eq, Option.bind_some]
  by_cases hc : checkS s = 0
  · obtain ⟨hl, hg⟩ := checkS_good hc
    cases hs : s with
    | nil =>
      subst hs
      simp [hc]
    | cons a r =>
      have hne : s ≠ [] := by rw [hs]; simp
      have hlen : 0 < s.length := List.length_pos_iff.2 hne
      rw [← hs]
      have e0 : (checkS s != 0) = false := by simpa using hc
      have e1 : ((s.length : Int) == 0) = false := beq_eq_false_iff_ne.2 (by omega)
      have i0 : idx s 0 = some s[0] := idx_of (k := 0) rfl hlen
      have i1 : idx s (w64 ((s.length : Int) - 1)) = some s[s.length - 1] := by rw [w64_id (by omega)]; exact idx_of (by omega) (by omega)
      simp only [e0, cond_false, Option.bind_some, e1, i0, i1, Bool.not_true]
      by_cases k1 : s[0].Lo < -1000
      · simp [k1]
      · by_cases k2 : s[s.length - 1].Hi > 1000
        · simp [k2]
        · by_cases k3 : x < -1000
          · simp only [decide_eq_false k1, decide_eq_false k2, decide_eq_true k3, cond_false, cond_true, Option.bind_some]
          · by_cases k4 : x > 1000
            · simp only [decide_eq_false k1, decide_eq_false k2, decide_eq_false k3, decide_eq_true k4, cond_false, cond_true, Option.bind_some]
            · obtain ⟨m, n1, n2⟩ := near_good s x hl hg (by omega) hne
              have hin : ∀ t ∈ s, -1000 ≤ t.Lo ∧ t.Lo < t.Hi ∧ t.Hi ≤ 1000 := by
                intro t ht
                obtain ⟨i, hi, rfl⟩ := List.mem_iff_getElem.1 ht
                have v := hg.get i hi
                have lo : s[0].Lo ≤ s[i].Lo := by
                  rcases Nat.eq_zero_or_pos i with h | h
                  · subst h; exact Int.le_refl _
                  · have := hg.nxt 0 i hlen hi h
                    have := (hg.get 0 hlen).1
                    omega
                have hi' : s[i].Hi ≤ s[s.length - 1].Hi := by
                  rcases Nat.lt_or_ge i (s.length - 1) with h | h
                  · have := hg.nxt i (s.length - 1) hi (by omega) h
                    have := (hg.get (s.length - 1) (by omega)).1
                    omega
                  · obtain rfl : i = s.length - 1 := by omega
                    exact Int.le_refl _
                exact ⟨by omega, v.1, by omega⟩
              obtain ⟨⟨t, ht, em⟩, hmin⟩ := n2
              have b := hin t ht
              have hm0 : 0 ≤ m := by rw [em]; exact dst_nn x t
              have hm2 : m ≤ 2000 := by rw [em]; unfold dst; omega
              have q1 : decide (s[0].Lo < -1000) = false := decide_eq_false k1
              have q2 : decide (s[s.length - 1].Hi > 1000) = false := decide_eq_false k2
              have q3 : decide (x < -1000) = false := decide_eq_false k3
              have q4 : decide (x > 1000) = false := decide_eq_false k4
              have q5 : decide (m < 0) = false := decide_eq_false (by omega)
              have q6 : decide (m > 2000) = false := decide_eq_false (by omega)
              have z0 : ((0 : Int) != 0) = false := rfl
              simp only [q1, q2, q3, q4, cond_false, Option.bind_some, n1, z0, q5, q6]
              have hA : has s (x - m) ∨ has s (x + m) := by
                rw [em]
                by_cases h : dst x t = x - t.Hi + 1
                · left; exact ⟨t, ht, by unfold dst at h ⊢; omega, by unfold dst at h ⊢; omega⟩
                · right; exact ⟨t, ht, by unfold dst at h ⊢; omega, by unfold dst at h ⊢; omega⟩
              have hB : ∀ k : Int, 0 ≤ k → k < m → ¬ has s (x - k) ∧ ¬ has s (x + k) := by
                intro k hk hkm
                constructor
                · rintro ⟨u, hu, a1, a2⟩; have := hmin u hu; unfold dst at this; omega
                · rintro ⟨u, hu, a1, a2⟩; have := hmin u hu; unfold dst at this; omega
              rw [w64_id (x := x - m) (by omega), w64_id (x := x + m) (by omega), has_eq s _ (by omega), has_eq s _ (by omega)]
              have hcond : ((cond (!decide (has s (x - m))) (Option.bind (some (decide (has s (x + m)))) fun r110 => some (!r110)) (some false)).bind fun c101 => some c101) = some false := by
                rcases hA with h | h
                · simp [h]
                · by_cases h' : has s (x - m) <;> simp [h, h']
              simp only [Option.bind_some] at hcond ⊢
              rw [hcond]
              simp only [Option.bind_some, cond_false]
              have hloop : loop (l11_SpanNear_L1 (m, 0) s x) 0 = some (.inl ()) := by
                have := loop_rng (f := l11_SpanNear_L1 (m, 0) s x) (σ := Unit) (fun k _ => (k : Int)) m.toNat (fun _ _ => True) (fun r => r = (.inl () : Unit ⊕ Bool)) ?_ ?_ (k0 := 0) (c0 := ()) (by omega) trivial
                · obtain ⟨r, h1, rfl⟩ := this; exact h1
                · rintro k _ hk _
                  refine .inl ⟨(), ?_, trivial⟩
                  obtain ⟨b1, b2⟩ := hB (k : Int) (by omega) (by omega)
                  have h0 : decide ((k : Int) < m) = true := decide_eq_true (by omega)
                  simp only [l11_SpanNear_L1, h0, cond_true]
                  rw [w64_id (x := x - _) (by omega), w64_id (x := x + _) (by omega), has_eq s _ (by omega), has_eq s _ (by omega), decide_eq_false b1, decide_eq_false b2, w64_id (by omega)]
                  rfl
                · rintro _ _
                  have h0 : decide (((m.toNat : Nat) : Int) < m) = false := decide_eq_false (by omega)
                  exact ⟨_, by simp only [l11_SpanNear_L1, h0, cond_false], rfl⟩
              rw [hloop]
              rfl
  · have e0 : (checkS s != 0) = true := by simpa using hc
    simp only [e0, cond_true, Option.bind_some]

open Classical in
/-- How many of the n numbers from lo on have it. -/
noncomputable def pts (Q : Int → Prop) (lo : Int) : Nat → Int
  | 0 => 0
  | n + 1 => pts Q lo n + (if Q (lo + n) then 1 else 0)
theorem pts_congr {Q R : Int → Prop} (h : ∀ x, Q x ↔ R x) (lo : Int) (n : Nat) : pts Q lo n = pts R lo n := by
  have : Q = R := funext fun x => propext (h x)
  rw [this]
open Classical in
theorem pts_add {U M Q R : Int → Prop} (hu : ∀ x, U x ↔ Q x ∨ R x) (hm : ∀ x, M x ↔ Q x ∧ R x) (lo : Int) : ∀ n, pts U lo n + pts M lo n = pts Q lo n + pts R lo n
  | 0 => rfl
  | n + 1 => by
    have ih := pts_add hu hm lo n
    have e : (if U (lo + n) then (1 : Int) else 0) + (if M (lo + n) then 1 else 0) = (if Q (lo + n) then 1 else 0) + (if R (lo + n) then 1 else 0) := by
      have h1 := hu (lo + n)
      have h2 := hm (lo + n)
      by_cases a : Q (lo + n) <;> by_cases b : R (lo + n) <;> simp [h1, h2, a, b]
    show pts U lo n + _ + (pts M lo n + _) = pts Q lo n + _ + (pts R lo n + _)
    omega
theorem pts_none {Q : Int → Prop} (h : ∀ x, ¬ Q x) (lo : Int) : ∀ n, pts Q lo n = 0
  | 0 => rfl
  | n + 1 => by simp [pts, pts_none h lo n, h]
theorem pts_one {a b lo : Int} (h1 : lo ≤ a) (h2 : a < b) : ∀ n : Nat, pts (fun x => a ≤ x ∧ x < b) lo n = max 0 (min (lo + n) b - a)
  | 0 => by simp only [pts]; omega
  | n + 1 => by
    have ih := pts_one h1 h2 n
    simp only [pts, ih]
    split <;> omega
theorem pts_len {lo : Int} {n : Nat} : ∀ {s : List api_Span}, Can s → (∀ t ∈ s, lo ≤ t.Lo ∧ t.Hi ≤ lo + n) → pts (has s) lo n = lenL s
  | [], _, _ => pts_none (fun x => has_nil x) lo n
  | t :: s, hc, hb => by
    have ih := pts_len hc.tail (fun u hu => hb u (List.mem_cons_of_mem _ hu))
    have ht := hb t (by simp)
    have hlt := hc.1 t (by simp)
    have e := pts_add (U := has (t :: s)) (M := fun _ => False) (Q := fun x => t.Lo ≤ x ∧ x < t.Hi) (R := has s) (fun x => has_cons) (fun x => by
      constructor
      · intro h; exact h.elim
      · rintro ⟨h1, h2⟩; have := hc.tail_gt h2; omega) lo n
    rw [pts_none (fun _ h => h) lo n, pts_one ht.1 hlt, ih] at e
    simp only [lenL]
    omega
theorem good_pts {s : List api_Span} (h : Good s) : pts (has s) (-1000000) 2000000 = lenL s :=
  pts_len h.can fun t ht => by obtain ⟨a, b, c⟩ := h.1 t ht; omega
theorem len_add {u m p q : List api_Span} (gu : Good u) (gm : Good m) (gp : Good p) (gq : Good q) (hu : ∀ x, has u x ↔ has p x ∨ has q x) (hm : ∀ x, has m x ↔ has p x ∧ has q x) : lenL u + lenL m = lenL p + lenL q := by
  rw [← good_pts gu, ← good_pts gm, ← good_pts gp, ← good_pts gq]
  exact pts_add hu hm _ _

theorem holds1 {a b : Prop} : holdsP 1 a b ↔ a ∧ b := by simp [holdsP]
theorem holds2 {a b : Prop} : holdsP 2 a b ↔ a ∨ b := by simp [holdsP]
theorem holds3 {a b : Prop} : holdsP 3 a b ↔ a ∧ ¬ b := by simp [holdsP]

/-- **THE LAW SpanLengths.** -/
theorem spanLengths (p q : List api_Span) : l11_SpanLengths p q = some true := by
  classical
  unfold l11_SpanLengths
  obtain ⟨b, f1, f2⟩ := fit_eq p q
  rw [alive_eq, Option.bind_some, f1, Option.bind_some]
  cases b with
  | false => rfl
  | true =>
    obtain ⟨c1, c2⟩ := f2.1 rfl
    obtain ⟨l1, g1⟩ := checkS_good c1
    obtain ⟨l2, g2⟩ := checkS_good c2
    have k4 : ((4 : Int) != 0) = true := rfl
    have k0 : ((0 : Int) != 0) = false := rfl
    simp only [Bool.not_true, cond_false, Option.bind_some, union_eq, meet_eq, minus_eq]
    rcases opS_good 2 g1 g2 l1 l2 with h2 | ⟨h2, v2⟩ <;> rcases opS_good 1 g1 g2 l1 l2 with h1 | ⟨h1, v1⟩ <;> rcases opS_good 3 g1 g2 l1 l2 with h3 | ⟨h3, v3⟩
    · simp only [h2, h1, h3, k4, k0, cond_true, cond_false, Option.bind_some]; rfl
    · simp only [h2, h1, h3, k4, k0, cond_true, cond_false, Option.bind_some]; rfl
    · simp only [h2, h1, h3, k4, k0, cond_true, cond_false, Option.bind_some]; rfl
    · simp only [h2, h1, h3, k4, k0, cond_true, cond_false, Option.bind_some]; rfl
    · simp only [h2, h1, h3, k4, k0, cond_true, cond_false, Option.bind_some]; rfl
    · simp only [h2, h1, h3, k4, k0, cond_true, cond_false, Option.bind_some]; rfl
    · simp only [h2, h1, h3, k4, k0, cond_true, cond_false, Option.bind_some]; rfl
    · obtain ⟨_, j2⟩ := joinedS_eq 2 p q (by omega) (by omega)
      obtain ⟨_, j1⟩ := joinedS_eq 1 p q (by omega) (by omega)
      obtain ⟨_, j3⟩ := joinedS_eq 3 p q (by omega) (by omega)
      obtain ⟨n1, m1⟩ := checkS_good v1
      obtain ⟨n2, m2⟩ := checkS_good v2
      obtain ⟨n3, m3⟩ := checkS_good v3
      have eL := len_add m2 m1 g1 g2 (fun x => by rw [j2.pts, holds2]) (fun x => by rw [j1.pts, holds1])
      have eU : opS 2 (joinedS 1 p q) (joinedS 3 p q) = (p, 0) := by
        have e : joinedS 2 (joinedS 1 p q) (joinedS 3 p q) = p := by
          refine joined_is n1 n3 g1.can fun x => ?_
          rw [holds2, j1.pts, j3.pts, holds1, holds3]
          by_cases a : has p x <;> by_cases b : has q x <;> simp [a, b]
        unfold opS
        rw [if_neg (by simp [v1]), if_neg (by simp [v3]), e, if_neg (by omega)]
      have eM : opS 1 (joinedS 1 p q) (joinedS 3 p q) = ([], 0) := by
        have e : joinedS 1 (joinedS 1 p q) (joinedS 3 p q) = [] := by
          refine joined_is n1 n3 ⟨fun t ht => (by cases ht), .nil⟩ fun x => ?_
          rw [holds1, j1.pts, j3.pts, holds1, holds3]
          by_cases a : has p x <;> by_cases b : has q x <;> simp [a, b, has_nil]
        unfold opS
        rw [if_neg (by simp [v1]), if_neg (by simp [v3]), e, if_neg (by simp)]
      have hw : (w64 (lenL (joinedS 2 p q) + lenL (joinedS 1 p q)) == w64 (lenL p + lenL q)) = true := by rw [eL]; exact beq_self_eq_true _
      have L1 : lengthS (joinedS 2 p q) = (lenL (joinedS 2 p q), 0) := by unfold lengthS; rw [if_pos v2]
      have L2 : lengthS (joinedS 1 p q) = (lenL (joinedS 1 p q), 0) := by unfold lengthS; rw [if_pos v1]
      have L3 : lengthS p = (lenL p, 0) := by unfold lengthS; rw [if_pos c1]
      have L4 : lengthS q = (lenL q, 0) := by unfold lengthS; rw [if_pos c2]
      have z : (([] : List api_Span).length : Int) = 0 := rfl
      simp only [h2, h1, h3, k0, cond_false, Option.bind_some, (length_eq _).1, L1, L2, L3, L4, union_eq, meet_eq, eU, eM, hw, cond_true, beq_self_eq_true, same_self p (by omega), z]

theorem moveS_err (s : List api_Span) (d : Int) (hc : checkS s = 0) : (moveS s d).2 = 0 ∨ (moveS s d).2 = 16 := by
  unfold moveS
  rw [if_neg (by simp [hc])]
  split
  · exact .inl rfl
  · split
    · exact .inr rfl
    · split
      · exact .inl rfl
      · exact .inr rfl

theorem moveS_back (s : List api_Span) (d : Int) (hd : I64 d) (hc : checkS s = 0) (h : (moveS s d).2 = 0) : s = [] ∨ moveS (moveS s d).1 (w64 (0 - d)) = (s, 0) := by
  obtain ⟨hl, hg⟩ := checkS_good hc
  by_cases hs : s = []
  · exact .inl hs
  right
  have e0 : ¬ checkS s ≠ 0 := by simp [hc]
  unfold moveS at h ⊢
  rw [if_neg e0, if_neg hs] at h ⊢
  by_cases h1 : d < -2000000 ∨ 2000000 < d
  · rw [if_pos h1] at h; cases h
  · rw [if_neg h1] at h ⊢
    by_cases h2 : ∀ t ∈ s, vld (mvS d t)
    · rw [if_pos h2]
      simp only
      have gd : Good (s.map (mvS d)) := by
        refine ⟨fun t ht => ?_, ?_⟩
        · obtain ⟨u, hu, rfl⟩ := List.mem_map.1 ht; exact h2 u hu
        · rw [List.pairwise_map]
          refine hg.2.imp fun {a b} h => ?_
          unfold mvS; simp only; omega
      have cd : checkS (s.map (mvS d)) = 0 := checkS_of (by rw [List.length_map]; exact hl) gd
      have w : w64 (0 - d) = -d := by rw [w64_id (by omega)]; omega
      have mb : ∀ t, mvS (-d) (mvS d t) = t := by
        intro t; unfold mvS; cases t; simp only [api_Span.mk.injEq]; omega
      rw [w, if_neg (by simp [cd]), if_neg (by simpa using hs), if_neg (by omega), if_pos]
      · congr 1
        rw [List.map_map]
        have : (mvS (-d) ∘ mvS d) = id := funext fun t => mb t
        rw [this, List.map_id]
      · intro t ht
        obtain ⟨u, hu, rfl⟩ := List.mem_map.1 ht
        rw [mb]; exact hg.1 u hu
    · rw [if_neg h2] at h; cases h

/-- **THE LAW SpanHull.** -/
theorem spanHull (s : List api_Span) (d : Int) (hd : I64 d) : l11_SpanHull s d = some true := by
  classical
  unfold l11_SpanHull
  rw [alive_eq, Option.bind_some, r11_check_eq, Option.bind_some]
  have k0 : ((0 : Int) != 0) = false := rfl
  by_cases hc : checkS s = 0
  · obtain ⟨hl, hg⟩ := checkS_good hc
    have e0 : (checkS s != 0) = false := by simpa using hc
    have hm : makeS s = (s, 0) := by
      unfold makeS
      rw [if_neg (by omega), if_pos hg.1, joined_is hl (by simp) hg.can (fun x => by rw [holds2]; simp [has_nil])]
    have hL : lengthS s = (lenL s, 0) := by unfold lengthS; rw [if_pos hc]
    have hmove : ((span_Move s d).bind fun r204 => cond (r204.2 != 0) ((cond true (some (r204.2 == 16)) (some false)).bind fun c211 => some c211) ((span_Move r204.1 (w64 (0 - d))).bind fun r216 => (cond true ((cond ((s.length : Int) == 0) (some true) ((cond (r216.2 == 0) ((r11_Same r216.1 s).bind fun r291 => some r291) (some false)).bind fun c285 => some c285)).bind fun c273 => some c273) (some false)).bind fun c248 => some c248)) = some true := by
      rw [move_eq, Option.bind_some]
      rcases moveS_err s d hc with h | h
      · rw [h, k0, cond_false, move_eq, Option.bind_some]
        rcases moveS_back s d hd hc h with rfl | hb
        · rfl
        · rw [hb]
          simp only [beq_self_eq_true, cond_true, same_self s (by omega), Option.bind_some]
          cases ((s.length : Int) == 0) <;> rfl
      · rw [h]; rfl
    simp only [e0, cond_false, Option.bind_some, Bool.not_true, make_eq, hm, gaps_eq, hc, if_true, (length_eq s).1, hL, k0, same_self s (by omega)]
    cases s with
    | nil =>
      have z : decide ((([] : List api_Span).length : Int) > 0) = false := rfl
      simp only [z, cond_false, Option.bind_some]
      exact hmove
    | cons a r =>
      have z : decide (((a :: r).length : Int) > 0) = true := decide_eq_true (by simp only [List.length_cons]; omega)
      have i0 : idx (a :: r) 0 = some a := rfl
      have i1 : idx (a :: r) (w64 (((a :: r).length : Int) - 1)) = some ((a :: r).getLast (by simp)) := by
        rw [w64_id (by omega), List.getLast_eq_getElem]
        exact idx_of (by simp) (by simp)
      have hgap := gapsL_has hg.can
      have gg : Good (gapsL (a :: r)) := by
        refine ⟨fun t ht => ?_, (gapsL_can hg.can).2⟩
        obtain ⟨⟨u, hu, e1⟩, ⟨v, hv, e2⟩⟩ := gapsL_mem ht
        obtain ⟨x1, x2, x3⟩ := hg.1 u hu
        obtain ⟨y1, y2, y3⟩ := hg.1 v hv
        exact ⟨(gapsL_can hg.can).1 t ht, by omega, by omega⟩
      have lg := gapsL_len (a :: r)
      have cg : checkS (gapsL (a :: r)) = 0 := checkS_of (by omega) gg
      have hlast : ((a :: r).getLast (by simp)) ∈ (a :: r) := List.getLast_mem _
      generalize hz : (a :: r).getLast (by simp) = zz at i1 hgap hlast
      have va := hg.1 a (by simp)
      have vz := hg.1 zz hlast
      have haz : a.Lo < zz.Hi := by
        rcases List.mem_cons.1 hlast with e | h
        · rw [e]; exact va.1
        · have := hg.can.lt zz h; have := va.1; have := vz.1; omega
      have hin : ∀ x, has (a :: r) x → a.Lo ≤ x ∧ x < zz.Hi := by
        rintro x ⟨t, ht, t1, t2⟩
        constructor
        · rcases List.mem_cons.1 ht with e | h
          · rw [← e]; exact t1
          · have := hg.can.lt t h; have := va.1; omega
        · obtain ⟨i, hi, rfl⟩ := List.mem_iff_getElem.1 ht
          have ez : zz = (a :: r)[(a :: r).length - 1] := by rw [← hz, List.getLast_eq_getElem]
          rcases Nat.lt_or_ge i ((a :: r).length - 1) with h | h
          · have := hg.nxt i ((a :: r).length - 1) hi (by omega) h
            rw [← ez] at this
            have := vz.1; omega
          · have e : i = (a :: r).length - 1 := by omega
            subst e
            rw [← ez] at t2; exact t2
      have gh : Good [({ Lo := a.Lo, Hi := zz.Hi } : api_Span)] := by
        refine ⟨fun t ht => ?_, by simp⟩
        simp only [List.mem_cons, List.not_mem_nil, or_false] at ht
        subst ht; exact ⟨haz, va.2.1, vz.2.2⟩
      have hh : ∀ x, has [({ Lo := a.Lo, Hi := zz.Hi } : api_Span)] x ↔ has (a :: r) x ∨ has (gapsL (a :: r)) x := by
        intro x
        rw [hgap, has_cons]
        simp only [has_nil, or_false]
        constructor
        · intro h
          by_cases hx : has (a :: r) x
          · exact .inl hx
          · exact .inr ⟨h, hx⟩
        · rintro (h | ⟨h, _⟩)
          · exact hin x h
          · exact h
      have eU : opS 2 (a :: r) (gapsL (a :: r)) = ([{ Lo := a.Lo, Hi := zz.Hi }], 0) := by
        have e : joinedS 2 (a :: r) (gapsL (a :: r)) = [{ Lo := a.Lo, Hi := zz.Hi }] := by
          refine joined_is hl (by omega) gh.can fun x => ?_
          rw [hh, holds2]
        unfold opS
        rw [if_neg (by simp [hc]), if_neg (by simp [cg]), e, if_neg (by simp)]
      have gn : Good ([] : List api_Span) := ⟨fun t ht => (by cases ht), .nil⟩
      have eL := len_add gh gn hg gg hh (fun x => by
        rw [hgap]
        constructor
        · intro h; exact absurd h (has_nil x)
        · rintro ⟨h1, _, h2⟩; exact absurd h1 h2)
      have eL2 : lenL (a :: r) + lenL (gapsL (a :: r)) = zz.Hi - a.Lo := by rw [← eL]; simp [lenL]
      have L2 : lengthS (gapsL (a :: r)) = (lenL (gapsL (a :: r)), 0) := by unfold lengthS; rw [if_pos cg]
      have j0 : idx [({ Lo := a.Lo, Hi := zz.Hi } : api_Span)] 0 = some { Lo := a.Lo, Hi := zz.Hi } := rfl
      have b1 : (a.Lo != a.Lo) = false := by simp
      have b2 : (zz.Hi != zz.Hi) = false := by simp
      have b3 : (w64 (lenL (a :: r) + lenL (gapsL (a :: r))) != w64 (zz.Hi - a.Lo)) = false := by rw [eL2]; simp
      have b4 : ((([({ Lo := a.Lo, Hi := zz.Hi } : api_Span)]).length : Int) != 1) = false := rfl
      simp only [z, cond_true, union_eq, eU, Option.bind_some, (length_eq _).1, L2, k0, cond_false, b4, j0, i0, i1, b1, b2, b3]
      exact hmove
  · have e0 : (checkS s != 0) = true := by simpa using hc
    simp only [e0, cond_true, Option.bind_some]
end Go.Sh
