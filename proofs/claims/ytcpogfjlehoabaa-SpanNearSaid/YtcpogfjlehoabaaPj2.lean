/- PLAIN, SPANS: the sweep over the ends. -/
import Derived.Test.YtcpogfjlehoabaaPj1
namespace Go.Sh
open Go Go.Am

theorem close_eq (at_ last : Int) (inn : Bool) (out : List api_Span) (h : out.length ≤ 10000) :
    span_join_1_e2 at_ inn last out = some (inn, last, if inn = true ∧ last ≠ at_ then addS out last at_ else out) := by
  unfold span_join_1_e2
  cases inn with
  | false => rfl
  | true =>
    by_cases he : last = at_
    · simp [he]
    · have hb : (last == at_) = false := by simpa using he
      simp only [Bool.not_true, cond_false, Option.bind_some, hb]
      rw [if_pos ⟨trivial, he⟩]
      rcases snoc_cases out with rfl | ⟨d, t, rfl⟩
      · rfl
      · have hl : (d ++ [t]).length = d.length + 1 := by simp
        have h0 : decide (((d ++ [t]).length : Int) > 0) = true := decide_eq_true (by omega)
        have hw : w64 (((d ++ [t]).length : Int) - 1) = (d.length : Int) := by rw [w64_id (by omega)]; omega
        have hx : idx (d ++ [t]) (d.length : Int) = some t := by
          rw [idx_lt (by omega)]; simp
        simp only [h0, cond_true, hw, hx, Option.bind_some]
        by_cases h2 : t.Hi = last
        · subst h2
          simp only [beq_self_eq_true, cond_true, addS_eq, Int.toNat_natCast, set_last]
        · have hb2 : (t.Hi == last) = false := by simpa using h2
          simp only [hb2, cond_false, addS_ne h2]
          rw [app_of (by simp; omega)]
          rfl

open Classical in
structure Sweep (f : Bool → Bool → Bool) (p q : List api_Span) (ys : List span_end) (k : Nat) (c : List Int × Int × Bool × List api_Span) : Prop where
  opn : c.1 = [cnt 0 (fun _ => true) (ys.take k), cnt 1 (fun _ => true) (ys.take k)]
  inn : c.2.2.1 = f (decide (0 < cnt 0 (fun _ => true) (ys.take k))) (decide (0 < cnt 1 (fun _ => true) (ys.take k)))
  lst : ∀ (h : k - 1 < ys.length), 0 < k → c.2.1 = ys[k - 1].at_
  can : Can c.2.2.2
  his : ∀ t ∈ c.2.2.2, t.Hi ≤ c.2.1
  zro : k = 0 → c.2.2.2 = []
  pts : ∀ x, has c.2.2.2 x ↔ 0 < k ∧ x < c.2.1 ∧ f (decide (has p x)) (decide (has q x)) = true
  len : c.2.2.2.length ≤ k

theorem addS_len (c : List api_Span) (a b : Int) : (addS c a b).length ≤ c.length + 1 := by
  rcases snoc_cases c with rfl | ⟨d, t, rfl⟩
  · simp [addS_nil]
  · by_cases h : t.Hi = a
    · subst h; rw [addS_eq]; simp
    · rw [addS_ne h]; simp

theorem cnt_at {p q : List api_Span} {ys : List span_end} (hp : ∀ t ∈ p, vld t) (hq : ∀ t ∈ q, vld t) (hperm : ys.Perm (evs p 0 ++ evs q 1)) (hs : ys.Pairwise (fun x y => x.at_ ≤ y.at_)) (k : Nat) (x : Int)
    (h1 : ∀ i (h : i < ys.length), i < k → ys[i].at_ ≤ x) (h2 : ∀ i (h : i < ys.length), k ≤ i → x < ys[i].at_) :
    (0 < cnt 0 (fun _ => true) (ys.take k) ↔ has p x) ∧ (0 < cnt 1 (fun _ => true) (ys.take k) ↔ has q x) := by
  have key : ∀ l, cnt l (fun _ => true) (ys.take k) = cnt l (fun a => decide (a ≤ x)) (evs p 0) + cnt l (fun a => decide (a ≤ x)) (evs q 1) := by
    intro l
    rw [← cnt_append, ← cnt_perm hperm]
    conv => rhs; rw [← List.take_append_drop k ys]
    rw [cnt_append]
    have a1 : cnt l (fun a => decide (a ≤ x)) (ys.drop k) = 0 := by
      refine cnt_none fun e he => ?_
      obtain ⟨i, hi, rfl⟩ := List.mem_iff_getElem.1 he
      rw [List.getElem_drop]
      rw [List.length_drop] at hi
      have := h2 (k + i) (by omega) (by omega)
      exact decide_eq_false (by omega)
    have a2 : cnt l (fun a => decide (a ≤ x)) (ys.take k) = cnt l (fun _ => true) (ys.take k) := by
      refine cnt_congr fun e he => ?_
      obtain ⟨i, hi, rfl⟩ := List.mem_iff_getElem.1 he
      rw [List.getElem_take]
      rw [List.length_take] at hi
      exact decide_eq_true (h1 i (by omega) (by omega))
    rw [a1, a2]; omega
  rw [key 0, key 1, cnt_other (l := 0) (l' := 1) (by decide), cnt_other (l := 1) (l' := 0) (by decide)]
  have e1 := cnt_evs (l := 0) hp x
  have e2 := cnt_evs (l := 1) hq x
  rw [Int.add_zero, Int.zero_add]
  exact ⟨e1.2, e2.2⟩

open Classical in
theorem join_eq (f : Bool → Bool → Bool) (hf : f false false = false) (p2 : Bool → Bool → Option Bool) (hp2 : ∀ a b, p2 a b = some (f a b)) (p q : List api_Span)
    (hp : p.length ≤ 500) (hq : q.length ≤ 500) (vp : ∀ t ∈ p, vld t) (vq : ∀ t ∈ q, vld t) :
    ∃ out, span_join p q p2 = some out ∧ Can out ∧ ∀ x, has out x ↔ f (decide (has p x)) (decide (has q x)) = true := by
  obtain ⟨ys, e1, hperm, hs⟩ := spanEnds_eq p q hp hq vp vq
  have hlen : ys.length ≤ 2000 := by rw [hperm.length_eq, List.length_append, evs_length, evs_length]; omega
  have hle : ∀ i j (hi : i < ys.length) (hj : j < ys.length), i ≤ j → ys[i].at_ ≤ ys[j].at_ := by
    intro i j hi hj hij
    rcases Nat.lt_or_ge i j with h | h
    · exact List.pairwise_iff_getElem.1 hs i j hi hj h
    · obtain rfl : i = j := by omega
      exact Int.le_refl _
  have hmem : ∀ e ∈ ys, (e.list_ = 0 ∨ e.list_ = 1) ∧ (e.by_ = 1 ∨ e.by_ = -1) := by
    intro e he
    rcases List.mem_append.1 (hperm.mem_iff.1 he) with h | h
    · obtain ⟨a, b, _⟩ := mem_evs h; exact ⟨.inl a, b⟩
    · obtain ⟨a, b, _⟩ := mem_evs h; exact ⟨.inr a, b⟩
  have := loop_rng (f := span_join_L1 ([p, q], ys) p2) (σ := List Int × Int × Bool × List api_Span) (fun k c => ((k : Int), c)) ys.length (Sweep f p q ys) (fun out => Can out ∧ ∀ x, has out x ↔ f (decide (has p x)) (decide (has q x)) = true) ?_ ?_ (k0 := 0) (c0 := ([0, 0], 0, false, [])) (by omega) ?_
  · obtain ⟨out, h1, h2⟩ := this
    refine ⟨out, ?_, h2⟩
    unfold span_join
    have h1 : loop (span_join_L1 ([p, q], ys) p2) (0, [0, 0], 0, false, []) = some out := h1
    rw [e1]
    simp only [Option.bind_some, h1]
    rfl
  · rintro k ⟨opn, last, inn, out⟩ hk ⟨s1, s2, s3, s4, s5, s6, s7, s8⟩
    simp only at s1 s2 s3 s4 s5 s6 s7 s8
    have hb1 : decide ((k : Int) < (ys.length : Int)) = true := decide_eq_true (by omega)
    have hcl := close_eq ys[k].at_ last inn out (by omega)
    have hm := hmem ys[k] (List.getElem_mem hk)
    have htk : ys.take (k + 1) = ys.take k ++ [ys[k]] := List.take_succ_eq_append_getElem hk
    have hby : ∀ e ∈ ys.take k, e.by_ = 1 ∨ e.by_ = -1 := fun e he => (hmem e (List.mem_of_mem_take he)).2
    have b0 := cnt_bound (l := 0) (c := fun _ => true) hby
    have b1 := cnt_bound (l := 1) (c := fun _ => true) hby
    have hlt : (ys.take k).length = k := by rw [List.length_take]; omega
    rw [hlt] at b0 b1
    -- the open spans
    have hopen : ∃ v, idxA 2 opn ys[k].list_ = some v ∧ opn.set ys[k].list_.toNat (w64 (v + ys[k].by_)) = [cnt 0 (fun _ => true) (ys.take (k + 1)), cnt 1 (fun _ => true) (ys.take (k + 1))] := by
      subst s1
      rw [htk, cnt_append, cnt_append]
      rcases hm.1 with h | h
      · refine ⟨cnt 0 (fun _ => true) (ys.take k), by rw [h]; rfl, ?_⟩
        rw [h, w64_id (by omega)]
        simp [cnt, h]
      · refine ⟨cnt 1 (fun _ => true) (ys.take k), by rw [h]; rfl, ?_⟩
        rw [h, w64_id (by omega)]
        simp [cnt, h]
    obtain ⟨v, o1, o2⟩ := hopen
    refine .inl ⟨([cnt 0 (fun _ => true) (ys.take (k + 1)), cnt 1 (fun _ => true) (ys.take (k + 1))], ys[k].at_, f (decide (0 < cnt 0 (fun _ => true) (ys.take (k + 1)))) (decide (0 < cnt 1 (fun _ => true) (ys.take (k + 1)))), if inn = true ∧ last ≠ ys[k].at_ then addS out last ys[k].at_ else out), ?_, ?_⟩
    · have x0 : ∀ a b : Int, idxA 2 [a, b] 0 = some a := fun a b => rfl
      have x1 : ∀ a b : Int, idxA 2 [a, b] 1 = some b := fun a b => rfl
      simp only [span_join_L1, hb1, cond_true, idx_lt hk, Option.bind_some, hcl, o1, o2, x0, x1, hp2, Bool.not_true, cond_false]
      rw [w64_id (by omega)]
      rfl
    · have hall1 : ∀ x, (0 < k → last ≤ x) → ∀ i (h : i < ys.length), i < k → ys[i].at_ ≤ x := by
        intro x hx i hi hik
        have := s3 (by omega) (by omega)
        have := hle i (k - 1) hi (by omega) (by omega)
        have := hx (by omega)
        omega
      have hall2 : ∀ x, x < ys[k].at_ → ∀ i (h : i < ys.length), k ≤ i → x < ys[i].at_ := by
        intro x hx i hi hik
        have := hle k i hk hi hik
        omega
      have hF : ∀ x, (0 < k → last ≤ x) → x < ys[k].at_ → f (decide (has p x)) (decide (has q x)) = inn := by
        intro x hx hx2
        obtain ⟨c1, c2⟩ := cnt_at vp vq hperm hs k x (hall1 x hx) (hall2 x hx2)
        rw [s2, decide_eq_decide.2 c1, decide_eq_decide.2 c2]
      have hlast : 0 < k → last ≤ ys[k].at_ := by
        intro h0
        rw [s3 (by omega) h0]
        exact hle (k - 1) k (by omega) hk (by omega)
      have hin0 : k = 0 → inn = false := by
        intro h0
        subst h0
        rw [s2]; exact hf
      by_cases hc : inn = true ∧ last ≠ ys[k].at_
      · have hk0 : 0 < k := by
          rcases Nat.eq_zero_or_pos k with h | h
          · rw [hin0 h] at hc; cases hc.1
          · exact h
        have hl := hlast hk0
        have hab : last < ys[k].at_ := by have := hc.2; omega
        obtain ⟨d1, d2, d3, d4⟩ := addS_spec s4 s5 hab
        constructor
        · rfl
        · rfl
        · intro h _; rfl
        · simp only [if_pos hc]; exact d1
        · simp only [if_pos hc]; exact d3
        · omega
        · intro x
          simp only [if_pos hc]
          rw [d2, s7]
          constructor
          · rintro (⟨h0, h1, h2⟩ | ⟨h1, h2⟩)
            · exact ⟨by omega, by omega, h2⟩
            · exact ⟨by omega, h2, by rw [hF x (fun _ => h1) h2]; exact hc.1⟩
          · rintro ⟨h0, h1, h2⟩
            by_cases hx : x < last
            · exact .inl ⟨hk0, hx, h2⟩
            · exact .inr ⟨by omega, h1⟩
        · simp only [if_pos hc]
          have := addS_len out last ys[k].at_
          omega
      · constructor
        · rfl
        · rfl
        · intro h _; rfl
        · simp only [if_neg hc]; exact s4
        · simp only [if_neg hc]
          intro t ht
          rcases Nat.eq_zero_or_pos k with h | h
          · rw [s6 h] at ht; cases ht
          · have := s5 t ht; have := hlast h; omega
        · omega
        · intro x
          simp only [if_neg hc]
          rw [s7]
          constructor
          · rintro ⟨h0, h1, h2⟩
            exact ⟨by omega, by have := hlast h0; omega, h2⟩
          · rintro ⟨h0, h1, h2⟩
            by_cases hx : 0 < k ∧ x < last
            · exact ⟨hx.1, hx.2, h2⟩
            · have hx' : 0 < k → last ≤ x := fun h => by
                refine Int.not_lt.1 fun h' => hx ⟨h, h'⟩
              have := hF x hx' h1
              rw [this] at h2
              refine absurd ⟨h2, ?_⟩ hc
              intro e
              rcases Nat.eq_zero_or_pos k with h | h
              · rw [hin0 h] at h2; cases h2
              · have := hx' h; omega
        · simp only [if_neg hc]; omega
  · rintro ⟨opn, last, inn, out⟩ ⟨s1, s2, s3, s4, s5, s6, s7, s8⟩
    simp only at s1 s2 s3 s4 s5 s6 s7 s8
    have hb1 : decide ((ys.length : Int) < (ys.length : Int)) = false := decide_eq_false (by omega)
    refine ⟨out, by simp only [span_join_L1, hb1, cond_false], s4, fun x => ?_⟩
    rw [s7]
    constructor
    · rintro ⟨_, _, h⟩; exact h
    · intro h
      by_cases hx : 0 < ys.length ∧ x < last
      · exact ⟨hx.1, hx.2, h⟩
      · obtain ⟨c1, c2⟩ := cnt_at vp vq hperm hs ys.length x (fun i hi _ => by
            have := s3 (by omega) (by omega)
            have := hle i (ys.length - 1) hi (by omega) (by omega)
            have : last ≤ x := Int.not_lt.1 fun h' => hx ⟨by omega, h'⟩
            omega) (fun i hi hi2 => by omega)
        have tot : ∀ l, cnt l (fun _ => true) (ys.take ys.length) = 0 := by
          intro l
          rw [List.take_length, cnt_perm hperm, cnt_append]
          by_cases h0 : l = 0
          · subst h0; rw [cnt_total, cnt_other (by decide)]; rfl
          · rw [cnt_other h0]
            by_cases h1 : l = 1
            · subst h1; rw [cnt_total]; rfl
            · rw [cnt_other h1]; rfl
        rw [tot] at c1 c2
        have n1 : ¬ has p x := fun h => absurd (c1.2 h) (by decide)
        have n2 : ¬ has q x := fun h => absurd (c2.2 h) (by decide)
        rw [decide_eq_false n1, decide_eq_false n2, hf] at h
        cases h
  · constructor
    · simp [cnt]
    · simp [cnt, hf]
    · intro h h0; omega
    · exact ⟨fun t ht => (by cases ht), .nil⟩
    · intro t ht; cases ht
    · intro _; rfl
    · intro x; simp [has]
    · simp
end Go.Sh
