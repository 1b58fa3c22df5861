/- PLAIN, SPANS (2): the reference's cuts, and what it makes of them. -/
import Derived.Test.YtcpogfjlehoabaaPl1
namespace Go.Sh
open Go Go.Am

theorem insert_eq (out : List Int) (v : Int) (b : Nat) (hb : b ≤ out.length) :
    (cpyw (out ++ [0]) (b + 1, (out ++ [0]).length - (b + 1)) ((((out ++ [0]).drop b).take ((out ++ [0]).length - b)))).set b v = out.take b ++ v :: out.drop b := by
  have e1 : ((out ++ [0]).drop b).take ((out ++ [0]).length - b) = (out ++ [0]).drop b := List.take_of_length_le (by simp)
  rw [e1]
  unfold cpyw splice
  have e2 : (min ((out ++ [0]).drop b).length ((out ++ [0]).length - (b + 1))) = out.length - b := by simp; omega
  simp only [e2]
  have e3 : ((out ++ [0]).drop b).take (out.length - b) = out.drop b := by
    rw [List.drop_append_of_le_length hb, List.take_append_of_le_length (by simp)]
    exact List.take_of_length_le (by simp)
  rw [e3]
  have e4 : (out ++ [0]).drop (b + 1 + (out.drop b).length) = [] := by
    apply List.drop_of_length_le; simp; omega
  rw [e4, List.append_nil]
  have e5 : ∃ y, (out ++ [0]).take (b + 1) = out.take b ++ [y] := by
    refine ⟨(out ++ [0])[b]'(by simp; omega), ?_⟩
    rw [List.take_succ_eq_append_getElem (by simp; omega), List.take_append_of_le_length hb]
  obtain ⟨y, hy⟩ := e5
  have key : ∀ (xs ys : List Int) (y v : Int), (xs ++ (y :: ys)).set xs.length v = xs ++ v :: ys := by
    intro xs ys y v
    induction xs with
    | nil => rfl
    | cons x xs ih => simp [ih]
  have hl : (out.take b).length = b := by simp; omega
  rw [hy, List.append_assoc]
  have := key (out.take b) (out.drop b) y v
  rw [hl] at this
  exact this

/-- What the reference's sorting has of some numbers. -/
def SortOf (l out : List Int) : Prop := out.Pairwise (· < ·) ∧ ∀ x, x ∈ out ↔ x ∈ l

theorem sorted_L2 (a : Int × List Int) (l : List Int) (i : Nat) (hi : i < l.length) (ha : a.1 = i) (hlen : a.2.length ≤ 1000000) (hs : a.2.Pairwise (· < ·)) :
    ∃ b : Int, loop (r11_Sorted_L2 a l) (a.2.length : Int) = some b ∧ ∃ k : Nat, b = k ∧ k ≤ a.2.length ∧ (∀ j (h : j < a.2.length), k ≤ j → l[i] < a.2[j]) ∧ (∀ j (h : j < a.2.length), j < k → a.2[j] ≤ l[i]) := by
  refine loop_inv (fun b : Int => ∃ k : Nat, b = k ∧ k ≤ a.2.length ∧ (∀ j (h : j < a.2.length), k ≤ j → l[i] < a.2[j])) (fun b => b.toNat) _ ?_ ⟨a.2.length, rfl, by omega, fun j h h' => by omega⟩
  rintro b ⟨k, rfl, hk, hgt⟩
  cases k with
  | zero =>
    refine .inr ⟨0, ?_, 0, rfl, by omega, hgt, fun j h h' => by omega⟩
    simp [r11_Sorted_L2]
  | succ k =>
    have h0 : decide (((k + 1 : Nat) : Int) > 0) = true := decide_eq_true (by omega)
    have h1 : idx a.2 (w64 (((k + 1 : Nat) : Int) - 1)) = some (a.2[k]'(by omega)) := by rw [w64_id (by omega)]; exact idx_of (by omega) (by omega)
    have h2 : idx l a.1 = some l[i] := by rw [ha]; exact idx_lt hi
    have hkk : k < a.2.length := by omega
    by_cases hc : a.2[k] > l[i]
    · refine .inl ⟨(k : Int), ?_, ⟨k, rfl, by omega, fun j h h' => ?_⟩, by simp⟩
      · simp only [r11_Sorted_L2, h0, h1, h2, cond_true, Option.bind_some, hc, decide_true]
        rw [w64_id (by omega)]
        congr 2; omega
      · by_cases e : j = k
        · subst e; exact hc
        · exact hgt j h (by omega)
    · refine .inr ⟨((k + 1 : Nat) : Int), ?_, k + 1, rfl, hk, hgt, fun j h h' => ?_⟩
      · simp only [r11_Sorted_L2, h0, h1, h2, cond_true, Option.bind_some, hc, decide_false, cond_false]
      · by_cases e : j = k
        · subst e; omega
        · have : a.2[j] < a.2[k] := List.pairwise_iff_getElem.1 hs j k h hkk (by omega)
          omega

theorem take_sortOf {l out : List Int} {v : Int} {i : Nat} (hi : i < l.length) (hv : l[i] = v) (h : SortOf (l.take i) out) (out' : List Int) (hs : out'.Pairwise (· < ·)) (hm : ∀ x, x ∈ out' ↔ x ∈ out ∨ x = v) : SortOf (l.take (i + 1)) out' := by
  refine ⟨hs, fun x => ?_⟩
  rw [hm, h.2, List.take_succ_eq_append_getElem hi]
  simp [hv]

theorem sorted_eq (l : List Int) (hl : l.length ≤ 1000000) : ∃ t, r11_Sorted l = some t ∧ SortOf l t ∧ t.length ≤ l.length := by
  have := loop_rng (f := r11_Sorted_L1 l) (σ := List Int) (fun k c => ((k : Int), c)) l.length (fun k c => SortOf (l.take k) c ∧ c.length ≤ k) (fun t => SortOf l t ∧ t.length ≤ l.length) ?_ ?_ (k0 := 0) (c0 := []) (by omega) ⟨⟨.nil, by simp⟩, by simp⟩
  · obtain ⟨b, h1, h2⟩ := this
    have h1 : loop (r11_Sorted_L1 l) (0, []) = some b := h1
    exact ⟨b, by unfold r11_Sorted; rw [h1]; rfl, h2⟩
  · intro k c hk hg
    obtain ⟨hg, hcl⟩ := hg
    have hb : decide ((k : Int) < (l.length : Int)) = true := decide_eq_true (by omega)
    obtain ⟨b, hb1, j, rfl, hj, hgt, hle⟩ := sorted_L2 ((k : Int), c) l k hk rfl (by simp; omega) hg.1
    simp only at hj hgt hle hb1
    refine .inl ?_
    simp only [r11_Sorted_L1, hb, cond_true, hb1, Option.bind_some, idx_lt hk]
    have hw : w64 ((k : Int) + 1) = ((k + 1 : Nat) : Int) := by rw [w64_id (by omega)]; omega
    by_cases heq : 0 < j ∧ ∃ h : j - 1 < c.length, c[j-1] = l[k]
    · obtain ⟨hj0, hlt, he⟩ := heq
      have h0 : decide ((j : Int) > 0) = true := decide_eq_true (by omega)
      have h1 : idx c (w64 ((j : Int) - 1)) = some (c[j-1]) := by rw [w64_id (by omega)]; exact idx_of (by omega) hlt
      refine ⟨c, by simp only [h0, h1, cond_true, Option.bind_some, he, beq_self_eq_true, hw], ?_, by omega⟩
      refine take_sortOf hk rfl hg c hg.1 fun x => ⟨.inl, ?_⟩
      rintro (h | rfl)
      · exact h
      · rw [← he]; exact List.getElem_mem hlt
    · have hc : (cond (decide ((j : Int) > 0)) ((idx c (w64 ((j : Int) - 1))).bind fun v281 => some (v281 == l[k])) (some false)) = some false := by
        by_cases hj0 : 0 < j
        · have hlt : j - 1 < c.length := by omega
          have h0 : decide ((j : Int) > 0) = true := decide_eq_true (by omega)
          have h1 : idx c (w64 ((j : Int) - 1)) = some (c[j-1]) := by rw [w64_id (by omega)]; exact idx_of (by omega) hlt
          simp only [h0, h1, cond_true, Option.bind_some]
          have : c[j-1] ≠ l[k] := fun e => heq ⟨hj0, hlt, e⟩
          simp [this]
        · have h0 : decide ((j : Int) > 0) = false := decide_eq_false (by omega)
          simp only [h0, cond_false]
      have hap : app 8 c [0] = some (c ++ [0]) := app_of (by simp; omega)
      have hs1 : sub2 (c ++ [0]).length (w64 ((j : Int) + 1)) ((c ++ [0]).length : Int) = some (j + 1, (c ++ [0]).length - (j + 1)) := by
        rw [w64_id (by omega)]; unfold sub2
        rw [if_pos ⟨by omega, by simp; omega, by omega⟩]
        congr 2
      have hs2 : sub2 (c ++ [0]).length (j : Int) ((c ++ [0]).length : Int) = some (j, (c ++ [0]).length - j) := by
        unfold sub2
        rw [if_pos ⟨by omega, by simp; omega, by omega⟩]
        congr 2
      simp only [hc, Option.bind_some, cond_false, hap, hs1, hs2]
      have hlen : j < (cpyw (c ++ [0]) (j + 1, (c ++ [0]).length - (j + 1)) (((c ++ [0]).drop j).take ((c ++ [0]).length - j))).length := by
        rw [cpyw_len (by simp; omega)]; simp; omega
      rw [idx_lt hlen]
      simp only [Option.bind_some, Int.toNat_natCast, insert_eq c l[k] j hj, hw]
      refine ⟨_, rfl, ?_, by simp; omega⟩
      refine take_sortOf hk rfl hg _ ?_ fun x => ?_
      · rw [List.pairwise_append]
        refine ⟨hg.1.sublist (List.take_sublist _ _), ?_, ?_⟩
        · rw [List.pairwise_cons]
          refine ⟨fun y hy => ?_, hg.1.sublist (List.drop_sublist _ _)⟩
          obtain ⟨i, hi, rfl⟩ := List.mem_iff_getElem.1 hy
          rw [List.getElem_drop]
          exact hgt _ _ (by omega)
        · intro y hy z hz
          obtain ⟨i, hi, rfl⟩ := List.mem_iff_getElem.1 hy
          rw [List.getElem_take]
          simp at hi
          have h1 := hle i (by omega) (by omega)
          have h2 : c[i] ≠ l[k] ∧ c[i] < l[k] ∨ c[i] = l[k] := by omega
          have h3 : c[i] < l[k] := by
            rcases h2 with h2 | h2
            · exact h2.2
            · exfalso
              by_cases e : i = j - 1
              · subst e; exact heq ⟨by omega, by omega, h2⟩
              · have : c[i] < c[j-1]'(by omega) := List.pairwise_iff_getElem.1 hg.1 i (j-1) (by omega) (by omega) (by omega)
                have := hle (j-1) (by omega) (by omega)
                omega
          rcases List.mem_cons.1 hz with rfl | hz
          · exact h3
          · obtain ⟨m, hm, rfl⟩ := List.mem_iff_getElem.1 hz
            rw [List.getElem_drop]
            simp at hm
            have := hgt (j + m) (by omega) (by omega)
            omega
      · constructor
        · intro h
          rcases List.mem_append.1 h with h | h
          · exact .inl (List.mem_of_mem_take h)
          · rcases List.mem_cons.1 h with h | h
            · exact .inr h
            · exact .inl (List.mem_of_mem_drop h)
        · rintro (h | rfl)
          · rw [← List.take_append_drop j c] at h
            rcases List.mem_append.1 h with h | h
            · exact List.mem_append_left _ h
            · exact List.mem_append_right _ (List.mem_cons_of_mem _ h)
          · simp
  · intro c hg
    have hb : decide ((l.length : Int) < (l.length : Int)) = false := decide_eq_false (by omega)
    simp only [r11_Sorted_L1, hb, cond_false]
    refine ⟨_, rfl, by simpa using hg.1, hg.2⟩

/-! ### Ends -/
def ends (s : List api_Span) : List Int := s.flatMap fun t => [t.Lo, t.Hi]
theorem mem_ends {s : List api_Span} {x : Int} : x ∈ ends s ↔ ∃ t ∈ s, x = t.Lo ∨ x = t.Hi := by simp [ends]
theorem ends_take {s : List api_Span} {k : Nat} (h : k < s.length) : ends (s.take (k + 1)) = ends (s.take k) ++ [s[k].Lo, s[k].Hi] := by
  unfold ends; rw [List.take_succ_eq_append_getElem h, List.flatMap_append]; simp
theorem ends_len (s : List api_Span) : (ends s).length = 2 * s.length := by
  induction s with
  | nil => rfl
  | cons t r ih => simp only [ends, List.flatMap_cons, List.length_append, List.length_cons, List.length_nil] at ih ⊢; omega
theorem ends_L1 (s : List api_Span) (c0 : List Int) (hs : s.length ≤ 100000) (hc : c0.length ≤ 200000) : loop (r11_Ends_L1 s) (0, c0) = some (c0 ++ ends s) := by
  have := loop_rng (f := r11_Ends_L1 s) (σ := List Int) (fun k c => ((k : Int), c)) s.length (fun k c => c = c0 ++ ends (s.take k)) (fun t => t = c0 ++ ends s) ?_ ?_ (k0 := 0) (c0 := c0) (by omega) (by simp [ends])
  · obtain ⟨b, h1, rfl⟩ := this; exact h1
  · rintro k c hk rfl
    have hb : decide ((k : Int) < (s.length : Int)) = true := decide_eq_true (by omega)
    refine .inl ⟨c0 ++ ends (s.take (k + 1)), ?_, rfl⟩
    simp only [r11_Ends_L1, hb, cond_true, idx_lt hk, Option.bind_some]
    rw [app_of (by simp [ends_len]; omega), w64_id (by omega), ends_take hk]
    simp
  · rintro c rfl
    have hb : decide ((s.length : Int) < (s.length : Int)) = false := decide_eq_false (by omega)
    simp [r11_Ends_L1, hb]
theorem ends_eq (p q : List api_Span) (hp : p.length ≤ 100000) (hq : q.length ≤ 100000) : ∃ t, r11_Ends p q = some t ∧ SortOf (ends p ++ ends q) t ∧ t.length ≤ 2 * (p.length + q.length) := by
  have h2 : loop (r11_Ends_L2 q) (0, ends p) = some (ends p ++ ends q) := ends_L1 q (ends p) hq (by rw [ends_len]; omega)
  obtain ⟨t, h3, h4, h5⟩ := sorted_eq (ends p ++ ends q) (by simp [ends_len]; omega)
  refine ⟨t, ?_, h4, by simp [ends_len] at h5; omega⟩
  unfold r11_Ends
  rw [ends_L1 p [] hp (by simp)]
  simp only [List.nil_append, Option.bind_some, h2, h3]
end Go.Sh
