/- PLAIN: the sorting of slices.SortFunc sorts (5). -/
import Derived.Test.YtcpogfjlehoabaaPg4
namespace Go.Sh
open Go Go.Am
theorem loop_none {α β : Type} {f : α → Option (α ⊕ β)} {a : α} (h : f a = none) : loop f a = none := by
  apply Option.ext
  intro b
  rw [loop_iff]
  constructor
  · rintro ⟨n, hn⟩
    cases n with
    | zero => simp [iter] at hn
    | succ n => simp [iter, h] at hn
  · intro h; cases h

section
variable {T : Type} [Inhabited T] {P : T → Prop} {lt : T → T → Bool} {q : T → T → Option Int}

/-- What an answer has of d between a and b. -/
def Srt (lt : T → T → Bool) (a b : Nat) (d : Array T) (o : Option (List T)) : Prop := ∃ d' : Array T, o = some d'.toList ∧ Sort.PermIn a b d d' ∧ Sort.SortedIn lt a b d'

theorem pdq_loop (hq : CmpOk q lt P) (hS : Sort.SWO lt) {n N : Nat} (rec : List T → Int → Int → Int → Option (List T))
    (hrec : ∀ (a b limit : Nat) (d : Array T), AllP n P d → a ≤ b → b ≤ n → limit ≤ 1000 → Sort.Below lt a b d → Srt lt a b d (rec d.toList (a : Int) (b : Int) (limit : Int)) ∨ (N ≤ b - a ∧ rec d.toList (a : Int) (b : Int) (limit : Int) = none)) :
    ∀ (m a b limit : Nat) (wb wp : Bool) (d : Array T), b - a = m → AllP n P d → a ≤ b → b ≤ n → limit ≤ 1000 → Sort.Below lt a b d →
      Srt lt a b d (loop (g_pdqsort_L1 q rec) ((a : Int), (b : Int), (limit : Int), wb, wp, d.toList)) ∨ (N + 1 ≤ b - a ∧ loop (g_pdqsort_L1 q rec) ((a : Int), (b : Int), (limit : Int), wb, wp, d.toList) = none) := by
  intro m
  induction m using Nat.strongRecOn with
  | _ m ih =>
    intro a b limit wb wp d hm hd hab hb hl hB
    have hsz := hd.1
    have hn := hd.2.1
    have e0 : w64 ((b : Int) - (a : Int)) = ((b - a : Nat) : Int) := wsub hab (by omega)
    by_cases h12 : b - a ≤ 12
    · -- insertion sort
      have t : decide (((b - a : Nat) : Int) ≤ 12) = true := decide_eq_true (by omega)
      obtain ⟨x, y⟩ := Sort.insertionSort_holds (lt := lt) hS d a b hab (by omega)
      have s := insertionSort_sim hq hb hab hd
      refine .inl ⟨_, loop_done ?_, x, y⟩
      simp only [g_pdqsort_L1, e0, t, cond_true, s, Option.bind_some, lenEqA hd (hd.perm hab hb x)]
    have t12 : decide (((b - a : Nat) : Int) ≤ 12) = false := decide_eq_false (by omega)
    by_cases h0 : limit = 0
    · -- heap sort
      have t : ((limit : Int) == 0) = true := by simp [h0]
      obtain ⟨x, y⟩ := Sort.heapSort_holds (lt := lt) hS d a b hab (by omega)
      have s := heapSort_sim hq hb (by omega : a < b) hd
      refine .inl ⟨_, loop_done ?_, x, y⟩
      simp only [g_pdqsort_L1, e0, t12, cond_false, t, cond_true, s, Option.bind_some, lenEqA hd (hd.perm hab hb x)]
    have t0 : ((limit : Int) == 0) = false := by simp [h0]
    have hA : ∃ (l1 : Nat) (d1 : Array T), (cond (!wb) ((g_breakPatterns q d.toList (a : Int) (b : Int)).bind fun e341 => (lenEq e341.length d.toList.length).bind fun u343 => some (w64 ((limit : Int) - 1), e341)) (some ((limit : Int), d.toList))) = some ((l1 : Int), d1.toList) ∧ l1 ≤ 1000 ∧ AllP n P d1 ∧ Sort.PermIn a b d d1 := by
      cases wb with
      | true => exact ⟨limit, d, rfl, hl, hd, Sort.permIn_refl _ _ _⟩
      | false =>
        have x := Sort.breakPatterns_holds d a b hab (by omega)
        have hd1 := hd.perm hab hb x
        have w : w64 ((limit : Int) - 1) = ((limit - 1 : Nat) : Int) := by rw [w64_id (by omega)]; omega
        refine ⟨limit - 1, _, ?_, by omega, hd1, x⟩
        simp only [Bool.not_false, cond_true, breakPatterns_sim (q := q) hb (by omega : a < b) hd, Option.bind_some, lenEqA hd hd1, w]
    obtain ⟨l1, d1, eA, hl1, hd1, p1⟩ := hA
    have hC := choosePivot_sim hq hd1 (by omega : a < b) hb
    obtain ⟨c1, c2⟩ := Sort.choosePivot_holds lt d1 a b (by omega)
    generalize (Sort.choosePivot lt d1 a b).1 = c at hC c1 c2
    generalize hintI (Sort.choosePivot lt d1 a b).2 = h at hC
    have hR : ∃ (p : Nat) (h2 : Int) (d2 : Array T), (cond (h == 2) ((g_reverseRange q d1.toList (a : Int) (b : Int)).bind fun e356 => (lenEq e356.length d1.toList.length).bind fun u358 => some (w64 ((w64 ((b : Int) - 1)) - (w64 ((c : Int) - (a : Int)))), (1 : Int), e356)) (some ((c : Int), h, d1.toList))) = some ((p : Int), h2, d2.toList) ∧ a ≤ p ∧ p < b ∧ AllP n P d2 ∧ Sort.PermIn a b d1 d2 := by
      cases hh : (h == 2) with
      | false => exact ⟨c, h, d1, rfl, c1, c2, hd1, Sort.permIn_refl _ _ _⟩
      | true =>
        have x := Sort.reverseRange_holds d1 a b hab (by rw [hd1.1]; exact hb)
        have hd2 := hd1.perm hab hb x
        have w1 : w64 ((b : Int) - 1) = ((b - 1 : Nat) : Int) := by rw [w64_id (by omega)]; omega
        have w2 : w64 ((c : Int) - (a : Int)) = ((c - a : Nat) : Int) := wsub c1 (by omega)
        have w3 : w64 (((b - 1 : Nat) : Int) - ((c - a : Nat) : Int)) = ((b - 1 - (c - a) : Nat) : Int) := wsub (by omega) (by omega)
        refine ⟨b - 1 - (c - a), 1, _, ?_, by omega, by omega, hd2, x⟩
        simp only [cond_true, reverseRange_sim (q := q) hb (by omega : a < b) hd1, Option.bind_some, lenEqA hd1 hd2, w1, w2, w3]
    obtain ⟨p, h2, d2, eR, hp1, hp2, hd2, p2⟩ := hR
    have hB2 : Sort.Below lt a b d2 := (hB.perm (by omega) p1).perm (by rw [hd1.1]; exact hb) p2
    have p12 := Sort.permIn_trans _ _ _ a b p1 p2
    have hP : ∀ cc : Bool, ∃ m376 : (List T) ⊕ (List T), (cond cc ((g_partialInsertionSort q d2.toList (a : Int) (b : Int)).bind fun e378 => (lenEq e378.2.length d2.toList.length).bind fun u380 => cond e378.1 (some (.inr e378.2)) (some (.inl e378.2))) (some (.inl d2.toList)) : Option ((List T) ⊕ (List T))) = some m376 ∧
        ((∃ d3 : Array T, m376 = .inr d3.toList ∧ Sort.PermIn a b d2 d3 ∧ Sort.SortedIn lt a b d3) ∨ (∃ d3 : Array T, m376 = .inl d3.toList ∧ AllP n P d3 ∧ Sort.PermIn a b d2 d3)) := by
      intro cc
      cases cc with
      | false => exact ⟨_, rfl, .inr ⟨d2, rfl, hd2, Sort.permIn_refl _ _ _⟩⟩
      | true =>
        obtain ⟨x, y⟩ := Sort.partialInsertionSort_holds (lt := lt) hS d2 a b (by omega) (by rw [hd2.1]; exact hb) hB2
        have hd3 := hd2.perm hab hb x
        have s := partialInsertionSort_sim hq hb (by omega : a < b) hd2
        simp only [cond_true, s, Option.bind_some, lenEqA hd2 hd3]
        cases hz : (Sort.partialInsertionSort lt d2 a b).2 with
        | true => exact ⟨_, rfl, .inl ⟨_, rfl, x, y hz⟩⟩
        | false => exact ⟨_, rfl, .inr ⟨_, rfl, hd3, x⟩⟩
    obtain ⟨m376, eP, hm3⟩ := hP (wb && wp && (h2 == 1))
    have hBB : ∀ {γ : Type} (X : Bool → Option γ), ((cond wb (some wp) (some false)).bind fun c361 => (cond c361 (some (h2 == 1)) (some false)).bind X) = X (wb && wp && (h2 == 1)) := by
      intro γ X; cases wb <;> cases wp <;> rfl
    have head : g_pdqsort_L1 q rec ((a : Int), (b : Int), (limit : Int), wb, wp, d.toList) = (match (generalizing := false) m376 with | .inl b377 => (cond (decide ((a : Int) > 0)) ((idx b377 (w64 ((a : Int) - 1))).bind fun v405 => (idx b377 (p : Int)).bind fun v407 => (q v405 v407).bind fun r409 => some (!(decide (r409 < 0)))) (some false)).bind fun c389 => cond c389 ((g_partitionEqual q b377 (a : Int) (b : Int) (p : Int)).bind fun e416 => (lenEq e416.2.length b377.length).bind fun u418 => some (.inl (e416.1, (b : Int), (l1 : Int), wb, wp, e416.2))) ((g_partition q b377 (a : Int) (b : Int) (p : Int)).bind fun e421 => (lenEq e421.2.2.length b377.length).bind fun u423 => cond (decide ((w64 (e421.1 - (a : Int))) < (w64 ((b : Int) - e421.1)))) ((rec e421.2.2 (a : Int) e421.1 (l1 : Int)).bind fun e426 => (lenEq e426.length e421.2.2.length).bind fun u428 => some (.inl (w64 (e421.1 + 1), (b : Int), (l1 : Int), decide ((w64 (e421.1 - (a : Int))) ≥ (w64 (Int.tdiv ((b - a : Nat) : Int) 8))), e421.2.1, e426))) ((rec e421.2.2 (w64 (e421.1 + 1)) (b : Int) (l1 : Int)).bind fun e431 => (lenEq e431.length e421.2.2.length).bind fun u433 => some (.inl ((a : Int), e421.1, (l1 : Int), decide ((w64 ((b : Int) - e421.1)) ≥ (w64 (Int.tdiv ((b - a : Nat) : Int) 8))), e421.2.1, e431)))) | .inr x1 => some (.inr x1)) := by
      simp only [g_pdqsort_L1, e0, t12, cond_false, t0, eA, Option.bind_some, hC, eR, hBB, eP]
      clear eP hm3 hP hrec ih
      cases m376 <;> rfl
    rcases hm3 with ⟨d3, rfl, x, y⟩ | ⟨d3, rfl, hd3, p3⟩
    · refine .inl ⟨d3, loop_done ?_, Sort.permIn_trans _ _ _ a b p12 x, y⟩
      rw [head]
    have hs3 := hd3.1
    have P3 := Sort.permIn_trans _ _ _ a b p12 p3
    have B3 : Sort.Below lt a b d3 := hB2.perm (by rw [hd2.1]; exact hb) p3
    have hTest : (cond (decide ((a : Int) > 0)) ((idx d3.toList (w64 ((a : Int) - 1))).bind fun v405 => (idx d3.toList (p : Int)).bind fun v407 => (q v405 v407).bind fun r409 => some (!(decide (r409 < 0)))) (some false)) = some (decide (a > 0) && !lt d3[a - 1]! d3[p]!) := by
      by_cases ha : a > 0
      · have ta : decide ((a : Int) > 0) = true := decide_eq_true (by omega)
        have w : w64 ((a : Int) - 1) = ((a - 1 : Nat) : Int) := by rw [w64_id (by omega)]; omega
        obtain ⟨r, h1, h2⟩ := hq d3[a - 1]! d3[p]! (hd3.2.2 _ (by omega)) (hd3.2.2 _ (by omega))
        simp only [ta, cond_true, w, gx (d := d3) (k := a - 1) (by omega), gx (d := d3) (k := p) (by omega), Option.bind_some, h1, h2, decide_eq_true ha, Bool.true_and]
      · have ta : decide ((a : Int) > 0) = false := decide_eq_false (by omega)
        simp only [ta, cond_false, decide_eq_false ha, Bool.false_and]
    simp only [hTest, Option.bind_some] at head
    by_cases hc : (decide (a > 0) && !lt d3[a - 1]! d3[p]!) = true
    · -- partitionEqual
      rw [hc] at head
      have s := partitionEqual_sim hq hb (by omega : a < b) (by omega : p < n) hd3
      simp only [Bool.and_eq_true, decide_eq_true_eq, Bool.not_eq_true'] at hc
      cases hx : Sort.partitionEqual lt d3 a b p with
      | mk mid d4 =>
        obtain ⟨g1, g2, hs4, hB4, hfin⟩ := Sort.round_eq hS (Sort.partitionEqual_holds lt) hc.1 hp1 hp2 (by rw [hs3]; exact hb) B3 hc.2 hx
        have hge : ∀ i, a ≤ i → i < b → lt d3[i]! d3[p]! = false := fun i hi hi' => by
          rcases B3 with h0 | hB
          · omega
          · exact hS.ntrans _ _ _ (hB i hi hi') hc.2
        obtain ⟨_, _, hperm, _, _⟩ := Sort.partitionEqual_holds lt hS d3 a b p hp1 hp2 (by rw [hs3]; exact hb) hge
        rw [hx] at hperm s
        have hd4 := hd3.perm hab hb hperm
        simp only [cond_true, s, Option.bind_some, lenEqA hd3 hd4] at head
        rw [loop_next head]
        rcases ih (b - mid) (by omega) mid b l1 wb wp d4 rfl hd4 g2 hb hl1 hB4 with ⟨R, r0, r1, r2⟩ | ⟨r1, r2⟩
        · obtain ⟨q1, q2⟩ := hfin _ r1 r2
          exact .inl ⟨R, r0, Sort.permIn_trans _ _ _ a b P3 q1, q2⟩
        · exact .inr ⟨by omega, r2⟩
    · -- partition
      have hc : (decide (a > 0) && !lt d3[a - 1]! d3[p]!) = false := by simpa using hc
      rw [hc] at head
      have s := partition_sim hq hb (by omega : a < b) (by omega : p < n) hd3
      cases hx : Sort.partition lt d3 a b p with
      | mk mid r =>
      cases r with
      | mk ap d4 =>
        obtain ⟨g1, g2, hs4, hBa, hBr, hleft, hright⟩ := Sort.round_part hS (Sort.partition_holds lt) hp1 hp2 (by rw [hs3]; exact hb) B3 hx
        obtain ⟨_, _, hperm, _, _⟩ := Sort.partition_holds lt hS d3 a b p hp1 hp2 (by rw [hs3]; exact hb)
        rw [hx] at hperm s
        have hd4 := hd3.perm hab hb hperm
        have w1 : w64 ((mid : Int) - (a : Int)) = ((mid - a : Nat) : Int) := wsub g1 (by omega)
        have w2 : w64 ((b : Int) - (mid : Int)) = ((b - mid : Nat) : Int) := wsub (by omega) (by omega)
        simp only [cond_false, s, Option.bind_some, lenEqA hd3 hd4, w1, w2, w1p mid (by omega)] at head
        by_cases hlt : mid - a < b - mid
        · have tl : decide (((mid - a : Nat) : Int) < ((b - mid : Nat) : Int)) = true := decide_eq_true (by omega)
          simp only [tl, cond_true] at head
          rcases hrec a mid l1 d4 hd4 g1 (by omega) hl1 hBa with ⟨L, e, l1', l2'⟩ | ⟨r1, r2⟩
          · have hdL := hd4.perm g1 (by omega) l1'
            obtain ⟨hBL, hfin⟩ := hleft _ l1' l2'
            simp only [e, Option.bind_some, lenEqA hd4 hdL] at head
            rw [loop_next head]
            rcases ih (b - (mid + 1)) (by omega) (mid + 1) b l1 _ _ L rfl hdL (by omega) hb hl1 hBL with ⟨R, r0, r1, r2⟩ | ⟨r1, r2⟩
            · obtain ⟨q1, q2⟩ := hfin _ r1 r2
              exact .inl ⟨R, r0, Sort.permIn_trans _ _ _ a b P3 q1, q2⟩
            · exact .inr ⟨by omega, r2⟩
          · simp only [r2, Option.bind_none] at head
            exact .inr ⟨by omega, loop_none head⟩
        · have tl : decide (((mid - a : Nat) : Int) < ((b - mid : Nat) : Int)) = false := decide_eq_false (by omega)
          simp only [tl, cond_false] at head
          rcases hrec (mid + 1) b l1 d4 hd4 (by omega) hb hl1 hBr with ⟨L, e, l1', l2'⟩ | ⟨r1, r2⟩
          · have hdL := hd4.perm (by omega : mid + 1 ≤ b) hb l1'
            obtain ⟨hBL, hfin⟩ := hright _ l1' l2'
            simp only [e, Option.bind_some, lenEqA hd4 hdL] at head
            rw [loop_next head]
            rcases ih (mid - a) (by omega) a mid l1 _ _ L rfl hdL g1 (by omega) hl1 hBL with ⟨R, r0, r1, r2⟩ | ⟨r1, r2⟩
            · obtain ⟨q1, q2⟩ := hfin _ r1 r2
              exact .inl ⟨R, r0, Sort.permIn_trans _ _ _ a b P3 q1, q2⟩
            · exact .inr ⟨by omega, r2⟩
          · simp only [r2, Option.bind_none] at head
            exact .inr ⟨by omega, loop_none head⟩

theorem pdq_all (hq : CmpOk q lt P) (hS : Sort.SWO lt) {n : Nat} : ∀ (N a b limit : Nat) (d : Array T), AllP n P d → a ≤ b → b ≤ n → limit ≤ 1000 → Sort.Below lt a b d →
    Srt lt a b d (g_pdqsort N q d.toList (a : Int) (b : Int) (limit : Int)) ∨ (N ≤ b - a ∧ g_pdqsort N q d.toList (a : Int) (b : Int) (limit : Int) = none)
  | 0, a, b, limit, d, _, _, _, _, _ => .inr ⟨by omega, rfl⟩
  | N + 1, a, b, limit, d, hd, hab, hb, hl, hB => by
    have h := pdq_loop hq hS (N := N) (g_pdqsort N q) (fun a b limit d h1 h2 h3 h4 h5 => pdq_all hq hS N a b limit d h1 h2 h3 h4 h5) _ a b limit true true d rfl hd hab hb hl hB
    have e : g_pdqsort (N + 1) q d.toList (a : Int) (b : Int) (limit : Int) = loop (g_pdqsort_L1 q (g_pdqsort N q)) ((a : Int), (b : Int), (limit : Int), true, true, d.toList) := by
      show g_pdqsort_b (g_pdqsort N q) q d.toList (a : Int) (b : Int) (limit : Int) = _
      unfold g_pdqsort_b
      cases loop (g_pdqsort_L1 q (g_pdqsort N q)) ((a : Int), (b : Int), (limit : Int), true, true, d.toList) <;> rfl
    rw [e]
    exact h

/-- **slices.SortFunc sorts.** -/
theorem sortFunc_eq (hq : CmpOk q lt P) (hS : Sort.SWO lt) (xs : List T) (hl : xs.length ≤ 1000000) (hP : ∀ x ∈ xs, P x) :
    ∃ ys, g_SortFunc q xs = some ys ∧ ys.Perm xs ∧ ys.Pairwise (fun x y => lt y x = false) := by
  have hd : AllP xs.length P xs.toArray := by
    refine ⟨by simp, hl, fun i hi => ?_⟩
    have : xs.toArray[i]! = xs[i] := by simp [hi]
    rw [this]; exact hP _ (List.getElem_mem hi)
  have hk : Sort.bitsLen xs.length ≤ 20 := (Sort.bitsLen_le_iff _ 20).2 (by omega)
  have hall : ∀ N, _ := fun N => pdq_all hq hS N 0 xs.length (Sort.bitsLen xs.length) xs.toArray hd (by omega) (by omega) (by omega) (.inl rfl)
  have h1 := hall (xs.length + 1)
  rcases h1 with ⟨d', e, _, _⟩ | ⟨h, _⟩
  · obtain ⟨r, hr⟩ := lim_ex (f := fun N => g_pdqsort N q xs 0 (xs.length : Int) ((Sort.bitsLen xs.length : Nat) : Int)) e
    obtain ⟨N, hN⟩ := lim_some hr
    have hN : g_pdqsort N q xs 0 (xs.length : Int) ((Sort.bitsLen xs.length : Nat) : Int) = some r := hN
    rcases hall N with ⟨d2, e2, x, y⟩ | ⟨_, e2⟩
    · have e2 : g_pdqsort N q xs 0 (xs.length : Int) ((Sort.bitsLen xs.length : Nat) : Int) = some d2.toList := e2
      rw [hN] at e2
      obtain rfl : r = d2.toList := Option.some.inj e2
      have hsz : d2.size = xs.length := by rw [x.1]; simp
      refine ⟨d2.toList, ?_, ?_, ?_⟩
      · unfold g_SortFunc
        rw [wrapU64, show ((xs.length : Int) % 18446744073709551616) = (xs.length : Int) by omega, len_eq _ hl]
        simp only [Option.bind_some, hr]
        unfold lenEq
        rw [if_pos (by simp [hsz])]
        rfl
      · have := x.2.2
        have t1 : d2.extract 0 xs.length = d2 := by rw [← hsz]; simp
        have t2 : xs.toArray.extract 0 xs.length = xs.toArray := by simp
        rw [t1, t2] at this
        exact this
      · rw [List.pairwise_iff_getElem]
        intro i j hi hj hij
        have hi2 : i < d2.size := by simpa using hi
        have hj2 : j < d2.size := by simpa using hj
        have := y i j (by omega) hij (by omega)
        rw [getElem!_pos d2 i hi2, getElem!_pos d2 j hj2] at this
        simpa using this
    · have e2 : g_pdqsort N q xs 0 (xs.length : Int) ((Sort.bitsLen xs.length : Nat) : Int) = none := e2
      rw [hN] at e2; cases e2
  · omega
end
end Go.Sh
