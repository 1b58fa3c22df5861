/- A REGION THAT DRAWS ITS ORDER: any order is as good as the text's. -/
import Derived.Test.YtlchefooafpdlaaAm22b
namespace Go.Am
open Go
variable {P : Program} {T : Tab}
section
variable {base : Nat} {w : World} {Z : Nat → Prop} {inj : Inj} {st st1 st2 : AS} {a : Act} {Ds : List Nat} {ops : Array Oper} {o : Oper}

structure AgreeF (ops : Array Oper) (o : Oper) (x : Fp) (st st2 : AS) : Prop where
  blk : AgreeB x st st2
  sl : ∀ t ∈ reads ops o, st2.get t = st.get t

theorem AgreeF.ev {x : Fp} (h : AgreeF ops o x st st2) {y : Operand} (hx : y ∈ o.op.operands) : st2.ev y = st.ev y := by
  cases y with
  | tmp t => exact h.sl t (List.mem_append_left _ (by unfold slotsOf; rw [List.mem_filterMap]; exact ⟨.tmp t, by simpa using hx, rfl⟩))
  | const v => rfl
  | func f => rfl
  | global g => rfl

theorem AgreeF.guard {x : Fp} (h : AgreeF ops o x st st2) : guardOk ops st2 o = guardOk ops st o := by
  have hs := h.sl
  unfold reads at hs
  unfold guardOk
  cases hg : o.guard with
  | none => rfl
  | some jw =>
    obtain ⟨j, want⟩ := jw
    simp only [hg] at hs
    simp only
    cases hd : (ops[j]?).bind (·.dst) with
    | none => rfl
    | some t =>
      simp only [hd] at hs
      simp only
      rw [hs t (by simp)]

theorem AgreeF.callee {x : Fp} (h : AgreeF ops o x st st2) {c : Call} (ho : o.op = .call c) : callee st2 c = callee st c := by
  obtain ⟨cal, args, argTypes⟩ := c
  unfold Am.callee
  cases cal with
  | builtin b => rfl
  | invoke r n => rfl
  | value f =>
    simp only
    rw [h.ev (y := f) (by rw [ho]; simp [Op.operands, Call.operands]), evL_congr (fun x hx => h.ev (y := x) (by rw [ho]; simp [Op.operands, Call.operands]; exact .inr (by simpa using hx)))]

theorem get_putD {st : AS} {d : Option Tmp} {v : V} {t : Tmp} : (st.putD d v).get t = if d = some t then some v else st.get t := by
  cases d with
  | none => simp [AS.putD]
  | some d => simp only [AS.putD, AS.put, AS.get, find_cons, Option.some.injEq]

/-! A row that is frozen as it is made -/
theorem wv_self {w : World} {Z : Nat → Prop} {inj : Inj} {nx : Nat} {fz : List Nat} {st0 : AS} {v : V} {x : Value} (h : RelV w Z inj nx v x) : Wv st0 (fun n => n) fz [] nx v v := by
  induction h with
  | d h => exact .d (.refl _)
  | @agg ds cs hl _ ih =>
    exact .agg rfl fun i c d hc hd => by
      rw [hc] at hd; cases hd
      obtain ⟨y, hy⟩ := ex_getA (xs := cs) (i := i) (by rw [← hl]; exact lt_size hc)
      exact ih i c y hc hy
  | @tup ds cs hl _ ih =>
    exact .tup rfl fun i c d hc hd => by
      rw [hc] at hd; cases hd
      obtain ⟨y, hy⟩ := ex_getA (xs := cs) (i := i) (by rw [← hl]; exact lt_size hc)
      exact ih i c y hc hy
  | @fn f ds cs hl _ ih =>
    exact .fn rfl fun i c d hc hd => by
      rw [hc] at hd; cases hd
      obtain ⟨y, hy⟩ := ex_getA (xs := cs) (i := i) (by rw [← hl]; exact lt_size hc)
      exact ih i c y hc hy
  | ref h1 h2 => exact .ref rfl (by simp) h1
  | @dref cs j _ _ _ _ _ => exact .dref cs j
  | hsnil h1 => exact .hs rfl (by simp) h1
  | hs h1 _ _ _ => exact .hs rfl (by simp) h1
  | yld h1 _ => exact .yld rfl (by simp) h1
  | dead v => exact .dead _
theorem wb_self {w : World} {Z : Nat → Prop} {inj : Inj} {nx n : Nat} {fz : List Nat} {st0 : AS} {b : Blk} (h : RelB w Z inj nx n b) : Wb st0 (fun n => n) fz [] nx b b := by
  cases b with
  | dead => exact .dead _
  | dat es xs => exact .dat _ _
  | cel es xs =>
    obtain ⟨_, _, h3⟩ := h
    refine .cel rfl fun i x y hx hy => ?_
    rw [hx] at hy; cases hy
    refine ⟨rfl, fun j c d hc hd => ?_⟩
    rw [hc] at hd; cases hd
    rcases h3 with ⟨rfl, _⟩ | ⟨b, o, arr, ty, _, _, h5⟩
    · simp at hx
    · obtain ⟨h6, c', _, h8⟩ := h5 i x j c hx hc
      exact ⟨wv_self h8, h6⟩
  | loop s ps assign body dn pe =>
    obtain ⟨b, tmps, D, fn, _, _, _, h4⟩ := h
    refine .loop fun t v' hv => ?_
    obtain ⟨x, _, hr⟩ := h4 t v' hv
    exact ⟨v', hv, wv_self hr⟩
theorem freeze_wk {w' : World} {Z' : Nat → Prop} {inj' : Inj} {a' : Act} {Ds' : List Nat} {dst : Option Tmp} {n es : Nat} {xs : List (List DV)} {hp2 : List (Nat × Blk)} (h1 : RelS w' Z' inj' (st1.putD dst (.hs n es 0 xs.length)) a' Ds') (hh : st1.hp = (n, .dat es xs) :: hp2) (hf : find hp2 n = none) (hn : base ≤ n) (h4 : base ≤ st1.nx) :
    Wk base (fun n => n) [n] [] (st1.putD dst (.hs n es 0 xs.length)) (({ sl := st1.sl, hp := hp2, nx := st1.nx } : AS).putD dst (.d (.sl es xs))) := by
  have hnx : (({ sl := st1.sl, hp := hp2, nx := st1.nx } : AS).putD dst (.d (.sl es xs))).nx = st1.nx := putD_nx _ _ _
  have hhp : (({ sl := st1.sl, hp := hp2, nx := st1.nx } : AS).putD dst (.d (.sl es xs))).hp = hp2 := putD_hp _ _ _
  have hblk : ∀ m b, find hp2 m = some b → m ≠ n ∧ find (st1.putD dst (.hs n es 0 xs.length)).hp m = some b := by
    intro m b hm
    have hne : m ≠ n := by rintro rfl; rw [hf] at hm; cases hm
    refine ⟨hne, ?_⟩
    rw [putD_hp, hh, find_cons, if_neg (by intro e; exact hne e.symm)]; exact hm
  refine ⟨?_, ?_, ?_, ?_, fun _ _ => rfl, by rw [hnx]; exact h4, fun m hm => by simp at hm; omega, fun m hm => by cases hm⟩
  · intro t v' hv
    rw [hnx]
    rw [get_putD] at hv
    by_cases ht : dst = some t
    · rw [if_pos ht] at hv; cases hv
      refine ⟨_, by rw [get_putD, if_pos ht], .frz (k := es) (xs := xs) ?_ (by simp) (by omega) (by simp) rfl⟩
      show find (st1.putD dst _).hp n = _
      rw [putD_hp, hh, find_cons, if_pos rfl]
    · rw [if_neg ht] at hv
      have hg : (st1.putD dst (.hs n es 0 xs.length)).get t = some v' := by rw [get_putD, if_neg ht]; exact hv
      obtain ⟨x, _, hr⟩ := h1.slots t v' hg
      rw [putD_nx] at hr
      exact ⟨v', hg, wv_self hr⟩
  · intro m b' hm
    rw [hnx]
    unfold AS.blk at hm
    rw [hhp] at hm
    obtain ⟨hne, hm'⟩ := hblk m b' hm
    obtain ⟨k1, k2⟩ := h1.heap.blk m b' hm'
    rw [putD_nx] at k1 k2
    exact ⟨k1, .inr ⟨by simp, b', hm', wb_self k2⟩⟩
  · intro m k b c _ _ _ _ e; exact e
  · intro m b hm _ hc
    unfold AS.blk at hm
    rw [hhp] at hm
    simp at hc
    exact (hblk m b hm).1 hc
theorem post_freeze {w : World} {Z : Nat → Prop} {inj : Inj} {a a' : Act} {Ds : List Nat} {w' : World} {dst : Option Tmp} {n es : Nat} {xs : List (List DV)} {hp2 : List (Nat × Blk)}
    (h : PostAt base w Z inj st a Ds (st1.putD dst (.hs n es 0 xs.length)) a' w') (hh : st1.hp = (n, .dat es xs) :: hp2) (hf : find hp2 n = none) (hn : base ≤ n) :
    PostAt base w Z inj st a Ds (({ sl := st1.sl, hp := hp2, nx := st1.nx } : AS).putD dst (.d (.sl es xs))) a' w' := by
  obtain ⟨Z', inj', Ds', h1, h2, h3, h4, h5⟩ := h
  obtain ⟨hrel, hext⟩ := wk_sound h1 (freeze_wk h1 hh hf hn (by rw [putD_nx] at h4; exact h4))
  exact ⟨_, _, Ds', hrel, h2.trans hext (Nat.le_refl _), h3, by rw [putD_nx]; rw [putD_nx] at h4; exact h4, h5⟩
theorem good_opF {n es : Nat} {xs : List (List DV)} {hp2 : List (Nat × Blk)} (hT : TabOk P T) (hg : guardOk ops st o = some true) (ho : opFn T st o.op = some (.hs n es 0 xs.length, st1)) (hn : st.nx ≤ n) (hh : st1.hp = (n, .dat es xs) :: hp2) (hf : find hp2 n = none) :
    SeqGood P base ops o st (({ sl := st1.sl, hp := hp2, nx := st1.nx } : AS).putD o.dst (.d (.sl es xs))) := by
  intro ro Q w Z inj a Ds K h hd hb hro hK
  exact good_op hT hg ho ro Q w Z inj a Ds K h hd hb hro fun a' w' hp => hK a' w' (post_freeze hp hh hf (Nat.le_trans hb hn))
/-! A call that sees some blocks alone: names of blocks -/
theorem relV_inj {w : World} {Z : Nat → Prop} {inj inj' : Inj} {nx : Nat} {v : V} {x : Value} (h : RelV w Z inj nx v x) (hi : ∀ n p, n < nx → inj n = some p → inj' n = some p) : RelV w Z inj' nx v x := by
  induction h with
  | d h => exact .d h
  | agg hl _ ih => exact .agg hl ih
  | tup hl _ ih => exact .tup hl ih
  | fn hl _ ih => exact .fn hl ih
  | ref h1 h2 => exact .ref h1 (hi _ _ h1 h2)
  | dref h1 h2 h3 => exact .dref h1 h2 h3
  | hsnil h1 => exact .hsnil h1
  | hs h1 h2 hsp h3 =>
    refine .hs h1 h2 hsp fun hc => ?_
    obtain ⟨b, o, e1, e2, e3⟩ := h3 hc
    exact ⟨b, o, hi _ _ h1 e1, e2, e3⟩
  | yld h1 h2 => exact .yld h1 (hi _ _ h1 h2)
  | dead v => exact .dead v
theorem relB_inj {w : World} {Z : Nat → Prop} {inj inj' : Inj} {nx n : Nat} {b : Blk} (h : RelB w Z inj nx n b) (hi : ∀ n p, n < nx → inj n = some p → inj' n = some p) (hn : n < nx) (hnone : inj n = none → inj' n = none) : RelB w Z inj' nx n b := by
  cases b with
  | dead => trivial
  | dat es xs =>
    obtain ⟨h1, h2, h3⟩ := h
    refine ⟨h1, h2, ?_⟩
    rcases h3 with ⟨h3, h4⟩ | ⟨b, o, arr, ty, h3, h4, h5⟩
    · exact .inl ⟨h3, hnone h4⟩
    · exact .inr ⟨b, o, arr, ty, hi _ _ hn h3, h4, h5⟩
  | cel es xs =>
    obtain ⟨h1, h2, h3⟩ := h
    refine ⟨h1, h2, ?_⟩
    rcases h3 with ⟨h3, h4⟩ | ⟨b, o, arr, ty, h3, h4, h5⟩
    · exact .inl ⟨h3, hnone h4⟩
    · refine .inr ⟨b, o, arr, ty, hi _ _ hn h3, h4, fun i x j d hx hd => ?_⟩
      obtain ⟨h6, c, h7, h8⟩ := h5 i x j d hx hd
      exact ⟨h6, c, h7, relV_inj h8 hi⟩
  | loop s ps assign body dn pe =>
    obtain ⟨b, tmps, D, fn, h1, h2, h3, h4⟩ := h
    refine ⟨b, tmps, D, fn, hi _ _ hn h1, h2, h3, fun t v ht => ?_⟩
    obtain ⟨x, hx, hr⟩ := h4 t v ht
    exact ⟨x, hx, relV_inj hr hi⟩


/-! ### An operation that finds some numbers kept for it -/
def PostR (base lo hi : Nat) (w : World) (Z : Nat → Prop) (inj : Inj) (st : AS) (a : Act) (Ds : List Nat) (st' : AS) (a' : Act) (w' : World) : Prop :=
  ∃ Z' inj' Ds', RelS w' Z' inj' st' a' Ds' ∧ Ext w Z inj st.hp w' Z' inj' st'.hp base ∧ a'.tmps.size = a.tmps.size ∧ (∀ D ∈ Ds', D ∈ Ds ∨ w.heap.size ≤ D) ∧ ∀ m, m < st.nx → (m < lo ∨ hi ≤ m) → inj' m = inj m
def GoodR (P : Program) (base : Nat) (ops : Array Oper) (o : Oper) (st st' : AS) (lo hi : Nat) : Prop :=
  ∀ (ro : Option Nat) (Q : Exit → Act → World → Prop) (w : World) (Z : Nat → Prop) (inj : Inj) (a : Act) (Ds : List Nat) (K : Act → World → Prop), RelS w Z inj st a Ds → dstOk a.tmps.size o.dst = true → base ≤ lo → base ≤ st.nx → roundOk ro w → (∀ m, lo ≤ m → m < hi → inj m = none) →
    (∀ a' w', PostR base lo hi w Z inj st a Ds st' a' w' → K a' w') → stepO P (Fw ro) ops Q o K a w

theorem goodR_of {st' : AS} {lo hi : Nat} (h : SeqGood P st.nx ops o st st') : GoodR P base ops o st st' lo hi := by
  intro ro Q w Z inj a Ds K hr hd _ hb hro _ hK
  refine h ro Q w Z inj a Ds K hr hd (Nat.le_refl _) hro fun a' w' hp => hK a' w' ?_
  obtain ⟨Z', inj', Ds', h1, h2, h3, h4, h5⟩ := hp
  exact ⟨Z', inj', Ds', h1, h2.pin_le hb, h3, h5, fun m hm _ => h2.pinj m hm⟩

theorem relV_lower {w : World} {Z : Nat → Prop} {inj : Inj} {w' : World} {Z' : Nat → Prop} {inj' inj2 : Inj} {N N' : Nat} {v : V} {x x' : Value} (h : RelV w Z inj N v x) (h' : RelV w' Z' inj' N' v x') (hi : ∀ m p, m < N → inj' m = some p → inj2 m = some p) : RelV w' Z' inj2 N v x' := by
  induction h' generalizing x with
  | d h' => exact .d h'
  | @agg ds cs hl _ ih =>
    cases h with | @agg _ cs0 hl0 h0 =>
    refine .agg hl fun i d c hd hc => ?_
    obtain ⟨y, hy⟩ := ex_getA (xs := cs0) (i := i) (by rw [← hl0]; exact lt_size hd)
    exact ih i d c hd hc (h0 i d y hd hy)
  | @tup ds cs hl _ ih =>
    cases h with | @tup _ cs0 hl0 h0 =>
    refine .tup hl fun i d c hd hc => ?_
    obtain ⟨y, hy⟩ := ex_getA (xs := cs0) (i := i) (by rw [← hl0]; exact lt_size hd)
    exact ih i d c hd hc (h0 i d y hd hy)
  | @fn f ds cs hl _ ih =>
    cases h with | @fn _ _ cs0 hl0 h0 =>
    refine .fn hl fun i d c hd hc => ?_
    obtain ⟨y, hy⟩ := ex_getA (xs := cs0) (i := i) (by rw [← hl0]; exact lt_size hd)
    exact ih i d c hd hc (h0 i d y hd hy)
  | ref h1 h2 =>
    have hn := by cases h with | ref h1 _ => exact h1
    exact .ref hn (hi _ _ hn h2)
  | dref h1 h2 h3 => exact .dref h1 h2 h3
  | hsnil h1 =>
    have hn := by cases h with
      | hsnil h1 => exact h1
      | hs h1 _ _ _ => exact h1
    exact .hsnil hn
  | hs h1 h2 hsp h3 =>
    have hn := by cases h with
      | hsnil h1 => exact h1
      | hs h1 _ _ _ => exact h1
    refine .hs hn h2 hsp fun hc => ?_
    obtain ⟨b, o, e1, e2, e3⟩ := h3 hc
    exact ⟨b, o, hi _ _ hn e1, e2, e3⟩
  | yld h1 h2 =>
    have hn := by cases h with | yld h1 _ => exact h1
    exact .yld hn (hi _ _ hn h2)
  | dead v => exact .dead v

theorem relB_lower {w : World} {Z : Nat → Prop} {inj : Inj} {w' : World} {Z' : Nat → Prop} {inj' inj2 : Inj} {N N' n : Nat} {b : Blk} (h : RelB w Z inj N n b) (h' : RelB w' Z' inj' N' n b) (hi : ∀ m p, m < N → inj' m = some p → inj2 m = some p) (hn : inj2 n = inj' n) : RelB w' Z' inj2 N n b := by
  cases b with
  | dead => trivial
  | dat es xs =>
    obtain ⟨h1, h2, h3⟩ := h'
    refine ⟨h1, h2, ?_⟩
    rw [hn]; exact h3
  | cel es xs =>
    obtain ⟨h1, h2, h3⟩ := h'
    refine ⟨h1, h2, ?_⟩
    rw [hn]
    rcases h3 with h3 | ⟨b, o, arr, ty, h3, h4, h5⟩
    · exact .inl h3
    · refine .inr ⟨b, o, arr, ty, h3, h4, fun i x j d hx hd => ?_⟩
      obtain ⟨h6, c, h7, h8⟩ := h5 i x j d hx hd
      obtain ⟨_, _, k3⟩ := h
      rcases k3 with ⟨rfl, _⟩ | ⟨_, _, _, _, _, _, k5⟩
      · simp at hx
      · obtain ⟨_, c0, _, k8⟩ := k5 i x j d hx hd
        exact ⟨h6, c, h7, relV_lower k8 h8 hi⟩
  | loop s ps assign body dn pe =>
    obtain ⟨b, tmps, D, fn, h1, h2, h3, h4⟩ := h'
    obtain ⟨_, _, _, _, _, _, _, k4⟩ := h
    refine ⟨b, tmps, D, fn, hn.trans h1, h2, h3, fun t v ht => ?_⟩
    obtain ⟨x, hx, hr⟩ := h4 t v ht
    obtain ⟨x0, _, hr0⟩ := k4 t v ht
    exact ⟨x, hx, relV_lower hr0 hr hi⟩

/-- An operation that makes a block of data, under a number that was kept for it. -/
theorem goodR_new {mk : Nat → V} {es q : Nat} {xs : List (List DV)} {hp3 : List (Nat × Blk)} (hT : TabOk P T) (hg : guardOk ops st o = some true) (hk : (∃ es, mk = fun n => .ref n es 0 0) ∨ (∃ es l, mk = fun n => .hs n es 0 l))
    (ho : opFn T st o.op = some (mk st.nx, ⟨st.sl, (st.nx, .dat es xs) :: hp3, st.nx + 1⟩)) (hq : q < st.nx) (hfree : find st.hp q = none) (hold : ∀ m c, find hp3 m = some c → c = .dead ∨ find st.hp m = some c) (hnone : ∀ m, find st.hp m = none → find hp3 m = none) :
    GoodR P base ops o st (({ sl := st.sl, hp := (q, .dat es xs) :: hp3, nx := st.nx } : AS).putD o.dst (mk q)) q (q + 1) := by
  intro ro Q w Z inj a Ds K h hd hlo hb _ hres hK
  have hiq : inj q = none := hres q (Nat.le_refl _) (by omega)
  unfold stepO
  rw [guard_wanted h hg]
  simp only [if_true]
  refine ⟨fun _ _ => trivial, ?_⟩
  rw [show (Fw ro).round = ro from rfl, Oper.semAt_eq ro _ o (op_no_defer ho)]
  obtain ⟨x, w', inj', hr, hv, hh, he, -, -⟩ := op_sound hT h ho
  simp only at hv hh he
  obtain ⟨inj2, hi2⟩ : ∃ inj2 : Inj, inj2 = fun m => if m = q then inj' st.nx else inj' m := ⟨_, rfl⟩
  have h2q : inj2 q = inj' st.nx := by rw [hi2]; simp
  have h2n : ∀ m, m ≠ q → inj2 m = inj' m := fun m hm => by rw [hi2]; simp [hm]
  have hi : ∀ m p, m < st.nx → inj' m = some p → inj2 m = some p := fun m p hm hp => by
    by_cases hmq : m = q
    · subst hmq; rw [he.pinj m hm, hiq] at hp; cases hp
    · rw [h2n m hmq]; exact hp
  have hlt : ∀ m c, find hp3 m = some c → m < st.nx := fun m c hm => by
    cases hf : find st.hp m with
    | none => rw [hnone m hf] at hm; cases hm
    | some b => exact (h.heap.blk m b hf).1
  have hne : ∀ m c, find hp3 m = some c → m ≠ q := fun m c hm e => by
    subst e; rw [hnone m hfree] at hm; cases hm
  have up : ∀ m c, find hp3 m = some c → find ((st.nx, Blk.dat es xs) :: hp3) m = some c := fun m c hm => by
    rw [find_cons, if_neg (by have := hlt m c hm; omega)]; exact hm
  have htop : find ((st.nx, Blk.dat es xs) :: hp3) st.nx = some (.dat es xs) := by rw [find_cons, if_pos rfl]
  -- a block under its old name
  have back : ∀ m c, find ((q, Blk.dat es xs) :: hp3) m = some c → ∃ m', find ((st.nx, Blk.dat es xs) :: hp3) m' = some c ∧ inj2 m = inj' m' ∧ ((m = q ∧ m' = st.nx) ∨ (m ≠ q ∧ m' = m)) := by
    intro m c hm
    rw [find_cons] at hm
    by_cases hmq : q = m
    · subst hmq
      rw [if_pos rfl] at hm; cases hm
      exact ⟨_, htop, h2q, .inl ⟨rfl, rfl⟩⟩
    · rw [if_neg hmq] at hm
      exact ⟨m, up m c hm, h2n m (Ne.symm hmq), .inr ⟨Ne.symm hmq, rfl⟩⟩
  have hH : RelH w' Z inj2 ((q, Blk.dat es xs) :: hp3) st.nx := by
    refine ⟨fun m c hm => ?_, fun m n b c p r h1 h2 h3 h4 h5 h6 hmn => ?_, fun m b p h1 h2 h3 => ?_, hh.zs, hh.zc⟩
    · rw [find_cons] at hm
      by_cases hmq : q = m
      · subst hmq
        rw [if_pos rfl] at hm; cases hm
        refine ⟨hq, ?_⟩
        obtain ⟨_, k1, k2, k3⟩ := hh.blk st.nx _ htop
        exact ⟨k1, k2, by rw [h2q]; exact k3⟩
      · rw [if_neg hmq] at hm
        refine ⟨hlt m c hm, ?_⟩
        rcases hold m c hm with rfl | hm'
        · trivial
        · exact relB_lower (h.heap.blk m c hm').2 (hh.blk m c (up m c hm)).2 hi (h2n m (Ne.symm hmq))
    · obtain ⟨m', a1, a2, a3⟩ := back m b h1
      obtain ⟨n', b1, b2, b3⟩ := back n c h2
      refine hh.sep m' n' b c p r a1 b1 h3 h4 (a2 ▸ h5) (b2 ▸ h6) ?_
      rcases a3 with ⟨rfl, rfl⟩ | ⟨a3, rfl⟩ <;> rcases b3 with ⟨rfl, rfl⟩ | ⟨b3, rfl⟩
      · exact absurd rfl hmn
      · intro e
        have : find hp3 n' = some c := by rw [find_cons, if_neg (Ne.symm b3)] at h2; exact h2
        have := hlt _ _ this; omega
      · intro e
        have : find hp3 m' = some b := by rw [find_cons, if_neg (Ne.symm a3)] at h1; exact h1
        have := hlt _ _ this; omega
      · exact hmn
    · obtain ⟨m', a1, a2, _⟩ := back m b h1
      exact hh.out m' b p a1 h2 (a2 ▸ h3)
  have hE : Ext w Z inj st.hp w' Z inj2 ((q, Blk.dat es xs) :: hp3) base := by
    refine ⟨he.size, he.keep, ?_, he.big, he.loops, he.zin, he.zout, fun n hn => ?_, he.tape, he.os, he.output, he.frz⟩
    · rintro b ⟨m, c, off, g1, g2, g3⟩
      obtain ⟨m', a1, a2, _⟩ := back m c g1
      exact he.imm b ⟨m', c, off, a1, g2, a2 ▸ g3⟩
    · rw [h2n n (by omega)]; exact he.pinj n (by omega)
  have hV : RelV w' Z inj2 st.nx (mk q) x := by
    rcases hk with ⟨es, rfl⟩ | ⟨es, l, rfl⟩
    · cases hv with | ref h1 h2 => exact .ref hq (h2q.trans h2)
    · cases hv with
      | hsnil h1 => exact .hsnil hq
      | hs h1 h2 hsp h3 =>
        refine .hs hq h2 hsp fun hc => ?_
        obtain ⟨b, o, e1, e2, e3⟩ := h3 hc
        exact ⟨b, o, h2q.trans e1, e2, e3⟩
  have hS : RelSlots w' Z inj2 st.nx st.sl a.tmps := fun t v ht => by
    obtain ⟨y, hy, hr⟩ := h.slots t v ht
    exact ⟨y, hy, relV_inj (hr.mono (he.zkeep h.heap) he.zin he.big he.pinj (Nat.le_refl _)) hi⟩
  have hpost : PostR base q (q + 1) w Z inj st a Ds (({ sl := st.sl, hp := (q, .dat es xs) :: hp3, nx := st.nx } : AS).putD o.dst (mk q)) (a.put o.dst x) w' := by
    refine ⟨Z, inj2, Ds, ?_, by rw [putD_hp]; exact hE, put_size _ _ _, fun _ h => .inl h, fun m hm hmq => ?_⟩
    · generalize hdst : o.dst = dst at hd
      cases dst with
      | none => exact ⟨hS, hH, h.defs, h.nodup, fun D hD => he.marks h.heap (h.marks D hD)⟩
      | some t => exact ⟨hS.put hV (dst_lt hd), hH, h.defs, h.nodup, fun D hD => he.marks h.heap (h.marks D hD)⟩
    · rw [h2n m (by omega)]; exact he.pinj m hm
  rcases hr with hr | ⟨hr, rfl⟩
  · rw [hr]; exact hK _ _ hpost
  · rw [hr]; exact hK _ _ hpost

/-- .. and the row is frozen as it is made. -/
theorem postR_freeze {w : World} {Z : Nat → Prop} {inj : Inj} {a a' : Act} {Ds : List Nat} {w' : World} {dst : Option Tmp} {n es lo hi : Nat} {xs : List (List DV)} {hp2 : List (Nat × Blk)} (hbn : base ≤ st1.nx)
    (h : PostR base lo hi w Z inj st a Ds (st1.putD dst (.hs n es 0 xs.length)) a' w') (hh : st1.hp = (n, .dat es xs) :: hp2) (hf : find hp2 n = none) (hn : base ≤ n) :
    PostR base lo hi w Z inj st a Ds (({ sl := st1.sl, hp := hp2, nx := st1.nx } : AS).putD dst (.d (.sl es xs))) a' w' := by
  obtain ⟨Z', inj', Ds', h1, h2, h3, h4, h5⟩ := h
  have hp : PostAt base w Z inj st a Ds (st1.putD dst (.hs n es 0 xs.length)) a' w' := ⟨Z', inj', Ds', h1, h2, h3, by rw [putD_nx]; exact hbn, h4⟩
  obtain ⟨hrel, hext⟩ := wk_sound h1 (freeze_wk h1 hh hf hn hbn)
  refine ⟨_, _, Ds', hrel, h2.trans hext (Nat.le_refl _), h3, h4, fun m hm hmq => ?_⟩
  rw [← h5 m hm hmq]; simp [wkI]

/-- What an operation does, here and wherever it reads the same. -/
structure StepF (P : Program) (ops : Array Oper) (o : Oper) (x : Fp) (st st1 : AS) : Prop where
  nx : st.nx ≤ st1.nx
  sl : ∀ t, o.dst ≠ some t → st1.get t = st.get t
  hp : ∀ m, m ∉ x.2 → find st1.hp m = find st.hp m
  keys : ∀ m, st1.nx ≤ m → find st.hp m = none → find st1.hp m = none
  fresh : ∀ m, st.nx ≤ m → m < st1.nx → m ∈ x.2
  other : ∀ st2, st1.nx ≤ st2.nx → AgreeF ops o x st st2 → (∀ m, st.nx ≤ m → m < st1.nx → find st2.hp m = none) → ∃ st3, st3.nx = st2.nx ∧ (∀ base, GoodR P base ops o st2 st3 st.nx st1.nx) ∧
    (∀ t, o.dst ≠ some t → st3.get t = st2.get t) ∧ (∀ t, o.dst = some t → st3.get t = st1.get t) ∧ (∀ m ∈ x.2, find st3.hp m = find st1.hp m) ∧ (∀ m, m ∉ x.2 → find st3.hp m = find st2.hp m)

theorem sub_mem : ∀ {b : List Nat} {n : Nat}, hasN b n = true → n ∈ b
  | a :: r, n, h => by
    simp only [hasN, Bool.or_eq_true] at h
    rcases h with h | h
    · rw [Nat.eq_of_beq_eq_true h]; simp
    · exact List.mem_cons_of_mem _ (sub_mem h)
theorem mem_has : ∀ {b : List Nat} {n : Nat}, n ∈ b → hasN b n = true
  | a :: r, n, h => by
    simp only [hasN, Bool.or_eq_true]
    rcases List.mem_cons.1 h with rfl | h
    · left; exact Nat.beq_refl _
    · exact .inr (mem_has h)

theorem fpLe_nil (y : Fp) : fpLe (some [], []) y = true := by
  unfold fpLe
  cases y.1 <;> rfl
theorem StepF.mono {x y : Fp} (h : StepF P ops o x st st1) (hl : fpLe x y = true) : StepF P ops o y st st1 := by
  simp only [fpLe, Bool.and_eq_true, subN, List.all_eq_true] at hl
  obtain ⟨h2, h1⟩ := hl
  have hW : ∀ m ∈ x.2, m ∈ y.2 := fun m hm => sub_mem (h2 m hm)
  refine ⟨h.nx, h.sl, fun m hm => h.hp m fun e => hm (hW m e), h.keys, fun m ha hb => hW m (h.fresh m ha hb), fun st2 hn ha hf => ?_⟩
  have ha' : AgreeF ops o x st st2 := by
    refine ⟨⟨fun m hm => ha.blk.1 m (hW m hm), ?_⟩, ha.sl⟩
    have hb := ha.blk.2
    revert h1 hb
    cases y.1 with
    | none =>
      intro _ hb
      cases x.1 with
      | none => exact hb
      | some r => exact fun m _ => hb m
    | some r =>
      cases x.1 with
      | none => simp
      | some r' =>
        intro h1 hb m hm
        exact hb m (sub_mem (by simpa using List.all_eq_true.1 h1 m hm))
  obtain ⟨st3, e1, e2, e3, e4, e5, e6⟩ := h.other st2 hn ha' hf
  refine ⟨st3, e1, e2, e3, e4, fun m hm => ?_, fun m hm => e6 m fun e => hm (hW m e)⟩
  by_cases hx : m ∈ x.2
  · exact e5 m hx
  · rw [e6 m hx, h.hp m hx]; exact ha.blk.1 m hm

/-- An operation that puts a value, and leaves the blocks as they lie. -/
theorem stepF_put {v : V} {x : Fp} (hx : x.2 = []) (h2 : ∀ st2, AgreeF ops o x st st2 → SeqGood P st2.nx ops o st2 (st2.putD o.dst v)) : StepF P ops o x st (st.putD o.dst v) := by
  refine ⟨by rw [putD_nx]; exact Nat.le_refl _, fun t h => by rw [get_putD, if_neg h], fun m _ => by rw [putD_hp], fun m _ h => by rw [putD_hp]; exact h, fun m h1 h2 => by rw [putD_nx] at h2; omega, fun st2 hn ha _ => ?_⟩
  refine ⟨st2.putD o.dst v, putD_nx _ _ _, fun base => goodR_of (h2 st2 ha), fun t h => by rw [get_putD, if_neg h], fun t h => by rw [get_putD, get_putD, if_pos h, if_pos h], fun m hm => (by rw [hx] at hm; cases hm), fun m _ => by rw [putD_hp]⟩

theorem stepF_skip (hg : guardOk ops st o = some false) : StepF P ops o (some [], []) st (st.putD o.dst (.d (.tup []))) :=
  stepF_put rfl fun _ ha => good_skip (ha.guard.trans hg)

theorem datNew_of {b : Blk} {n : Nat} {sl : List (Nat × V)} {hp1 : List (Nat × Blk)} {v : V} {op : Op} (ho : opFn T st op = some (v, ⟨sl, (st.nx, b) :: hp1, n + 1⟩)) (hn : st.nx = n) (h : datNew st op ⟨sl, (st.nx, b) :: hp1, n + 1⟩ = true) : ∃ es xs, b = .dat es xs := by
  by_cases ht : touch op = 2
  · simp only [datNew, ht] at h
    cases b with
    | dat es xs => exact ⟨es, xs, rfl⟩
    | _ => simp at h
  · have hle : touch op ≤ 1 := by
      have : touch op ≤ 2 := by unfold touch; split <;> omega
      omega
    have h0 := (op_local (st2 := st) ho hle (fun _ => rfl) (fun _ _ => rfl)).1
    have h1 := congrArg AS.nx h0
    simp only at h1
    omega

theorem stepF_op {v : V} (hT : TabOk P T) (hg : guardOk ops st o = some true) (ho : opFn T st o.op = some (v, st1)) (hd : datNew st o.op st1 = true) : StepF P ops o (fp st o.op) st (st1.putD o.dst v) := by
  cases op_any ho with
  | calm hsl hnx hhp hnone hall =>
    have hget : ∀ t, st1.get t = st.get t := fun t => by unfold AS.get; rw [hsl]
    refine ⟨by rw [putD_nx]; omega, fun t h => by rw [get_putD, if_neg h, hget], fun m hm => by rw [putD_hp]; exact hhp m hm, fun m _ h => by rw [putD_hp]; exact hnone m h, fun m h1 h2 => by rw [putD_nx] at h2; omega, fun st2 hn ha _ => ?_⟩
    obtain ⟨hp3, k1, k2, k3⟩ := hall st2 (fun x hx => ha.ev hx) ha.blk
    refine ⟨(⟨st2.sl, hp3, st2.nx⟩ : AS).putD o.dst v, putD_nx _ _ _, fun base => goodR_of (good_op hT (ha.guard.trans hg) k1), fun t h => by rw [get_putD, if_neg h]; rfl, fun t h => by rw [get_putD, get_putD, if_pos h, if_pos h], fun m hm => ?_, fun m hm => ?_⟩
    · rw [putD_hp, putD_hp]; exact k2 m hm
    · rw [putD_hp]; exact k3 m hm
  | new mk b hp1 hk hv h1 hmem hhp hnone hall =>
    subst h1
    obtain ⟨es, xs, rfl⟩ := datNew_of ho rfl hd
    refine ⟨by rw [putD_nx]; exact Nat.le_succ _, fun t h => by rw [get_putD, if_neg h]; rfl, fun m hm => ?_, fun m hm h => ?_, fun m h1 h2 => ?_, fun st2 hn ha hf => ?_⟩
    · rw [putD_hp, find_cons, if_neg (by rintro rfl; exact hm hmem)]; exact hhp m hm
    · rw [putD_nx] at hm
      rw [putD_hp, find_cons, if_neg (by simp only at hm; omega)]; exact hnone m h
    · rw [putD_nx] at h2
      have : m = st.nx := by simp only at h2; omega
      subst this; exact hmem
    · rw [putD_nx] at hn hf ⊢
      simp only at hn hf
      obtain ⟨hp3, k1, k2, k3, k4⟩ := hall st2 (fun x hx => ha.ev hx) ha.blk
      have hfree := hf st.nx (Nat.le_refl _) (by omega)
      refine ⟨(⟨st2.sl, (st.nx, .dat es xs) :: hp3, st2.nx⟩ : AS).putD o.dst (mk st.nx), putD_nx _ _ _, fun base => goodR_new hT (ha.guard.trans hg) hk k1 (by omega) hfree k4 (fun m hm => ?_), fun t h => by rw [get_putD, if_neg h]; rfl, fun t h => by rw [get_putD, get_putD, if_pos h, if_pos h, hv], fun m hm => ?_, fun m hm => ?_⟩
      · by_cases hw : m ∈ (fp st o.op).2
        · rw [k2 m hw]
          refine hnone m ?_
          rw [← ha.blk.1 m hw]; exact hm
        · rw [k3 m hw]; exact hm
      · rw [putD_hp, putD_hp, find_cons, find_cons]
        split
        · rfl
        · exact k2 m hm
      · rw [putD_hp, find_cons, if_neg (by rintro rfl; exact hm hmem)]; exact k3 m hm

theorem stepF_opF {n es : Nat} {xs : List (List DV)} {hp2 : List (Nat × Blk)} (hT : TabOk P T) (hg : guardOk ops st o = some true) (ho : opFn T st o.op = some (.hs n es 0 xs.length, st1)) (hn : n = st.nx ∧ st1.nx = n + 1) (hh : st1.hp = (n, .dat es xs) :: hp2) (hf : find hp2 n = none) :
    StepF P ops o (fp st o.op) st (({ sl := st1.sl, hp := hp2, nx := st1.nx } : AS).putD o.dst (.d (.sl es xs))) := by
  obtain ⟨rfl, hn1⟩ := hn
  cases op_any ho with
  | calm hsl hnx hhp hnone hall => omega
  | new mk b hp1 hk hv h1 hmem hhp hnone hall =>
    subst h1
    simp only [List.cons.injEq, Prod.mk.injEq, true_and] at hh
    obtain ⟨rfl, rfl⟩ := hh
    refine ⟨by rw [putD_nx]; exact Nat.le_succ _, fun t h => by rw [get_putD, if_neg h]; rfl, fun m hm => by rw [putD_hp]; exact hhp m hm, fun m hm h => by rw [putD_hp]; exact hnone m h, fun m h1 h2 => ?_, fun st2 hn ha hfr => ?_⟩
    · rw [putD_nx] at h2
      have : m = st.nx := by simp only at h2; omega
      subst this; exact hmem
    · rw [putD_nx] at hn hfr ⊢
      simp only at hn hfr
      obtain ⟨hp3, k1, k2, k3, k4⟩ := hall st2 (fun x hx => ha.ev hx) ha.blk
      have hfree := hfr st.nx (Nat.le_refl _) (by omega)
      have hkeep : ∀ m, find st2.hp m = none → find hp3 m = none := fun m hm => by
        by_cases hw : m ∈ (fp st o.op).2
        · rw [k2 m hw]
          refine hnone m ?_
          rw [← ha.blk.1 m hw]; exact hm
        · rw [k3 m hw]; exact hm
      refine ⟨(⟨st2.sl, hp3, st2.nx⟩ : AS).putD o.dst (.d (.sl es xs)), putD_nx _ _ _, fun base => ?_, fun t h => by rw [get_putD, if_neg h]; rfl, fun t h => by rw [get_putD, get_putD, if_pos h, if_pos h], fun m hm => by rw [putD_hp, putD_hp]; exact k2 m hm, fun m hm => by rw [putD_hp]; exact k3 m hm⟩
      intro ro Q w Z inj a Ds K h hd hlo hb hro hres hK
      refine goodR_new (base := base) hT (ha.guard.trans hg) hk k1 (by omega) hfree k4 hkeep ro Q w Z inj a Ds K h hd hlo hb hro hres fun a' w' hp => hK a' w' ?_
      rw [← hv] at hp
      exact postR_freeze (st1 := ⟨st2.sl, (st.nx, .dat es xs) :: hp3, st2.nx⟩) hb hp rfl (hkeep _ hfree) hlo

theorem toD_congr {hp hp2 : List (Nat × Blk)} (h : ∀ m, find hp2 m = find hp m) : ∀ k, toD hp2 k = toD hp k := by
  intro k
  induction k with
  | zero => funext v; cases v <;> rfl
  | succ k ih => funext v; cases v <;> simp only [toD, ih, h]
theorem allFrozen_congr {hp hp2 : List (Nat × Blk)} (h : ∀ m, find hp2 m = find hp m) : ∀ {vs : List V}, allFrozen hp2 vs = allFrozen hp vs
  | [] => rfl
  | v :: r => by simp only [allFrozen, toD_congr h, allFrozen_congr h]
theorem allFrozen_data {hp hp2 : List (Nat × Blk)} : ∀ {vs : List V}, vs.all V.isD = true → allFrozen hp2 vs = allFrozen hp vs
  | [], _ => rfl
  | v :: r, h => by
    simp only [List.all_cons, Bool.and_eq_true] at h
    have e : toD hp2 8 v = toD hp 8 v := by
      cases v <;> first | rfl | (simp [V.isD] at h; done)
    rw [allFrozen, allFrozen, e, allFrozen_data (hp := hp) (hp2 := hp2) h.2]

theorem stepF_callP {c : Call} {f : FuncId} {vs : List V} {ds : List DV} {v : V} {hp' : List (Nat × Blk)} {nx' : Nat} {r' r : DV} (hg : guardOk ops st o = some true) (ho : o.op = .call c) (hc : callee st c = some (f, vs))
    (hfz : allFrozen st.hp vs = some ds) (hgood : CallGood P f (ds.map .d) [] 0 v hp' nx') (hto : toD hp' 8 v = some r') (hle : DLe r' r) (hs : vs.all V.isD = true ∨ r.scalar = true) : StepF P ops o (fpC vs) st (st.putD o.dst (.d r)) := by
  refine stepF_put (by unfold fpC; cases vs.all V.isD <;> rfl) fun st2 ha => good_callP (ha.guard.trans hg) ho ((ha.callee ho).trans hc) ?_ hgood hto hle hs
  rw [← hfz]
  by_cases hd : vs.all V.isD = true
  · exact allFrozen_data hd
  · have h := ha.blk.2
    simp only [fpC, hd, cond_false] at h
    exact allFrozen_congr h
/-! A call that sees some blocks alone -/
theorem good_callF {ops : Array Oper} {o : Oper} {c : Call} {f : FuncId} {vs vs' : List V} {hp0 hp' hpR hpN : List (Nat × Blk)} {k k' nxN : Nat} {v' vN : V} {ρ ρ3 : Nat → Nat} {fz3 ph3 : List Nat} (hg : guardOk ops st o = some true) (ho : o.op = .call c) (hc : callee st c = some (f, vs)) (hlen : vs.length = vs'.length)
    (hw1 : Wk 0 ρ [] [] { sl := argSlots 0 vs, hp := st.hp, nx := st.nx } { sl := argSlots 0 vs', hp := hp0, nx := k }) (hgood : CallGood P f vs' hp0 k v' hp' k') (hw3 : Wk 0 ρ3 fz3 ph3 { sl := [(0, v')], hp := hp', nx := k' } { sl := [(0, vN)], hp := hpR, nx := nxN })
    (hb : Back ρ ρ3 ph3 k k' st.nx nxN st.hp hpR hpN) : SeqGood P base ops o st ({ sl := st.sl, hp := hpN, nx := nxN : AS }.putD o.dst vN) := by
  intro ro Q w Z inj a Ds K h hd hbase _ hK
  unfold stepO
  rw [guard_wanted h hg]
  simp only [if_true]
  refine ⟨fun _ _ => trivial, ?_⟩
  obtain ⟨xs, hr, hl⟩ := callee_run h ho hc hgood.1
  rw [show (Fw ro).round = ro from rfl, Oper.semAt_eq ro _ o (by rintro c' h'; rw [ho] at h'; cases h'), hr, Oper.uponIn_enter]
  refine ⟨fun h => by simp [Fw] at h, ?_⟩
  -- the callee's view
  have hrel0 : RelS w Z inj { sl := argSlots 0 vs, hp := st.hp, nx := st.nx } { a with tmps := xs, defers := [] } [] := by
    refine ⟨fun t v ht => ?_, h.heap, rfl, List.nodup_nil, by simp⟩
    rw [argSlots_get] at ht
    simp only [Nat.zero_le, if_true, Nat.sub_zero] at ht
    obtain ⟨y, hy⟩ := ex_getA (xs := xs) (i := t) (by rw [← hl.1]; exact lt_size ht)
    exact ⟨y, hy, hl.2 t v y ht hy⟩
  obtain ⟨hr1, he1⟩ := wk_sound hrel0 hw1
  have hl1 : LRel w (wkZ Z inj { sl := argSlots 0 vs, hp := st.hp, nx := st.nx } []) (wkI inj ρ []) k vs' xs := by
    refine ⟨by rw [← hlen]; exact hl.1, fun i d y hdi hyi => ?_⟩
    obtain ⟨y', hy', hr⟩ := hr1.slots i d (by rw [argSlots_get]; simpa using hdi)
    rw [hyi] at hy'; cases hy'
    exact hr
  refine CallsIn.mono (hgood.2 w _ _ xs hr1.heap hl1) ?_
  rintro e w' ⟨x, Z', inj', rfl, hh, he2, hv, hn⟩
  -- nothing behind the last block
  obtain ⟨inj2, hinj2⟩ : ∃ inj2 : Inj, inj2 = fun n => if n < k' then inj' n else none := ⟨_, rfl⟩
  have hag : ∀ n, n < k' → inj2 n = inj' n := fun n hn => by rw [hinj2]; simp [hn]
  have hh2 : RelH w' Z' inj2 hp' k' := by
    refine ⟨fun n b hb => ?_, fun n m b c p q h1 h2 h3 h4 h5 h6 => ?_, fun n b p h1 h2 h3 => ?_, hh.zs, hh.zc⟩
    · obtain ⟨k1, k2⟩ := hh.blk n b hb
      exact ⟨k1, relB_inj k2 (fun m p hm hp => (hag m hm).trans hp) k1 (fun hp => (hag n k1).trans hp)⟩
    · rw [hag n (hh.blk n b h1).1] at h5; rw [hag m (hh.blk m c h2).1] at h6
      exact hh.sep n m b c p q h1 h2 h3 h4 h5 h6
    · rw [hag n (hh.blk n b h1).1] at h3
      exact hh.out n b p h1 h2 h3
  have hv2 : RelV w' Z' inj2 k' v' x := relV_inj hv fun n p hn hp => (hag n hn).trans hp
  have him : ∀ b, im hp' inj2 b → im hp' inj' b := by
    rintro b ⟨n, blk, o, h1, h2, h3⟩
    exact ⟨n, blk, o, h1, h2, by rw [← hag n (hh.blk n blk h1).1]; exact h3⟩
  have hrel3 : RelS w' Z' inj2 { sl := [(0, v')], hp := hp', nx := k' } { a with tmps := #[x], defers := [] } [] := by
    refine ⟨fun t v ht => ?_, hh2, rfl, List.nodup_nil, by simp⟩
    rw [find_cons] at ht
    split at ht
    · rename_i e; subst e; cases ht; exact ⟨x, rfl, hv2⟩
    · simp [find] at ht
  obtain ⟨hr3, he3⟩ := wk_sound hrel3 hw3
  generalize hZ3 : wkZ Z' inj2 { sl := [(0, v')], hp := hp', nx := k' } fz3 = Z3 at hr3 he3
  generalize hJ3 : wkI inj2 ρ3 ph3 = inj3 at hr3 he3
  have hvN : RelV w' Z3 inj3 nxN vN x := by
    obtain ⟨y, hy, hr⟩ := hr3.slots 0 vN (by simp [find])
    simp at hy; subst hy; exact hr
  -- the names agree
  have hpin : ∀ i, i < k → inj' i = inj (ρ i) := fun i hi => by rw [he2.pinj i hi]; simp [wkI]
  have hlow : ∀ m, m < st.nx → ∀ p, inj3 m = some p → inj m = some p := by
    intro m hm p hp
    have hnp : m ∉ ph3 := fun hc => by have := hb.phn m hc; omega
    rw [← hJ3] at hp
    simp only [wkI, hnp, if_false] at hp
    rcases hb.snd m hm with ⟨h1, h2⟩ | h1
    · rw [hinj2] at hp
      simp only [show ρ3 m < k' by omega, if_true] at hp
      rw [hpin _ h1, h2] at hp; exact hp
    · rw [hinj2] at hp; simp [show ¬ ρ3 m < k' by omega] at hp
  obtain ⟨injN, hinjN⟩ : ∃ injN : Inj, injN = fun m => if m < st.nx then inj m else inj3 m := ⟨_, rfl⟩
  have hN1 : ∀ m, m < st.nx → injN m = inj m := fun m hm => by rw [hinjN]; simp [hm]
  have hN2 : ∀ m p, inj3 m = some p → injN m = some p := fun m p hp => by
    by_cases hm : m < st.nx
    · rw [hN1 m hm]; exact hlow m hm p hp
    · rw [hinjN]; simp [hm, hp]
  -- a block of the callee's, under the caller's name
  have hR : ∀ m b, find hpR m = some b → ∀ p, injN m = some p → inj3 m = some p := by
    intro m b hmb p hp
    by_cases hm : m < st.nx
    · rw [hN1 m hm] at hp
      have hnp : m ∉ ph3 := fun hc => by have := hb.phn m hc; omega
      obtain ⟨_, h2⟩ := hw3.blocks m b hmb
      rcases h2 with ⟨h2, _⟩ | ⟨_, b0, h3, _⟩
      · exact absurd h2 hnp
      · have hlt := (hh.blk _ _ h3).1
        rcases hb.snd m hm with ⟨k1, k2⟩ | k1
        · rw [← hJ3]
          simp only [wkI, hnp, if_false]
          rw [hag _ (by omega), hpin _ k1, k2]; exact hp
        · omega
    · rw [hinjN] at hp; simpa [hm] using hp
  have hE : Ext w (wkZ Z inj { sl := argSlots 0 vs, hp := st.hp, nx := st.nx } []) (wkI inj ρ []) hp0 w' Z' inj' hp' 0 := he2.pin_le (Nat.zero_le _)
  have imR : ∀ b, im hpR inj3 b → im st.hp inj b ∨ w.heap.size ≤ b := by
    intro b hb'
    rcases he3.imm b hb' with h1 | h1
    · rcases hE.imm b (him b h1) with h2 | h2
      · exact he1.imm b h2
      · exact .inr h2
    · exact .inr (Nat.le_trans hE.size h1)
  have keep : ∀ b, b < w.heap.size → ¬ im hp0 (wkI inj ρ []) b → w'.heap[b]? = w.heap[b]? := fun b hb1 hb2 => hE.keep b hb1 hb2
  -- a block of the caller's that the callee doesn't see
  have hfar : ∀ m b p, find st.hp m = some b → live b = true → inj m = some p → (∀ i, i < k → ρ i ≠ m) → ¬ im hp0 (wkI inj ρ []) p.1 := by
    rintro m b p h1 h2 h3 h4 ⟨i, blk, o, g1, g2, g3⟩
    obtain ⟨j1, j2⟩ := hw1.blocks i blk g1
    rcases j2 with ⟨j2, _⟩ | ⟨_, b0, j3, j4⟩
    · cases j2
    · have g3' : inj (ρ i) = some (p.1, o) := by simpa [wkI] using g3
      exact h.heap.sep (ρ i) m b0 b _ p j3 h1 (wb_live j4 g2) h2 g3' h3 (h4 i j1) rfl
  have hZ : ∀ b, Z b → Z3 b := fun b hz => he3.zin b (hE.zin b (he1.zin b hz))
  have hZo : ∀ b, Z3 b → Z b ∨ im hp0 (wkI inj ρ []) b ∨ w.heap.size ≤ b := by
    intro b hz
    rcases he3.zout b hz with h1 | h1 | h1
    · rcases hE.zout b h1 with h2 | h2 | h2
      · rcases he1.zout b h2 with h3 | h3 | h3
        · exact .inl h3
        · rcases h2 with h2 | ⟨n, hn, _⟩
          · exact .inl h2
          · cases hn
        · exact .inr (.inr h3)
      · exact .inr (.inl h2)
      · exact .inr (.inr h2)
    · rcases hE.imm b (him b h1) with h2 | h2
      · exact .inr (.inl h2)
      · exact .inr (.inr h2)
    · exact .inr (.inr (Nat.le_trans hE.size h1))
  have hbig : KeepBig w w' := hE.big
  have hloops : KeepLoops w w' := hE.loops
  have hExt : Ext w Z inj st.hp w' Z3 injN hpN st.nx := by
    refine ⟨hE.size, fun b h1 h2 => keep b h1 (fun h3 => (he1.imm b h3).elim h2 (fun h4 => by omega)), ?_, hbig, hloops, hZ, ?_, hN1, hE.tape, hE.os, hE.output, hE.frz⟩
    · rintro b ⟨m, blk, o, g1, g2, g3⟩
      rcases hb.old m blk g1 with g4 | ⟨g4, _⟩
      · exact imR b ⟨m, blk, o, g4, g2, hR m blk g4 _ g3⟩
      · exact .inl ⟨m, blk, o, g4, g2, by rw [← hN1 m (h.heap.blk m blk g4).1]; exact g3⟩
    · intro b hz
      rcases hZo b hz with h1 | h1 | h1
      · exact .inl h1
      · exact .inr ((he1.imm b h1).imp (fun x => x) (fun x => x))
      · exact .inr (.inr h1)
  have hH : RelH w' Z3 injN hpN nxN := by
    refine ⟨fun m b hmb => ?_, fun m n b c p q h1 h2 h3 h4 h5 h6 hne => ?_, fun m b p h1 h2 h3 hz => ?_, hr3.heap.zs, hr3.heap.zc⟩
    · rcases hb.old m b hmb with g | ⟨g, gi⟩
      · obtain ⟨k1, k2⟩ := hr3.heap.blk m b g
        refine ⟨k1, relB_inj k2 (fun n p _ hp => hN2 n p hp) k1 fun hp => ?_⟩
        cases hq : injN m with
        | none => rfl
        | some p => rw [hR m b g p hq] at hp; cases hp
      · obtain ⟨k1, k2⟩ := h.heap.blk m b g
        refine ⟨Nat.lt_of_lt_of_le k1 hb.nxs, k2.mono (fun b' hz => ?_) hZ hbig (fun n hn => hN1 n hn) hb.nxs k1 fun p hp hlv => ?_⟩
        · refine keep b' (h.heap.zs b' hz) fun hi => ?_
          rcases he1.imm b' hi with h1 | h1
          · exact h.heap.z_im hz h1
          · have := h.heap.zs b' hz; omega
        · exact keep _ (h.heap.im_lt ⟨m, b, p.2, g, hlv, hp⟩) (hfar m b p g hlv hp gi)
    · have cross : ∀ (m n : Nat) (b c : Blk) (p q : Nat × Nat), find hpR m = some b → live b = true → injN m = some p → find st.hp n = some c → live c = true → injN n = some q → (∀ i, i < k → ρ i ≠ n) → p.1 ≠ q.1 := by
        intro m n b c p q h1 h3 h5 h2 h4 h6 hn e
        have hq : inj n = some q := by rw [← hN1 n (h.heap.blk n c h2).1]; exact h6
        have hlt := h.heap.im_lt (b := q.1) ⟨n, c, q.2, h2, h4, hq⟩
        rcases he3.imm p.1 ⟨m, b, p.2, h1, h3, hR m b h1 p h5⟩ with g1 | g1
        · rcases hE.imm p.1 (him _ g1) with g2 | g2
          · exact hfar n c q h2 h4 hq hn (e ▸ g2)
          · omega
        · have := hE.size; omega
      rcases hb.old m b h1 with g | ⟨g, gi⟩ <;> rcases hb.old n c h2 with g' | ⟨g', gi'⟩
      · exact hr3.heap.sep m n b c p q g g' h3 h4 (hR m b g p h5) (hR n c g' q h6) hne
      · exact cross m n b c p q g h3 h5 g' h4 h6 gi'
      · exact fun e => cross n m c b q p g' h4 h6 g h3 h5 gi e.symm
      · exact h.heap.sep m n b c p q g g' h3 h4 (by rw [← hN1 m (h.heap.blk m b g).1]; exact h5) (by rw [← hN1 n (h.heap.blk n c g').1]; exact h6) hne
    · rcases hb.old m b h1 with g | ⟨g, gi⟩
      · exact hr3.heap.out m b p g h2 (hR m b g p h3) hz
      · have hq : inj m = some p := by rw [← hN1 m (h.heap.blk m b g).1]; exact h3
        rcases hZo p.1 hz with h4 | h4 | h4
        · exact h.heap.out m b p g h2 hq h4
        · exact hfar m b p g h2 hq gi h4
        · have := h.heap.im_lt (b := p.1) ⟨m, b, p.2, g, h2, hq⟩; omega
  exact hK _ _ (post_step h hbase hExt hH hb.nxs (relV_inj hvN fun n p _ hp => hN2 n p hp) hd)
theorem step_callS {c : Call} {f : FuncId} {vs : List V} {v : V} {hp' : List (Nat × Blk)} {nx' : Nat} (hg : guardOk ops st o = some true) (ho : o.op = .call c) (hc : callee st c = some (f, vs)) (hgood : CallGood P f vs st.hp st.nx v hp' nx') :
    SeqGood P base ops o st ({ sl := st.sl, hp := hp', nx := nx' : AS }.putD o.dst v) := good_callS hg ho hc hgood

inductive Chain (P : Program) (base : Nat) (ops : Array Oper) : List Oper → AS → AS → Prop
  | nil {st : AS} : Chain P base ops [] st st
  | cons {o : Oper} {l : List Oper} {st st1 st2 : AS} : SeqGood P base ops o st st1 → Chain P base ops l st1 st2 → Chain P base ops (o :: l) st st2
  | wk {ρ : Nat → Nat} {fz ph : List Nat} {l : List Oper} {st st1 st2 : AS} : Wk base ρ fz ph st st1 → Chain P base ops l st1 st2 → Chain P base ops l st st2
inductive ChainF (P : Program) (ops : Array Oper) (F : List Fp) : List Oper → AS → AS → Prop
  | nil {st : AS} : ChainF P ops F [] st st
  | cons {o : Oper} {l : List Oper} {st st1 st2 : AS} : StepF P ops o (fpAt F l.length) st st1 → ChainF P ops F l st1 st2 → ChainF P ops F (o :: l) st st2
/-- How a region's operations go. -/
def ChainD (P : Program) (base : Nat) (ops : Array Oper) (dr : Dr) (l : List Oper) (st st' : AS) : Prop := match dr with
  | none => Chain P base ops l st st'
  | some F => ChainF P ops F l st st'

theorem chain_states {F : List Fp} : ∀ {l : List Oper} {st st' : AS}, ChainF P ops F l st st' → ∃ S : Nat → AS, S 0 = st ∧ S l.length = st' ∧ ∀ i o, l[i]? = some o → StepF P ops o (fpAt F (l.length - (i + 1))) (S i) (S (i + 1))
  | [], st, st', h => by cases h; exact ⟨fun _ => st, rfl, rfl, fun i o h => by simp at h⟩
  | o :: l, st, st', h => by
    cases h with | @cons _ _ _ st1 _ h1 h2 =>
    obtain ⟨S, e0, e1, hs⟩ := chain_states h2
    refine ⟨fun i => match i with | 0 => st | i + 1 => S i, rfl, e1, fun i o' ho => ?_⟩
    cases i with
    | zero => simp at ho; subst ho; simp only [e0, List.length_cons, Nat.zero_add, Nat.add_sub_cancel]; exact h1
    | succ i =>
      have := hs i o' (by simpa using ho)
      simp only [List.length_cons]
      rw [show l.length + 1 - (i + 1 + 1) = l.length - (i + 1) by omega]
      exact this

/-! ### The rules, in either mode -/
theorem cd_skip {dr : Dr} {l : List Oper} {st2 : AS} (hg : guardOk ops st o = some false) (h : ChainD P base ops dr l (st.putD o.dst (.d (.tup []))) st2) : ChainD P base ops dr (o :: l) st st2 := by
  cases dr with
  | none => exact .cons (good_skip hg) h
  | some F => exact .cons ((stepF_skip hg).mono (fpLe_nil _)) h
theorem cd_op {dr : Dr} {l : List Oper} {st2 : AS} {v : V} (hT : TabOk P T) (hg : guardOk ops st o = some true) (ho : opFn T st o.op = some (v, st1)) (hf : okO dr l.length st o.op st1 = true) (h : ChainD P base ops dr l (st1.putD o.dst v) st2) : ChainD P base ops dr (o :: l) st st2 := by
  cases dr with
  | none => exact .cons (good_op hT hg ho) h
  | some F =>
    simp only [okO, Bool.and_eq_true] at hf
    exact .cons ((stepF_op hT hg ho hf.2).mono hf.1) h
theorem cd_opF {dr : Dr} {l : List Oper} {st2 : AS} {n es : Nat} {xs : List (List DV)} {hp2 : List (Nat × Blk)} (hT : TabOk P T) (hg : guardOk ops st o = some true) (ho : opFn T st o.op = some (.hs n es 0 xs.length, st1)) (hn : n = st.nx ∧ st1.nx = n + 1) (hh : st1.hp = (n, .dat es xs) :: hp2) (hf : find hp2 n = none) (hF : okF dr l.length (fp st o.op) = true)
    (h : ChainD P base ops dr l (({ sl := st1.sl, hp := hp2, nx := st1.nx } : AS).putD o.dst (.d (.sl es xs))) st2) : ChainD P base ops dr (o :: l) st st2 := by
  cases dr with
  | none => exact .cons (good_opF hT hg ho (Nat.le_of_eq hn.1.symm) hh hf) h
  | some F => exact .cons ((stepF_opF hT hg ho hn hh hf).mono hF) h
theorem cd_callP {dr : Dr} {l : List Oper} {st2 : AS} {c : Call} {f : FuncId} {vs : List V} {ds : List DV} {v : V} {hp' : List (Nat × Blk)} {nx' : Nat} {r' r : DV} (hg : guardOk ops st o = some true) (ho : o.op = .call c) (hc : callee st c = some (f, vs))
    (hfz : allFrozen st.hp vs = some ds) (hgood : CallGood P f (ds.map .d) [] 0 v hp' nx') (hto : toD hp' 8 v = some r') (hle : DLe r' r) (hs : vs.all V.isD = true ∨ r.scalar = true) (hF : okF dr l.length (fpC vs) = true) (h : ChainD P base ops dr l (st.putD o.dst (.d r)) st2) : ChainD P base ops dr (o :: l) st st2 := by
  cases dr with
  | none => exact .cons (good_callP hg ho hc hfz hgood hto hle hs) h
  | some F => exact .cons ((stepF_callP hg ho hc hfz hgood hto hle hs).mono hF) h

/-! ### What the check says -/
def Adm (ops : Array Oper) (S : Nat → Prop) : Prop := ∀ j o, S j → ops[j]? = some o → ∀ e ∈ o.after, Region.binds .any e = true → S e.on
def Behind (ops : Array Oper) (o : Oper) (j : Nat) : Prop := ∀ S : Nat → Prop, Adm ops S → (∀ e ∈ o.after, Region.binds .any e = true → S e.on) → S j

theorem mask_bits (acc : List Nat) (j : Nat) : ∀ (l : List Edge) (s : Nat), (l.foldl (fun s e => if Region.binds .any e then s ||| 2 ^ e.on ||| acc.getD e.on 0 else s) s).testBit j = true →
    s.testBit j = true ∨ ∃ e ∈ l, Region.binds .any e = true ∧ (e.on = j ∨ (acc.getD e.on 0).testBit j = true)
  | [], s, h => .inl h
  | e :: l, s, h => by
    simp only [List.foldl_cons] at h
    rcases mask_bits acc j l _ h with h | ⟨e', h1, h2, h3⟩
    · by_cases hb : Region.binds .any e = true
      · simp only [hb, if_true, Nat.testBit_or, Bool.or_eq_true, Nat.testBit_two_pow] at h
        rcases h with (h | h) | h
        · exact .inl h
        · exact .inr ⟨e, by simp, hb, .inl (by simpa using h)⟩
        · exact .inr ⟨e, by simp, hb, .inr h⟩
      · simp only [hb] at h; exact .inl (by simpa using h)
    · exact .inr ⟨e', List.mem_cons_of_mem _ h1, h2, h3⟩

theorem masks_spec : ∀ (r : List Oper) (pre : List Oper) (acc : List Nat), ops.toList = pre ++ r → acc.length = pre.length →
    (∀ (i m : Nat), acc[i]? = some m → ∃ o, ops[i]? = some o ∧ ∀ j, m.testBit j = true → Behind ops o j) →
    (masks acc r).length = ops.size ∧ ∀ (i m : Nat), (masks acc r)[i]? = some m → ∃ o, ops[i]? = some o ∧ ∀ j, m.testBit j = true → Behind ops o j
  | [], pre, acc, h, hl, ha => by
    refine ⟨?_, ha⟩
    have := congrArg List.length h
    simp at this
    simp [masks, hl, this]
  | o :: r, pre, acc, h, hl, ha => by
    refine masks_spec r (pre ++ [o]) (acc ++ [maskOf acc o]) (by rw [h]; simp) (by simp [hl]) ?_
    intro i m hm
    by_cases hi : i < acc.length
    · rw [List.getElem?_append_left hi] at hm; exact ha i m hm
    · rw [List.getElem?_append_right (by omega)] at hm
      have hi' : i = acc.length := by
        have := lt_size hm
        simp at this; omega
      subst hi'
      simp at hm; subst hm
      refine ⟨o, by rw [← Array.getElem?_toList, h, hl]; simp, fun j hj S hS he => ?_⟩
      rcases mask_bits acc j _ _ hj with h0 | ⟨e, h1, h2, h3⟩
      · simp at h0
      · have hse := he e (by simpa using h1) h2
        rcases h3 with h3 | h3
        · exact h3 ▸ hse
        · rw [List.getD_eq_getElem?_getD] at h3
          cases hc : acc[e.on]? with
          | none => rw [hc] at h3; simp at h3
          | some m' =>
            rw [hc] at h3
            obtain ⟨o', ho', hb⟩ := ha _ _ hc
            exact hb j h3 S hS (fun e' he' hb' => hS _ _ hse ho' e' he' hb')

theorem edges_spec : ∀ (l : List Oper) (n : Nat), edgesOk n l = true → ∀ i o, l[i]? = some o → ∀ e ∈ o.after, Region.binds .any e = true → e.on < n + i
  | [], _, _, i, o, h => by simp at h
  | x :: l, n, h, i, o, ho => by
    simp only [edgesOk, Bool.and_eq_true, List.all_eq_true] at h
    cases i with
    | zero =>
      simp at ho; subst ho
      intro e he hb
      have := h.1 e (by simpa using he)
      simp [hb] at this
      exact this
    | succ i =>
      intro e he hb
      have := edges_spec l (n + 1) h.2 i o (by simpa using ho) e he hb
      omega

/-- Neither writes what the other reads or writes. -/
structure ApartF (x y : Fp) : Prop where
  ww : ∀ m ∈ x.2, m ∉ y.2
  rw : ∀ m ∈ y.2, match x.1 with | none => False | some r => m ∉ r
  wr : ∀ m ∈ x.2, match y.1 with | none => False | some r => m ∉ r
theorem apartN_spec {a b : List Nat} (h : apartN a b = true) : ∀ m ∈ a, m ∉ b := fun m hm hb => by
  simp only [apartN, List.all_eq_true] at h
  have := h m hm
  rw [mem_has hb] at this; cases this
theorem apartF_spec {x y : Fp} (h : apartF x y = true) : ApartF x y := by
  simp only [apartF, Bool.and_eq_true] at h
  obtain ⟨⟨h1, h2⟩, h3⟩ := h
  refine ⟨apartN_spec h1, fun m hm => ?_, fun m hm => ?_⟩
  · revert h2
    cases x.1 with
    | none => intro h2; rw [List.isEmpty_iff] at h2; rw [h2] at hm; cases hm
    | some r => intro h2 hr; exact apartN_spec h2 m hr hm
  · revert h3
    cases y.1 with
    | none => intro h3; rw [List.isEmpty_iff] at h3; rw [h3] at hm; cases hm
    | some r => intro h3 hr; exact apartN_spec h3 m hr hm
structure DrawOk (F : List Fp) (ops : Array Oper) : Prop where
  edges : ∀ j o, ops[j]? = some o → ∀ e ∈ o.after, Region.binds .any e = true → e.on < j
  pairs : ∀ i j a b, i < j → ops[i]? = some a → ops[j]? = some b → Behind ops b i ∨ (ApartF (fpAt F (ops.size - (i + 1))) (fpAt F (ops.size - (j + 1))) ∧ (∀ t ∈ reads ops a, b.dst ≠ some t) ∧ (∀ t ∈ reads ops b, a.dst ≠ some t) ∧ ∀ t, a.dst = some t → b.dst ≠ some t)
theorem zip_get {α : Type} {l : List α} {i : Nat} {x : α} (h : l[i]? = some x) : (x, i) ∈ l.zipIdx := by
  refine List.mem_of_getElem? (i := i) ?_
  simp [h]

theorem dstIs_iff {o : Oper} {t : Tmp} : dstIs o t = true ↔ o.dst = some t := by
  unfold dstIs
  cases o.dst with
  | none => simp
  | some d => simp

theorem draw_ok {F : List Fp} (h : drawOk F ops = true) : DrawOk F ops := by
  simp only [drawOk, Bool.and_eq_true, List.all_eq_true] at h
  obtain ⟨h2, h5⟩ := h
  obtain ⟨ml, ms⟩ := masks_spec (ops := ops) ops.toList [] [] rfl rfl (by simp)
  have toL : ∀ (i : Nat) (o : Oper), ops[i]? = some o → ops.toList[i]? = some o := fun i o ho => by rw [Array.getElem?_toList]; exact ho
  refine ⟨fun j o ho e he hb => ?_, fun i j a b hij ha hb => ?_⟩
  · have := edges_spec _ 0 h2 j o (toL j o ho) e he hb
    omega
  · have := h5 _ (zip_get (toL j b hb)) _ (zip_get (toL i a ha))
    simp only [Bool.or_eq_true] at this
    rcases this with (h | h) | h
    · have hb' : Nat.blt i j = true := by rw [Nat.blt_eq]; exact hij
      simp only [hb'] at h; cases h
    · left
      obtain ⟨m, hm⟩ := ex_get (xs := masks [] ops.toList) (i := j) (by rw [ml]; exact lt_sizeA hb)
      obtain ⟨o', ho', hbm⟩ := ms j m hm
      rw [hb] at ho'; cases ho'
      rw [List.getD_eq_getElem?_getD, hm] at h
      exact hbm i h
    · right
      simp only [Bool.and_eq_true] at h
      obtain ⟨h, hF⟩ := h
      simp only [apartB, Bool.and_eq_true, List.all_eq_true, Bool.not_eq_true'] at h
      obtain ⟨⟨h4, h6⟩, h7⟩ := h
      refine ⟨apartF_spec hF, fun t ht hd => ?_, fun t ht hd => ?_, fun t ht hd => ?_⟩
      · have := h4 t ht; rw [dstIs_iff.2 hd] at this; cases this
      · have := h6 t ht; rw [dstIs_iff.2 hd] at this; cases this
      · rw [ht] at h7; simp only at h7; rw [dstIs_iff.2 hd] at h7; simp at h7
end
end Go.Am
