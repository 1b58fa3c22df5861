/- A REGION THAT DRAWS ITS ORDER: any order is as good as the text's. -/
import Derived.Test.YtcpogfjlehoabaaAm22
namespace Go.Am
open Go
variable {P : Program} {T : Tab}
section
variable {base : Nat} {w : World} {Z : Nat → Prop} {inj : Inj} {st st1 st2 : AS} {a : Act} {Ds : List Nat} {ops : Array Oper} {o : Oper}

structure Agree (ops : Array Oper) (o : Oper) (st st2 : AS) : Prop where
  hp : touch o.op ≠ 0 → st2.hp = st.hp ∧ st2.nx = st.nx
  sl : ∀ t ∈ reads ops o, st2.get t = st.get t

theorem Agree.ev (h : Agree ops o st st2) {x : Operand} (hx : x ∈ o.op.operands) : st2.ev x = st.ev x := by
  cases x with
  | tmp t => exact h.sl t (List.mem_append_left _ (by unfold slotsOf; rw [List.mem_filterMap]; exact ⟨.tmp t, by simpa using hx, rfl⟩))
  | const v => rfl
  | func f => rfl
  | global g => rfl

theorem Agree.guard (h : Agree ops o st st2) : guardOk ops st2 o = guardOk ops st o := by
  have hs := h.sl
  unfold reads at hs
  unfold guardOk
  cases hg : o.guard with
  | none => rfl
  | some jw =>
    obtain ⟨j, want⟩ := jw
    simp only [hg] at hs
    simp only
    cases hd : (ops[j]?).bind (·.dst) with
    | none => rfl
    | some t =>
      simp only [hd] at hs
      simp only
      rw [hs t (by simp)]

theorem Agree.callee (h : Agree ops o st st2) {c : Call} (ho : o.op = .call c) : callee st2 c = callee st c := by
  obtain ⟨cal, args, argTypes⟩ := c
  unfold Am.callee
  cases cal with
  | builtin b => rfl
  | invoke r n => rfl
  | value f =>
    simp only
    rw [h.ev (x := f) (by rw [ho]; simp [Op.operands, Call.operands]), evL_congr (fun x hx => h.ev (x := x) (by rw [ho]; simp [Op.operands, Call.operands]; exact .inr (by simpa using hx)))]

theorem get_putD {st : AS} {d : Option Tmp} {v : V} {t : Tmp} : (st.putD d v).get t = if d = some t then some v else st.get t := by
  cases d with
  | none => simp [AS.putD]
  | some d => simp only [AS.putD, AS.put, AS.get, find_cons, Option.some.injEq]

/-- What an operation does, here and wherever it reads the same. -/
structure Step (P : Program) (base : Nat) (ops : Array Oper) (o : Oper) (st st1 : AS) : Prop where
  good : SeqGood P base ops o st st1
  sl : ∀ t, o.dst ≠ some t → st1.get t = st.get t
  hp : touch o.op ≠ 2 → st1.hp = st.hp ∧ st1.nx = st.nx
  other : ∀ st2, Agree ops o st st2 → ∃ st3, SeqGood P base ops o st2 st3 ∧ (∀ t, o.dst ≠ some t → st3.get t = st2.get t) ∧ (∀ t, o.dst = some t → st3.get t = st1.get t) ∧
    (touch o.op ≠ 2 → st3.hp = st2.hp ∧ st3.nx = st2.nx) ∧ (touch o.op = 2 → st3.hp = st1.hp ∧ st3.nx = st1.nx)

theorem step_put {v : V} (hg : SeqGood P base ops o st (st.putD o.dst v)) (h2 : ∀ st2, Agree ops o st st2 → SeqGood P base ops o st2 (st2.putD o.dst v)) (ht : touch o.op ≠ 2 ∨ ∀ st2, Agree ops o st st2 → st2.hp = st.hp ∧ st2.nx = st.nx) : Step P base ops o st (st.putD o.dst v) := by
  refine ⟨hg, fun t h => by rw [get_putD, if_neg h], fun _ => ⟨putD_hp _ _ _, putD_nx _ _ _⟩, fun st2 ha => ⟨_, h2 st2 ha, fun t h => by rw [get_putD, if_neg h], fun t h => by rw [get_putD, get_putD, if_pos h, if_pos h], fun _ => ⟨putD_hp _ _ _, putD_nx _ _ _⟩, fun h => ?_⟩⟩
  rw [putD_hp, putD_hp, putD_nx, putD_nx]
  exact ht.elim (fun h' => absurd h h') (fun h' => h' st2 ha)

theorem step_skip (hg : guardOk ops st o = some false) : Step P base ops o st (st.putD o.dst (.d (.tup []))) := by
  refine step_put (good_skip hg) (fun _ ha => good_skip (ha.guard.trans hg)) ?_
  by_cases h : touch o.op = 2
  · exact .inr fun st2 ha => ha.hp (by omega)
  · exact .inl h
theorem step_op {v : V} (hT : TabOk P T) (hg : guardOk ops st o = some true) (ho : opFn T st o.op = some (v, st1)) : Step P base ops o st (st1.putD o.dst v) := by
  by_cases ht : touch o.op = 2
  · have hsl : st1.sl = st.sl := (op_local2 (st2 := st) ho ht rfl rfl (fun _ _ => rfl)).1
    have hget : ∀ t, st1.get t = st.get t := fun t => by unfold AS.get; rw [hsl]
    refine ⟨good_op hT hg ho, fun t h => by rw [get_putD, if_neg h, hget], fun h => absurd ht h, fun st2 ha => ?_⟩
    have hh := ha.hp (by omega)
    refine ⟨_, good_op hT (ha.guard.trans hg) (op_local2 ho ht hh.1 hh.2 (fun x hx => ha.ev hx)).2, fun t h => by rw [get_putD, if_neg h]; rfl, fun t h => by rw [get_putD, get_putD, if_pos h, if_pos h], fun h => absurd ht h, fun _ => ⟨by rw [putD_hp, putD_hp], by rw [putD_nx, putD_nx]⟩⟩
  · have hle : touch o.op ≤ 1 := by
      have : touch o.op ≤ 2 := by unfold touch; split <;> omega
      omega
    have h0 := (op_local (st2 := st) ho hle (fun _ => rfl) (fun _ _ => rfl)).1
    subst h0
    exact step_put (good_op hT hg ho) (fun st2 ha => good_op hT (ha.guard.trans hg) (op_local ho hle (fun h => (ha.hp h).1) (fun x hx => ha.ev hx)).2) (.inl ht)
/-! A row that is frozen as it is made -/
theorem wv_self {w : World} {Z : Nat → Prop} {inj : Inj} {nx : Nat} {fz : List Nat} {st0 : AS} {v : V} {x : Value} (h : RelV w Z inj nx v x) : Wv st0 (fun n => n) fz [] nx v v := by
  induction h with
  | d h => exact .d (.refl _)
  | @agg ds cs hl _ ih =>
    exact .agg rfl fun i c d hc hd => by
      rw [hc] at hd; cases hd
      obtain ⟨y, hy⟩ := ex_getA (xs := cs) (i := i) (by rw [← hl]; exact lt_size hc)
      exact ih i c y hc hy
  | @tup ds cs hl _ ih =>
    exact .tup rfl fun i c d hc hd => by
      rw [hc] at hd; cases hd
      obtain ⟨y, hy⟩ := ex_getA (xs := cs) (i := i) (by rw [← hl]; exact lt_size hc)
      exact ih i c y hc hy
  | @fn f ds cs hl _ ih =>
    exact .fn rfl fun i c d hc hd => by
      rw [hc] at hd; cases hd
      obtain ⟨y, hy⟩ := ex_getA (xs := cs) (i := i) (by rw [← hl]; exact lt_size hc)
      exact ih i c y hc hy
  | ref h1 h2 => exact .ref rfl (by simp) h1
  | @dref cs j _ _ _ _ _ => exact .dref cs j
  | hsnil h1 => exact .hs rfl (by simp) h1
  | hs h1 _ _ _ => exact .hs rfl (by simp) h1
  | yld h1 _ => exact .yld rfl (by simp) h1
  | dead v => exact .dead _
theorem wb_self {w : World} {Z : Nat → Prop} {inj : Inj} {nx n : Nat} {fz : List Nat} {st0 : AS} {b : Blk} (h : RelB w Z inj nx n b) : Wb st0 (fun n => n) fz [] nx b b := by
  cases b with
  | dead => exact .dead _
  | dat es xs => exact .dat _ _
  | cel es xs =>
    obtain ⟨_, _, h3⟩ := h
    refine .cel rfl fun i x y hx hy => ?_
    rw [hx] at hy; cases hy
    refine ⟨rfl, fun j c d hc hd => ?_⟩
    rw [hc] at hd; cases hd
    rcases h3 with ⟨rfl, _⟩ | ⟨b, o, arr, ty, _, _, h5⟩
    · simp at hx
    · obtain ⟨h6, c', _, h8⟩ := h5 i x j c hx hc
      exact ⟨wv_self h8, h6⟩
  | loop s ps assign body dn pe =>
    obtain ⟨b, tmps, D, fn, _, _, _, h4⟩ := h
    refine .loop fun t v' hv => ?_
    obtain ⟨x, _, hr⟩ := h4 t v' hv
    exact ⟨v', hv, wv_self hr⟩
theorem post_freeze {w : World} {Z : Nat → Prop} {inj : Inj} {a a' : Act} {Ds : List Nat} {w' : World} {dst : Option Tmp} {n es : Nat} {xs : List (List DV)} {hp2 : List (Nat × Blk)}
    (h : PostAt base w Z inj st a Ds (st1.putD dst (.hs n es 0 xs.length)) a' w') (hh : st1.hp = (n, .dat es xs) :: hp2) (hf : find hp2 n = none) (hn : base ≤ n) :
    PostAt base w Z inj st a Ds (({ sl := st1.sl, hp := hp2, nx := st1.nx } : AS).putD dst (.d (.sl es xs))) a' w' := by
  obtain ⟨Z', inj', Ds', h1, h2, h3, h4, h5⟩ := h
  have hw : Wk base (fun n => n) [n] [] (st1.putD dst (.hs n es 0 xs.length)) (({ sl := st1.sl, hp := hp2, nx := st1.nx } : AS).putD dst (.d (.sl es xs))) := by
    have hnx : (({ sl := st1.sl, hp := hp2, nx := st1.nx } : AS).putD dst (.d (.sl es xs))).nx = st1.nx := putD_nx _ _ _
    have hhp : (({ sl := st1.sl, hp := hp2, nx := st1.nx } : AS).putD dst (.d (.sl es xs))).hp = hp2 := putD_hp _ _ _
    have hblk : ∀ m b, find hp2 m = some b → m ≠ n ∧ find (st1.putD dst (.hs n es 0 xs.length)).hp m = some b := by
      intro m b hm
      have hne : m ≠ n := by rintro rfl; rw [hf] at hm; cases hm
      refine ⟨hne, ?_⟩
      rw [putD_hp, hh, find_cons, if_neg (by intro e; exact hne e.symm)]; exact hm
    refine ⟨?_, ?_, ?_, ?_, fun _ _ => rfl, by rw [hnx]; rw [putD_nx] at h4; exact h4, fun m hm => by simp at hm; omega, fun m hm => by cases hm⟩
    · intro t v' hv
      rw [hnx]
      rw [get_putD] at hv
      by_cases ht : dst = some t
      · rw [if_pos ht] at hv; cases hv
        refine ⟨_, by rw [get_putD, if_pos ht], .frz (k := es) (xs := xs) ?_ (by simp) (by omega) (by simp) rfl⟩
        show find (st1.putD dst _).hp n = _
        rw [putD_hp, hh, find_cons, if_pos rfl]
      · rw [if_neg ht] at hv
        have hg : (st1.putD dst (.hs n es 0 xs.length)).get t = some v' := by rw [get_putD, if_neg ht]; exact hv
        obtain ⟨x, _, hr⟩ := h1.slots t v' hg
        rw [putD_nx] at hr
        exact ⟨v', hg, wv_self hr⟩
    · intro m b' hm
      rw [hnx]
      unfold AS.blk at hm
      rw [hhp] at hm
      obtain ⟨hne, hm'⟩ := hblk m b' hm
      obtain ⟨k1, k2⟩ := h1.heap.blk m b' hm'
      rw [putD_nx] at k1 k2
      exact ⟨k1, .inr ⟨by simp, b', hm', wb_self k2⟩⟩
    · intro m k b c _ _ _ _ e; exact e
    · intro m b hm _ hc
      unfold AS.blk at hm
      rw [hhp] at hm
      simp at hc
      exact (hblk m b hm).1 hc
  obtain ⟨hrel, hext⟩ := wk_sound h1 hw
  exact ⟨_, _, Ds', hrel, h2.trans hext (Nat.le_refl _), h3, hw.bs, h5⟩
theorem good_opF {n es : Nat} {xs : List (List DV)} {hp2 : List (Nat × Blk)} (hT : TabOk P T) (hg : guardOk ops st o = some true) (ho : opFn T st o.op = some (.hs n es 0 xs.length, st1)) (hn : st.nx ≤ n) (hh : st1.hp = (n, .dat es xs) :: hp2) (hf : find hp2 n = none) :
    SeqGood P base ops o st (({ sl := st1.sl, hp := hp2, nx := st1.nx } : AS).putD o.dst (.d (.sl es xs))) := by
  intro ro Q w Z inj a Ds K h hd hb hro hK
  exact good_op hT hg ho ro Q w Z inj a Ds K h hd hb hro fun a' w' hp => hK a' w' (post_freeze hp hh hf (Nat.le_trans hb hn))
theorem step_opF {n es : Nat} {xs : List (List DV)} {hp2 : List (Nat × Blk)} (hT : TabOk P T) (hg : guardOk ops st o = some true) (ho : opFn T st o.op = some (.hs n es 0 xs.length, st1)) (ht : touch o.op = 2) (hn : st.nx ≤ n) (hh : st1.hp = (n, .dat es xs) :: hp2) (hf : find hp2 n = none) :
    Step P base ops o st (({ sl := st1.sl, hp := hp2, nx := st1.nx } : AS).putD o.dst (.d (.sl es xs))) := by
  have hsl : st1.sl = st.sl := (op_local2 (st2 := st) ho ht rfl rfl (fun _ _ => rfl)).1
  have hget : ∀ t, st1.get t = st.get t := fun t => by unfold AS.get; rw [hsl]
  refine ⟨good_opF hT hg ho hn hh hf, fun t h => by rw [get_putD, if_neg h]; exact hget t, fun h => absurd ht h, fun st2 ha => ?_⟩
  have hh2 := ha.hp (by omega)
  refine ⟨_, good_opF (st1 := { st1 with sl := st2.sl }) hT (ha.guard.trans hg) (op_local2 ho ht hh2.1 hh2.2 (fun x hx => ha.ev hx)).2 (by rw [hh2.2]; exact hn) hh hf, fun t h => by rw [get_putD, if_neg h]; rfl, fun t h => by rw [get_putD, get_putD, if_pos h, if_pos h], fun h => absurd ht h, fun _ => ⟨by rw [putD_hp, putD_hp], by rw [putD_nx, putD_nx]⟩⟩
theorem step_callP {c : Call} {f : FuncId} {vs : List V} {ds : List DV} {v : V} {hp' : List (Nat × Blk)} {nx' : Nat} {r' r : DV} (hg : guardOk ops st o = some true) (ho : o.op = .call c) (hc : callee st c = some (f, vs))
    (hfz : allFrozen st.hp vs = some ds) (hgood : CallGood P f (ds.map .d) [] 0 v hp' nx') (hto : toD hp' 8 v = some r') (hle : DLe r' r) (hs : vs.all V.isD = true ∨ r.scalar = true) : Step P base ops o st (st.putD o.dst (.d r)) := by
  have ht : touch o.op = 1 := by
    rw [ho]
    obtain ⟨cal, args, argTypes⟩ := c
    cases cal <;> simp [callee] at hc
    rfl
  exact step_put (good_callP hg ho hc hfz hgood hto hle hs) (fun st2 ha => good_callP (ha.guard.trans hg) ho ((ha.callee ho).trans hc) (by rw [(ha.hp (by omega)).1]; exact hfz) hgood hto hle hs) (.inl (by omega))
/-! A call that sees some blocks alone -/
theorem relV_inj {w : World} {Z : Nat → Prop} {inj inj' : Inj} {nx : Nat} {v : V} {x : Value} (h : RelV w Z inj nx v x) (hi : ∀ n p, n < nx → inj n = some p → inj' n = some p) : RelV w Z inj' nx v x := by
  induction h with
  | d h => exact .d h
  | agg hl _ ih => exact .agg hl ih
  | tup hl _ ih => exact .tup hl ih
  | fn hl _ ih => exact .fn hl ih
  | ref h1 h2 => exact .ref h1 (hi _ _ h1 h2)
  | dref h1 h2 h3 => exact .dref h1 h2 h3
  | hsnil h1 => exact .hsnil h1
  | hs h1 h2 hsp h3 =>
    refine .hs h1 h2 hsp fun hc => ?_
    obtain ⟨b, o, e1, e2, e3⟩ := h3 hc
    exact ⟨b, o, hi _ _ h1 e1, e2, e3⟩
  | yld h1 h2 => exact .yld h1 (hi _ _ h1 h2)
  | dead v => exact .dead v
theorem relB_inj {w : World} {Z : Nat → Prop} {inj inj' : Inj} {nx n : Nat} {b : Blk} (h : RelB w Z inj nx n b) (hi : ∀ n p, n < nx → inj n = some p → inj' n = some p) (hn : n < nx) (hnone : inj n = none → inj' n = none) : RelB w Z inj' nx n b := by
  cases b with
  | dead => trivial
  | dat es xs =>
    obtain ⟨h1, h2, h3⟩ := h
    refine ⟨h1, h2, ?_⟩
    rcases h3 with ⟨h3, h4⟩ | ⟨b, o, arr, ty, h3, h4, h5⟩
    · exact .inl ⟨h3, hnone h4⟩
    · exact .inr ⟨b, o, arr, ty, hi _ _ hn h3, h4, h5⟩
  | cel es xs =>
    obtain ⟨h1, h2, h3⟩ := h
    refine ⟨h1, h2, ?_⟩
    rcases h3 with ⟨h3, h4⟩ | ⟨b, o, arr, ty, h3, h4, h5⟩
    · exact .inl ⟨h3, hnone h4⟩
    · refine .inr ⟨b, o, arr, ty, hi _ _ hn h3, h4, fun i x j d hx hd => ?_⟩
      obtain ⟨h6, c, h7, h8⟩ := h5 i x j d hx hd
      exact ⟨h6, c, h7, relV_inj h8 hi⟩
  | loop s ps assign body dn pe =>
    obtain ⟨b, tmps, D, fn, h1, h2, h3, h4⟩ := h
    refine ⟨b, tmps, D, fn, hi _ _ hn h1, h2, h3, fun t v ht => ?_⟩
    obtain ⟨x, hx, hr⟩ := h4 t v ht
    exact ⟨x, hx, relV_inj hr hi⟩

theorem good_callF {ops : Array Oper} {o : Oper} {c : Call} {f : FuncId} {vs vs' : List V} {hp0 hp' hpR hpN : List (Nat × Blk)} {k k' nxN : Nat} {v' vN : V} {ρ ρ3 : Nat → Nat} {fz3 ph3 : List Nat} (hg : guardOk ops st o = some true) (ho : o.op = .call c) (hc : callee st c = some (f, vs)) (hlen : vs.length = vs'.length)
    (hw1 : Wk 0 ρ [] [] { sl := argSlots 0 vs, hp := st.hp, nx := st.nx } { sl := argSlots 0 vs', hp := hp0, nx := k }) (hgood : CallGood P f vs' hp0 k v' hp' k') (hw3 : Wk 0 ρ3 fz3 ph3 { sl := [(0, v')], hp := hp', nx := k' } { sl := [(0, vN)], hp := hpR, nx := nxN })
    (hb : Back ρ ρ3 ph3 k k' st.nx nxN st.hp hpR hpN) : SeqGood P base ops o st ({ sl := st.sl, hp := hpN, nx := nxN : AS }.putD o.dst vN) := by
  intro ro Q w Z inj a Ds K h hd hbase _ hK
  unfold stepO
  rw [guard_wanted h hg]
  simp only [if_true]
  refine ⟨fun _ _ => trivial, ?_⟩
  obtain ⟨xs, hr, hl⟩ := callee_run h ho hc hgood.1
  rw [show (Fw ro).round = ro from rfl, Oper.semAt_eq ro _ o (by rintro c' h'; rw [ho] at h'; cases h'), hr, Oper.uponIn_enter]
  refine ⟨fun h => by simp [Fw] at h, ?_⟩
  -- the callee's view
  have hrel0 : RelS w Z inj { sl := argSlots 0 vs, hp := st.hp, nx := st.nx } { a with tmps := xs, defers := [] } [] := by
    refine ⟨fun t v ht => ?_, h.heap, rfl, List.nodup_nil, by simp⟩
    rw [argSlots_get] at ht
    simp only [Nat.zero_le, if_true, Nat.sub_zero] at ht
    obtain ⟨y, hy⟩ := ex_getA (xs := xs) (i := t) (by rw [← hl.1]; exact lt_size ht)
    exact ⟨y, hy, hl.2 t v y ht hy⟩
  obtain ⟨hr1, he1⟩ := wk_sound hrel0 hw1
  have hl1 : LRel w (wkZ Z inj { sl := argSlots 0 vs, hp := st.hp, nx := st.nx } []) (wkI inj ρ []) k vs' xs := by
    refine ⟨by rw [← hlen]; exact hl.1, fun i d y hdi hyi => ?_⟩
    obtain ⟨y', hy', hr⟩ := hr1.slots i d (by rw [argSlots_get]; simpa using hdi)
    rw [hyi] at hy'; cases hy'
    exact hr
  refine CallsIn.mono (hgood.2 w _ _ xs hr1.heap hl1) ?_
  rintro e w' ⟨x, Z', inj', rfl, hh, he2, hv, hn⟩
  -- nothing behind the last block
  obtain ⟨inj2, hinj2⟩ : ∃ inj2 : Inj, inj2 = fun n => if n < k' then inj' n else none := ⟨_, rfl⟩
  have hag : ∀ n, n < k' → inj2 n = inj' n := fun n hn => by rw [hinj2]; simp [hn]
  have hh2 : RelH w' Z' inj2 hp' k' := by
    refine ⟨fun n b hb => ?_, fun n m b c p q h1 h2 h3 h4 h5 h6 => ?_, fun n b p h1 h2 h3 => ?_, hh.zs, hh.zc⟩
    · obtain ⟨k1, k2⟩ := hh.blk n b hb
      exact ⟨k1, relB_inj k2 (fun m p hm hp => (hag m hm).trans hp) k1 (fun hp => (hag n k1).trans hp)⟩
    · rw [hag n (hh.blk n b h1).1] at h5; rw [hag m (hh.blk m c h2).1] at h6
      exact hh.sep n m b c p q h1 h2 h3 h4 h5 h6
    · rw [hag n (hh.blk n b h1).1] at h3
      exact hh.out n b p h1 h2 h3
  have hv2 : RelV w' Z' inj2 k' v' x := relV_inj hv fun n p hn hp => (hag n hn).trans hp
  have him : ∀ b, im hp' inj2 b → im hp' inj' b := by
    rintro b ⟨n, blk, o, h1, h2, h3⟩
    exact ⟨n, blk, o, h1, h2, by rw [← hag n (hh.blk n blk h1).1]; exact h3⟩
  have hrel3 : RelS w' Z' inj2 { sl := [(0, v')], hp := hp', nx := k' } { a with tmps := #[x], defers := [] } [] := by
    refine ⟨fun t v ht => ?_, hh2, rfl, List.nodup_nil, by simp⟩
    rw [find_cons] at ht
    split at ht
    · rename_i e; subst e; cases ht; exact ⟨x, rfl, hv2⟩
    · simp [find] at ht
  obtain ⟨hr3, he3⟩ := wk_sound hrel3 hw3
  generalize hZ3 : wkZ Z' inj2 { sl := [(0, v')], hp := hp', nx := k' } fz3 = Z3 at hr3 he3
  generalize hJ3 : wkI inj2 ρ3 ph3 = inj3 at hr3 he3
  have hvN : RelV w' Z3 inj3 nxN vN x := by
    obtain ⟨y, hy, hr⟩ := hr3.slots 0 vN (by simp [find])
    simp at hy; subst hy; exact hr
  -- the names agree
  have hpin : ∀ i, i < k → inj' i = inj (ρ i) := fun i hi => by rw [he2.pinj i hi]; simp [wkI]
  have hlow : ∀ m, m < st.nx → ∀ p, inj3 m = some p → inj m = some p := by
    intro m hm p hp
    have hnp : m ∉ ph3 := fun hc => by have := hb.phn m hc; omega
    rw [← hJ3] at hp
    simp only [wkI, hnp, if_false] at hp
    rcases hb.snd m hm with ⟨h1, h2⟩ | h1
    · rw [hinj2] at hp
      simp only [show ρ3 m < k' by omega, if_true] at hp
      rw [hpin _ h1, h2] at hp; exact hp
    · rw [hinj2] at hp; simp [show ¬ ρ3 m < k' by omega] at hp
  obtain ⟨injN, hinjN⟩ : ∃ injN : Inj, injN = fun m => if m < st.nx then inj m else inj3 m := ⟨_, rfl⟩
  have hN1 : ∀ m, m < st.nx → injN m = inj m := fun m hm => by rw [hinjN]; simp [hm]
  have hN2 : ∀ m p, inj3 m = some p → injN m = some p := fun m p hp => by
    by_cases hm : m < st.nx
    · rw [hN1 m hm]; exact hlow m hm p hp
    · rw [hinjN]; simp [hm, hp]
  -- a block of the callee's, under the caller's name
  have hR : ∀ m b, find hpR m = some b → ∀ p, injN m = some p → inj3 m = some p := by
    intro m b hmb p hp
    by_cases hm : m < st.nx
    · rw [hN1 m hm] at hp
      have hnp : m ∉ ph3 := fun hc => by have := hb.phn m hc; omega
      obtain ⟨_, h2⟩ := hw3.blocks m b hmb
      rcases h2 with ⟨h2, _⟩ | ⟨_, b0, h3, _⟩
      · exact absurd h2 hnp
      · have hlt := (hh.blk _ _ h3).1
        rcases hb.snd m hm with ⟨k1, k2⟩ | k1
        · rw [← hJ3]
          simp only [wkI, hnp, if_false]
          rw [hag _ (by omega), hpin _ k1, k2]; exact hp
        · omega
    · rw [hinjN] at hp; simpa [hm] using hp
  have hE : Ext w (wkZ Z inj { sl := argSlots 0 vs, hp := st.hp, nx := st.nx } []) (wkI inj ρ []) hp0 w' Z' inj' hp' 0 := he2.pin_le (Nat.zero_le _)
  have imR : ∀ b, im hpR inj3 b → im st.hp inj b ∨ w.heap.size ≤ b := by
    intro b hb'
    rcases he3.imm b hb' with h1 | h1
    · rcases hE.imm b (him b h1) with h2 | h2
      · exact he1.imm b h2
      · exact .inr h2
    · exact .inr (Nat.le_trans hE.size h1)
  have keep : ∀ b, b < w.heap.size → ¬ im hp0 (wkI inj ρ []) b → w'.heap[b]? = w.heap[b]? := fun b hb1 hb2 => hE.keep b hb1 hb2
  -- a block of the caller's that the callee doesn't see
  have hfar : ∀ m b p, find st.hp m = some b → live b = true → inj m = some p → (∀ i, i < k → ρ i ≠ m) → ¬ im hp0 (wkI inj ρ []) p.1 := by
    rintro m b p h1 h2 h3 h4 ⟨i, blk, o, g1, g2, g3⟩
    obtain ⟨j1, j2⟩ := hw1.blocks i blk g1
    rcases j2 with ⟨j2, _⟩ | ⟨_, b0, j3, j4⟩
    · cases j2
    · have g3' : inj (ρ i) = some (p.1, o) := by simpa [wkI] using g3
      exact h.heap.sep (ρ i) m b0 b _ p j3 h1 (wb_live j4 g2) h2 g3' h3 (h4 i j1) rfl
  have hZ : ∀ b, Z b → Z3 b := fun b hz => he3.zin b (hE.zin b (he1.zin b hz))
  have hZo : ∀ b, Z3 b → Z b ∨ im hp0 (wkI inj ρ []) b ∨ w.heap.size ≤ b := by
    intro b hz
    rcases he3.zout b hz with h1 | h1 | h1
    · rcases hE.zout b h1 with h2 | h2 | h2
      · rcases he1.zout b h2 with h3 | h3 | h3
        · exact .inl h3
        · rcases h2 with h2 | ⟨n, hn, _⟩
          · exact .inl h2
          · cases hn
        · exact .inr (.inr h3)
      · exact .inr (.inl h2)
      · exact .inr (.inr h2)
    · rcases hE.imm b (him b h1) with h2 | h2
      · exact .inr (.inl h2)
      · exact .inr (.inr h2)
    · exact .inr (.inr (Nat.le_trans hE.size h1))
  have hbig : KeepBig w w' := hE.big
  have hloops : KeepLoops w w' := hE.loops
  have hExt : Ext w Z inj st.hp w' Z3 injN hpN st.nx := by
    refine ⟨hE.size, fun b h1 h2 => keep b h1 (fun h3 => (he1.imm b h3).elim h2 (fun h4 => by omega)), ?_, hbig, hloops, hZ, ?_, hN1, hE.tape, hE.os, hE.output, hE.frz⟩
    · rintro b ⟨m, blk, o, g1, g2, g3⟩
      rcases hb.old m blk g1 with g4 | ⟨g4, _⟩
      · exact imR b ⟨m, blk, o, g4, g2, hR m blk g4 _ g3⟩
      · exact .inl ⟨m, blk, o, g4, g2, by rw [← hN1 m (h.heap.blk m blk g4).1]; exact g3⟩
    · intro b hz
      rcases hZo b hz with h1 | h1 | h1
      · exact .inl h1
      · exact .inr ((he1.imm b h1).imp (fun x => x) (fun x => x))
      · exact .inr (.inr h1)
  have hH : RelH w' Z3 injN hpN nxN := by
    refine ⟨fun m b hmb => ?_, fun m n b c p q h1 h2 h3 h4 h5 h6 hne => ?_, fun m b p h1 h2 h3 hz => ?_, hr3.heap.zs, hr3.heap.zc⟩
    · rcases hb.old m b hmb with g | ⟨g, gi⟩
      · obtain ⟨k1, k2⟩ := hr3.heap.blk m b g
        refine ⟨k1, relB_inj k2 (fun n p _ hp => hN2 n p hp) k1 fun hp => ?_⟩
        cases hq : injN m with
        | none => rfl
        | some p => rw [hR m b g p hq] at hp; cases hp
      · obtain ⟨k1, k2⟩ := h.heap.blk m b g
        refine ⟨Nat.lt_of_lt_of_le k1 hb.nxs, k2.mono (fun b' hz => ?_) hZ hbig (fun n hn => hN1 n hn) hb.nxs k1 fun p hp hlv => ?_⟩
        · refine keep b' (h.heap.zs b' hz) fun hi => ?_
          rcases he1.imm b' hi with h1 | h1
          · exact h.heap.z_im hz h1
          · have := h.heap.zs b' hz; omega
        · exact keep _ (h.heap.im_lt ⟨m, b, p.2, g, hlv, hp⟩) (hfar m b p g hlv hp gi)
    · have cross : ∀ (m n : Nat) (b c : Blk) (p q : Nat × Nat), find hpR m = some b → live b = true → injN m = some p → find st.hp n = some c → live c = true → injN n = some q → (∀ i, i < k → ρ i ≠ n) → p.1 ≠ q.1 := by
        intro m n b c p q h1 h3 h5 h2 h4 h6 hn e
        have hq : inj n = some q := by rw [← hN1 n (h.heap.blk n c h2).1]; exact h6
        have hlt := h.heap.im_lt (b := q.1) ⟨n, c, q.2, h2, h4, hq⟩
        rcases he3.imm p.1 ⟨m, b, p.2, h1, h3, hR m b h1 p h5⟩ with g1 | g1
        · rcases hE.imm p.1 (him _ g1) with g2 | g2
          · exact hfar n c q h2 h4 hq hn (e ▸ g2)
          · omega
        · have := hE.size; omega
      rcases hb.old m b h1 with g | ⟨g, gi⟩ <;> rcases hb.old n c h2 with g' | ⟨g', gi'⟩
      · exact hr3.heap.sep m n b c p q g g' h3 h4 (hR m b g p h5) (hR n c g' q h6) hne
      · exact cross m n b c p q g h3 h5 g' h4 h6 gi'
      · exact fun e => cross n m c b q p g' h4 h6 g h3 h5 gi e.symm
      · exact h.heap.sep m n b c p q g g' h3 h4 (by rw [← hN1 m (h.heap.blk m b g).1]; exact h5) (by rw [← hN1 n (h.heap.blk n c g').1]; exact h6) hne
    · rcases hb.old m b h1 with g | ⟨g, gi⟩
      · exact hr3.heap.out m b p g h2 (hR m b g p h3) hz
      · have hq : inj m = some p := by rw [← hN1 m (h.heap.blk m b g).1]; exact h3
        rcases hZo p.1 hz with h4 | h4 | h4
        · exact h.heap.out m b p g h2 hq h4
        · exact hfar m b p g h2 hq gi h4
        · have := h.heap.im_lt (b := p.1) ⟨m, b, p.2, g, h2, hq⟩; omega
  exact hK _ _ (post_step h hbase hExt hH hb.nxs (relV_inj hvN fun n p _ hp => hN2 n p hp) hd)
theorem step_callS {c : Call} {f : FuncId} {vs : List V} {v : V} {hp' : List (Nat × Blk)} {nx' : Nat} (hg : guardOk ops st o = some true) (ho : o.op = .call c) (hc : callee st c = some (f, vs)) (hgood : CallGood P f vs st.hp st.nx v hp' nx') :
    SeqGood P base ops o st ({ sl := st.sl, hp := hp', nx := nx' : AS }.putD o.dst v) := good_callS hg ho hc hgood

inductive Chain (P : Program) (base : Nat) (ops : Array Oper) : Bool → List Oper → AS → AS → Prop
  | nil {dr : Bool} {st : AS} : Chain P base ops dr [] st st
  | cons {dr : Bool} {o : Oper} {l : List Oper} {st st1 st2 : AS} : Step P base ops o st st1 → Chain P base ops dr l st1 st2 → Chain P base ops dr (o :: l) st st2
  | loud {o : Oper} {l : List Oper} {st st1 st2 : AS} : SeqGood P base ops o st st1 → Chain P base ops false l st1 st2 → Chain P base ops false (o :: l) st st2
  | wk {ρ : Nat → Nat} {fz ph : List Nat} {l : List Oper} {st st1 st2 : AS} : Wk base ρ fz ph st st1 → Chain P base ops false l st1 st2 → Chain P base ops false l st st2

theorem chain_states : ∀ {l : List Oper} {st st' : AS}, Chain P base ops true l st st' → ∃ S : Nat → AS, S 0 = st ∧ S l.length = st' ∧ ∀ i o, l[i]? = some o → Step P base ops o (S i) (S (i + 1))
  | [], st, st', h => by cases h; exact ⟨fun _ => st, rfl, rfl, fun i o h => by simp at h⟩
  | o :: l, st, st', h => by
    cases h with | @cons _ _ _ _ st1 _ h1 h2 =>
    obtain ⟨S, e0, e1, hs⟩ := chain_states h2
    refine ⟨fun i => match i with | 0 => st | i + 1 => S i, rfl, e1, fun i o' ho => ?_⟩
    cases i with
    | zero => simp at ho; subst ho; simp only [e0]; exact h1
    | succ i => exact hs i o' (by simpa using ho)

/-! ### What the check says -/
def Adm (ops : Array Oper) (S : Nat → Prop) : Prop := ∀ j o, S j → ops[j]? = some o → ∀ e ∈ o.after, Region.binds .any e = true → S e.on
def Behind (ops : Array Oper) (o : Oper) (j : Nat) : Prop := ∀ S : Nat → Prop, Adm ops S → (∀ e ∈ o.after, Region.binds .any e = true → S e.on) → S j

theorem mask_bits (acc : List Nat) (j : Nat) : ∀ (l : List Edge) (s : Nat), (l.foldl (fun s e => if Region.binds .any e then s ||| 2 ^ e.on ||| acc.getD e.on 0 else s) s).testBit j = true →
    s.testBit j = true ∨ ∃ e ∈ l, Region.binds .any e = true ∧ (e.on = j ∨ (acc.getD e.on 0).testBit j = true)
  | [], s, h => .inl h
  | e :: l, s, h => by
    simp only [List.foldl_cons] at h
    rcases mask_bits acc j l _ h with h | ⟨e', h1, h2, h3⟩
    · by_cases hb : Region.binds .any e = true
      · simp only [hb, if_true, Nat.testBit_or, Bool.or_eq_true, Nat.testBit_two_pow] at h
        rcases h with (h | h) | h
        · exact .inl h
        · exact .inr ⟨e, by simp, hb, .inl (by simpa using h)⟩
        · exact .inr ⟨e, by simp, hb, .inr h⟩
      · simp only [hb] at h; exact .inl (by simpa using h)
    · exact .inr ⟨e', List.mem_cons_of_mem _ h1, h2, h3⟩

theorem masks_spec : ∀ (r : List Oper) (pre : List Oper) (acc : List Nat), ops.toList = pre ++ r → acc.length = pre.length →
    (∀ (i m : Nat), acc[i]? = some m → ∃ o, ops[i]? = some o ∧ ∀ j, m.testBit j = true → Behind ops o j) →
    (masks acc r).length = ops.size ∧ ∀ (i m : Nat), (masks acc r)[i]? = some m → ∃ o, ops[i]? = some o ∧ ∀ j, m.testBit j = true → Behind ops o j
  | [], pre, acc, h, hl, ha => by
    refine ⟨?_, ha⟩
    have := congrArg List.length h
    simp at this
    simp [masks, hl, this]
  | o :: r, pre, acc, h, hl, ha => by
    refine masks_spec r (pre ++ [o]) (acc ++ [maskOf acc o]) (by rw [h]; simp) (by simp [hl]) ?_
    intro i m hm
    by_cases hi : i < acc.length
    · rw [List.getElem?_append_left hi] at hm; exact ha i m hm
    · rw [List.getElem?_append_right (by omega)] at hm
      have hi' : i = acc.length := by
        have := lt_size hm
        simp at this; omega
      subst hi'
      simp at hm; subst hm
      refine ⟨o, by rw [← Array.getElem?_toList, h, hl]; simp, fun j hj S hS he => ?_⟩
      rcases mask_bits acc j _ _ hj with h0 | ⟨e, h1, h2, h3⟩
      · simp at h0
      · have hse := he e (by simpa using h1) h2
        rcases h3 with h3 | h3
        · exact h3 ▸ hse
        · rw [List.getD_eq_getElem?_getD] at h3
          cases hc : acc[e.on]? with
          | none => rw [hc] at h3; simp at h3
          | some m' =>
            rw [hc] at h3
            obtain ⟨o', ho', hb⟩ := ha _ _ hc
            exact hb j h3 S hS (fun e' he' hb' => hS _ _ hse ho' e' he' hb')

theorem edges_spec : ∀ (l : List Oper) (n : Nat), edgesOk n l = true → ∀ i o, l[i]? = some o → ∀ e ∈ o.after, Region.binds .any e = true → e.on < n + i
  | [], _, _, i, o, h => by simp at h
  | x :: l, n, h, i, o, ho => by
    simp only [edgesOk, Bool.and_eq_true, List.all_eq_true] at h
    cases i with
    | zero =>
      simp at ho; subst ho
      intro e he hb
      have := h.1 e (by simpa using he)
      simp [hb] at this
      exact this
    | succ i =>
      intro e he hb
      have := edges_spec l (n + 1) h.2 i o (by simpa using ho) e he hb
      omega

structure DrawOk (ops : Array Oper) : Prop where
  edges : ∀ j o, ops[j]? = some o → ∀ e ∈ o.after, Region.binds .any e = true → e.on < j
  pairs : ∀ i j a b, i < j → ops[i]? = some a → ops[j]? = some b → Behind ops b i ∨ (touch a.op + touch b.op ≤ 2 ∧ (∀ t ∈ reads ops a, b.dst ≠ some t) ∧ (∀ t ∈ reads ops b, a.dst ≠ some t) ∧ ∀ t, a.dst = some t → b.dst ≠ some t)

theorem zip_get {α : Type} {l : List α} {i : Nat} {x : α} (h : l[i]? = some x) : (x, i) ∈ l.zipIdx := by
  refine List.mem_of_getElem? (i := i) ?_
  simp [h]

theorem dstIs_iff {o : Oper} {t : Tmp} : dstIs o t = true ↔ o.dst = some t := by
  unfold dstIs
  cases o.dst with
  | none => simp
  | some d => simp

theorem draw_ok (h : drawOk ops = true) : DrawOk ops := by
  simp only [drawOk, Bool.and_eq_true, List.all_eq_true] at h
  obtain ⟨h2, h5⟩ := h
  obtain ⟨ml, ms⟩ := masks_spec (ops := ops) ops.toList [] [] rfl rfl (by simp)
  have toL : ∀ (i : Nat) (o : Oper), ops[i]? = some o → ops.toList[i]? = some o := fun i o ho => by rw [Array.getElem?_toList]; exact ho
  refine ⟨fun j o ho e he hb => ?_, fun i j a b hij ha hb => ?_⟩
  · have := edges_spec _ 0 h2 j o (toL j o ho) e he hb
    omega
  · have := h5 _ (zip_get (toL j b hb)) _ (zip_get (toL i a ha))
    simp only [Bool.or_eq_true] at this
    rcases this with (h | h) | h
    · have hb' : Nat.blt i j = true := by rw [Nat.blt_eq]; exact hij
      simp only [hb'] at h; cases h
    · left
      obtain ⟨m, hm⟩ := ex_get (xs := masks [] ops.toList) (i := j) (by rw [ml]; exact lt_sizeA hb)
      obtain ⟨o', ho', hbm⟩ := ms j m hm
      rw [hb] at ho'; cases ho'
      rw [List.getD_eq_getElem?_getD, hm] at h
      exact hbm i h
    · right
      simp only [apartB, Bool.and_eq_true, Nat.ble_eq, List.all_eq_true, Bool.not_eq_true'] at h
      obtain ⟨⟨⟨h3, h4⟩, h6⟩, h7⟩ := h
      refine ⟨h3, fun t ht hd => ?_, fun t ht hd => ?_, fun t ht hd => ?_⟩
      · have := h4 t ht; rw [dstIs_iff.2 hd] at this; cases this
      · have := h6 t ht; rw [dstIs_iff.2 hd] at this; cases this
      · rw [ht] at h7; simp only at h7; rw [dstIs_iff.2 hd] at h7; simp at h7
end
end Go.Am
