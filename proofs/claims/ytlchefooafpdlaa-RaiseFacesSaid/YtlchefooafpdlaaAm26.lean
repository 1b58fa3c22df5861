/- EVERY RUN OF THE ABSTRACT MACHINE IS ONE OF THE MODEL's. -/
import Derived.Test.YtlchefooafpdlaaAm25
namespace Go.Am
open Go
variable {P : Program} {T : Tab}

/-! ### Loops -/
def wpL (F : Fence) (P : Program) (c : Code) (Q : Exit → Act → World → Prop) (a : Act) (w : World) : Prop :=
  ∀ (b : Frame) (k : List Item) (cs : List Frame), b.roundOf = F.round → F.fn b.fn → F.room (cs.length + 1 + 0) →
    ∃ e a' w', Q e a' w' ∧ ArrivesIn (Machine.fenced P F) P (lone (b.atR a (.code c :: .inLoop c :: k)) cs w) b k cs e a' w'

theorem wpL_step {F : Fence} {c : Code} {Q : Exit → Act → World → Prop} {a : Act} {w : World} (h : c.wpIn F 0 P (Exit.then (wpL F P c Q) Q) a w) : wpL F P c Q a w := by
  intro b k cs hro hb hr
  obtain ⟨e, a₁, w₁, hq, harr⟩ := h b (.inLoop c :: k) cs hro hb hr
  cases e with
  | normal =>
    obtain ⟨e₂, a₂, w₂, hq₂, harr₂⟩ := hq b k cs hro hb hr
    exact ⟨e₂, a₂, w₂, hq₂, .of_steps (StepsIn.trans harr (.one (fenced_calm hb hr rfl) stepR_inLoop)) harr₂⟩
  | exit id => exact ⟨_, a₁, w₁, hq, .pass (x := .inLoop c) rfl (fun _ _ => .inl (by simp)) harr⟩
  | goto l => exact ⟨_, a₁, w₁, hq, .pass (x := .inLoop c) rfl (fun _ _ => .inl (by simp)) harr⟩
  | ret => exact ⟨_, a₁, w₁, hq, .pass (x := .inLoop c) rfl (fun _ _ => .inl (by simp)) harr⟩
  | panic ch => exact ⟨_, a₁, w₁, hq, .pass (x := .inLoop c) rfl (fun _ _ => .inl (by simp)) harr⟩
  | outgrown => exact ⟨_, a₁, w₁, hq, .pass (x := .inLoop c) rfl (fun _ _ => .inl (by simp)) harr⟩

theorem wpL_in {F : Fence} {c : Code} {Q : Exit → Act → World → Prop} {a : Act} {w : World} (h : wpL F P c Q a w) : (Code.loop c).wpIn F 0 P Q a w := by
  intro b k cs hro hb hr
  obtain ⟨e, a', w', hq, harr⟩ := h b k cs hro hb hr
  exact ⟨e, a', w', hq, .of_steps (.one (fenced_calm hb hr rfl) stepR_loop) harr⟩

theorem wpL_mono {F : Fence} {c : Code} {Q Q' : Exit → Act → World → Prop} {a : Act} {w : World} (h : wpL F P c Q a w) (hq : ∀ e a w, Q e a w → Q' e a w) : wpL F P c Q' a w :=
  fun b k cs h1 h2 h3 => let ⟨e, a', w', q, r⟩ := h b k cs h1 h2 h3; ⟨e, a', w', hq _ _ _ q, r⟩

def CP (base : Nat) (w : World) (Z : Nat → Prop) (inj : Inj) (st : AS) (a : Act) (Ds : List Nat) (ex : Ex) (st' : AS) (e : Exit) (a' : Act) (w' : World) : Prop := e = toE ex ∧ PostAt base w Z inj st a Ds st' a' w'

def CodeGood (P : Program) (base : Nat) (c : Code) (st : AS) (ex : Ex) (st' : AS) : Prop :=
  ∀ (ro : Option Nat) (w : World) (Z : Nat → Prop) (inj : Inj) (a : Act) (Ds : List Nat), RelS w Z inj st a Ds → codeOk a.tmps.size c = true → base ≤ st.nx → roundOk ro w →
    c.wpIn (Fw ro) 0 P (CP base w Z inj st a Ds ex st') a w ∧ ∀ d, c = .loop d → wpL (Fw ro) P d (CP base w Z inj st a Ds ex st') a w

section
variable {base : Nat} {st st1 st2 : AS} {ex : Ex}

theorem cg_of {c : Code} (hc : ∀ d, c ≠ .loop d) (h : ∀ (ro : Option Nat) (w : World) (Z : Nat → Prop) (inj : Inj) (a : Act) (Ds : List Nat), RelS w Z inj st a Ds → codeOk a.tmps.size c = true → base ≤ st.nx → roundOk ro w →
    c.wpIn (Fw ro) 0 P (CP base w Z inj st a Ds ex st1) a w) : CodeGood P base c st ex st1 :=
  fun ro w Z inj a Ds h1 h2 h3 h4 => ⟨h ro w Z inj a Ds h1 h2 h3 h4, fun d hd => absurd hd (hc d)⟩

theorem PostAt.round {w : World} {Z : Nat → Prop} {inj : Inj} {a : Act} {Ds : List Nat} {a' : Act} {w' : World} {ro : Option Nat} (h : PostAt base w Z inj st a Ds st1 a' w') (hro : roundOk ro w) : roundOk ro w' := by
  obtain ⟨_, _, _, _, e, _⟩ := h; exact hro.ext e

theorem cg_skip : CodeGood P base .skip st .nor st :=
  cg_of (by simp) fun ro w Z inj a Ds h _ hb _ => wpIn_skip ⟨rfl, PostAt.refl h hb⟩
theorem cg_exit {id : Nat} : CodeGood P base (.exit id) st (.exit id) st :=
  cg_of (by simp) fun ro w Z inj a Ds h _ hb _ => wpIn_exit ⟨rfl, PostAt.refl h hb⟩
theorem cg_ret : CodeGood P base .ret st .ret st :=
  cg_of (by simp) fun ro w Z inj a Ds h _ hb _ => wpIn_ret ⟨rfl, PostAt.refl h hb⟩

theorem cg_seqN {a b : Code} (h1 : CodeGood P base a st .nor st1) (h2 : CodeGood P base b st1 ex st2) : CodeGood P base (.seq a b) st ex st2 := by
  refine cg_of (by simp) fun ro w Z inj act Ds h hok hb hro => wpIn_seq (wpIn_mono (h1 ro w Z inj act Ds h ?_ hb hro).1 ?_)
  · simp only [codeOk, Bool.and_eq_true] at hok; exact hok.1
  · rintro e a' w' ⟨rfl, hp⟩
    refine hp.bind fun Z' inj' Ds' hrel hsize hbase _ hcomp => ?_
    refine wpIn_mono (h2 ro w' Z' inj' a' Ds' hrel ?_ hbase (hp.round hro)).1 ?_
    · simp only [codeOk, Bool.and_eq_true] at hok; rw [hsize]; exact hok.2
    · rintro e a2 w2 ⟨rfl, hp2⟩
      exact ⟨rfl, hcomp _ _ _ hp2⟩

theorem cg_seqX {a b : Code} (h1 : CodeGood P base a st ex st1) (hx : ex ≠ .nor) : CodeGood P base (.seq a b) st ex st1 := by
  refine cg_of (by simp) fun ro w Z inj act Ds h hok hb hro => wpIn_seq (wpIn_mono (h1 ro w Z inj act Ds h ?_ hb hro).1 ?_)
  · simp only [codeOk, Bool.and_eq_true] at hok; exact hok.1
  · rintro e a' w' ⟨rfl, hp⟩
    cases ex with
    | nor => exact absurd rfl hx
    | exit id => exact ⟨rfl, hp⟩
    | ret => exact ⟨rfl, hp⟩

theorem cg_condT {c : Operand} {a b : Code} (hc : st.ev c = some (.d (.bool true))) (h1 : CodeGood P base a st ex st1) : CodeGood P base (.cond c a b) st ex st1 := by
  refine cg_of (by simp) fun ro w Z inj act Ds h hok hb hro => wpIn_cond_true ?_ (h1 ro w Z inj act Ds h ?_ hb hro).1
  · have := ev_rel h hc
    generalize act.eval c = x at this
    cases this with | d this => cases this; rfl
  · simp only [codeOk, Bool.and_eq_true] at hok; exact hok.1
theorem cg_condF {c : Operand} {a b : Code} (hc : st.ev c = some (.d (.bool false))) (h1 : CodeGood P base b st ex st1) : CodeGood P base (.cond c a b) st ex st1 := by
  refine cg_of (by simp) fun ro w Z inj act Ds h hok hb hro => wpIn_cond_false ?_ (h1 ro w Z inj act Ds h ?_ hb hro).1
  · have := ev_rel h hc
    generalize act.eval c = x at this
    cases this with | d this => cases this; rfl
  · simp only [codeOk, Bool.and_eq_true] at hok; exact hok.2

theorem cg_block {id : Nat} {a : Code} (h1 : CodeGood P base a st ex st1) : CodeGood P base (.block id a) st (ex.block id) st1 := by
  refine cg_of (by simp) fun ro w Z inj act Ds h hok hb hro => wpIn_block (wpIn_mono (h1 ro w Z inj act Ds h hok hb hro).1 ?_)
  rintro e a' w' ⟨rfl, hp⟩
  cases ex with
  | nor => exact ⟨rfl, hp⟩
  | ret => exact ⟨rfl, hp⟩
  | exit i =>
    by_cases hi : i = id
    · simp only [toE, Exit.inBlock, hi, if_true, Ex.block]; exact ⟨rfl, hp⟩
    · simp only [toE, Exit.inBlock, hi, if_false, Ex.block]; exact ⟨rfl, hp⟩

theorem cg_loop {a : Code} (h : ∀ (ro : Option Nat) (w : World) (Z : Nat → Prop) (inj : Inj) (act : Act) (Ds : List Nat), RelS w Z inj st act Ds → codeOk act.tmps.size (.loop a) = true → base ≤ st.nx → roundOk ro w →
    wpL (Fw ro) P a (CP base w Z inj st act Ds ex st1) act w) : CodeGood P base (.loop a) st ex st1 :=
  fun ro w Z inj act Ds h1 h2 h3 h4 => ⟨wpL_in (h ro w Z inj act Ds h1 h2 h3 h4), fun d hd => by cases hd; exact h ro w Z inj act Ds h1 h2 h3 h4⟩

theorem cg_loopN {a : Code} (h1 : CodeGood P base a st .nor st1) (h2 : CodeGood P base (.loop a) st1 ex st2) : CodeGood P base (.loop a) st ex st2 := by
  refine cg_loop fun ro w Z inj act Ds h hok hb hro => wpL_step (wpIn_mono (h1 ro w Z inj act Ds h hok hb hro).1 ?_)
  rintro e a' w' ⟨rfl, hp⟩
  refine hp.bind fun Z' inj' Ds' hrel hsize hbase _ hcomp => ?_
  refine wpL_mono ((h2 ro w' Z' inj' a' Ds' hrel (by rw [hsize]; exact hok) hbase (hp.round hro)).2 a rfl) ?_
  rintro e a2 w2 ⟨rfl, hp2⟩
  exact ⟨rfl, hcomp _ _ _ hp2⟩
theorem cg_loopX {a : Code} (h1 : CodeGood P base a st ex st1) (hx : ex ≠ .nor) : CodeGood P base (.loop a) st ex st1 := by
  refine cg_loop fun ro w Z inj act Ds h hok hb hro => wpL_step (wpIn_mono (h1 ro w Z inj act Ds h hok hb hro).1 ?_)
  rintro e a' w' ⟨rfl, hp⟩
  cases ex with
  | nor => exact absurd rfl hx
  | exit id => exact ⟨rfl, hp⟩
  | ret => exact ⟨rfl, hp⟩

theorem cg_wk {ρ : Nat → Nat} {fz ph : List Nat} {c : Code} (hw : Wk base ρ fz ph st st1) (h2 : CodeGood P base c st1 ex st2) : CodeGood P base c st ex st2 := by
  intro ro w Z inj a Ds h hok hb hro
  obtain ⟨hrel, he⟩ := wk_sound h hw
  have hcomp : ∀ e a' w', CP base w (wkZ Z inj st fz) (wkI inj ρ ph) st1 a Ds ex st2 e a' w' → CP base w Z inj st a Ds ex st2 e a' w' := by
    rintro e a' w' ⟨rfl, Z2, i2, D2, k1, k2, k3, k4, k5⟩
    exact ⟨rfl, Z2, i2, D2, k1, he.trans k2 (Nat.le_refl _), k3, k4, k5⟩
  obtain ⟨g1, g2⟩ := h2 ro w _ _ a Ds hrel hok hw.bs hro
  exact ⟨wpIn_mono g1 hcomp, fun d hd => wpL_mono (g2 d hd) hcomp⟩

/-! ### Regions -/
theorem chain_run {ops : Array Oper} {ro : Option Nat} {w0 : World} {Z0 : Nat → Prop} {inj0 : Inj} {st0 : AS} {a0 : Act} {Ds0 : List Nat} {Q : Exit → Act → World → Prop} {l : List Oper} {st st' : AS} (hc : Chain P base ops l st st')
    (hd : ∀ o ∈ ops, dstOk a0.tmps.size o.dst = true) (hQ : ∀ a' w', PostAt base w0 Z0 inj0 st0 a0 Ds0 st' a' w' → Q .normal a' w') : ∀ (pre : List Oper) (a : Act) (w : World), ops.toList = pre ++ l → PostAt base w0 Z0 inj0 st0 a0 Ds0 st a w → roundOk ro w →
    wpOpsIn (Fw ro) 0 P ops Q (List.range' pre.length l.length) a w := by
  have one : ∀ {o : Oper} {l : List Oper} {st st1 st2 : AS}, SeqGood P base ops o st st1 → (∀ (pre : List Oper) (a : Act) (w : World), ops.toList = pre ++ l → PostAt base w0 Z0 inj0 st0 a0 Ds0 st1 a w → roundOk ro w → wpOpsIn (Fw ro) 0 P ops Q (List.range' pre.length l.length) a w) →
      ∀ (pre : List Oper) (a : Act) (w : World), ops.toList = pre ++ o :: l → PostAt base w0 Z0 inj0 st0 a0 Ds0 st a w → roundOk ro w → wpOpsIn (Fw ro) 0 P ops Q (List.range' pre.length (o :: l).length) a w := by
    intro o l st st1 st2 hs ih pre a w he hp hro
    have ho : ops[pre.length]? = some o := by rw [← Array.getElem?_toList, he]; simp
    rw [List.length_cons, List.range'_succ, wpOpsIn_cons]
    refine stepO_in ho ?_
    refine hp.bind fun Z' inj' Ds' hrel hsize hbase _ hcomp => ?_
    refine hs ro Q w Z' inj' a Ds' _ hrel (by rw [hsize]; exact hd o (Array.mem_of_getElem? ho)) hbase hro fun a' w' hp' => ?_
    have := ih (pre ++ [o]) a' w' (by rw [he]; simp) (hcomp _ _ _ hp') (hp'.round hro)
    simpa using this
  induction hc with
  | nil => intro pre a w _ hp _; simpa [wpOpsIn] using hQ _ _ hp
  | cons hs _ ih => exact one (st2 := st) hs (ih hQ)
  | wk hw _ ih =>
    intro pre a w he hp hro
    refine ih hQ pre a w he ?_ hro
    obtain ⟨Z', inj', Ds', h1, h2, h3, h4, h5⟩ := hp
    obtain ⟨hrel, hext⟩ := wk_sound h1 hw
    exact ⟨_, _, Ds', hrel, h2.trans hext (Nat.le_refl _), h3, hw.bs, h5⟩

theorem cg_region {id : Nat} {ops : Array Oper} (hc : Chain P base ops ops.toList st st1) : CodeGood P base (.region id ops false) st .nor st1 := by
  refine cg_of (by simp) fun ro w Z inj a Ds h hok hb hro => wpIn_region ?_
  have hd : ∀ o ∈ ops, dstOk a.tmps.size o.dst = true := by
    intro o ho
    simp only [codeOk, List.all_eq_true] at hok
    exact hok o (by simpa using ho)
  have := chain_run (Q := CP base w Z inj st a Ds .nor st1) hc hd (fun a' w' hp => ⟨rfl, hp⟩) [] a w rfl (PostAt.refl h hb) hro
  rw [List.range_eq_range']
  simpa using this

theorem cg_regionD {id : Nat} {ops : Array Oper} {F : List Fp} (hm : P.follows .mixedOrders = true) (hc : ChainF P ops F ops.toList st st1) (hd : drawOk F ops = true) : CodeGood P base (.region id ops true) st .nor st1 :=
  cg_of (by simp) fun ro w Z inj a Ds h hok hb hro => region_draw hm (draw_ok hd) hc h hok hb hro fun a' w' hp => ⟨rfl, hp⟩

/-! ### yield -/
theorem good_yield {ops : Array Oper} {o : Oper} {c : Call} {g : Operand} {n : Nat} {vs : List V} {s s1 s2 : List (Nat × V)} {ps : List Tmp} {assign body : Code}
    (hg : guardOk ops st o = some true) (ho : o.op = .call c) (hcal : c.callee = .value g) (hev : st.ev g = some (.yld n)) (hvs : evL st.ev c.args.toList = some vs)
    (hblk : st.blk n = some (.loop s ps assign body .ready none)) (hlen : ps.length = vs.length)
    (h1 : CodeGood P st.nx assign { sl := setAll s ps vs, hp := st.hp, nx := st.nx } .nor st1) (hb1 : st1.blk n = some (.loop s1 ps assign body .ready none))
    (h2 : CodeGood P st.nx body (st1.setBlk n (.loop s1 ps assign body .busy none)) ex st2) (hb2 : st2.blk n = some (.loop s2 ps assign body .busy none)) :
    SeqGood P base ops o st ({ sl := st.sl, hp := repl st2.hp n (.loop s2 ps assign body (if ex = .nor then .ready else .done) ex.code), nx := st2.nx : AS }.putD o.dst (.d (.bool (decide (ex = .nor))))) := by
  intro ro Q w Z inj a Ds K h hd hb hro hK
  unfold stepO
  rw [guard_wanted h hg]
  simp only [if_true]
  refine ⟨fun _ _ => trivial, ?_⟩
  -- what the call comes to
  have hr := ev_rel h hev
  obtain ⟨b, r, hi, hw, es, ep, eps, eas, ebo, hok, hsl, _⟩ := relH_loop (ls' := .ready) (pe' := none) (pin := 0) h.heap hblk
  generalize hge : a.eval g = gv at hr
  cases hr with | @yld _ b' o' hlt hi' =>
  rw [hi] at hi'; cases hi'
  have hl := evL_rel h hvs
  have e2 : (c.args.toList.map a.eval).toArray = c.args.map a.eval := by apply Array.ext'; simp
  rw [e2] at hl
  have hsz : (c.args.map a.eval).size = r.params.size := by rw [← hl.1, eps]; simp [hlen]
  have hrun : (execOp a.eval o).run P w = .ok (.round b r.fn ((r.params.zip (c.args.map a.eval)).foldl (fun tmps (t, a) => tmps.setIfInBounds t a) r.tmps) r.assign r.body) w := by
    have := run_yield (P := P) hw hsz
    obtain ⟨dst, op, type, pos, after, guard⟩ := o
    simp only at ho; subst ho
    obtain ⟨cal, args, argTypes⟩ := c
    simp only at hcal; subst hcal
    simp only [execOp, resolve, Sem.run_bind, hge, Deferred.ofValue, Sem.run_pure, Result.andThen_ok, invoke]
    simpa using this
  rw [show (Fw ro).round = ro from rfl, Oper.semAt_eq ro _ o (by rintro c' h'; rw [ho] at h'; cases h'), hrun, Oper.uponIn_round]
  refine ⟨fun h => by simp [Fw] at h, ?_⟩
  refine roundIn_of_wpIn trivial ?_
  have hfold : (r.params.zip (c.args.map a.eval)).foldl (fun tmps (t, a) => tmps.setIfInBounds t a) r.tmps = (ps.zip (c.args.map a.eval).toList).foldl (fun tmps (x : Tmp × Value) => tmps.setIfInBounds x.1 x.2) r.tmps := by
    rw [eps, ← Array.foldl_toList, Array.toList_zip]
  obtain ⟨hset, hsize⟩ := relSlots_setAll ps vs (c.args.map a.eval).toList s r.tmps (by rw [Array.length_toList]; exact hl.1) (fun i d c h1 h2 => hl.2 i d c h1 (by rw [← Array.getElem?_toList]; exact h2)) hok.2.2 hsl
  rw [hfold, eas, ebo]
  generalize (ps.zip (c.args.map a.eval).toList).foldl (fun tmps (x : Tmp × Value) => tmps.setIfInBounds x.1 x.2) r.tmps = tm at hset hsize
  have hrel0 : RelS w Z inj { sl := setAll s ps vs, hp := st.hp, nx := st.nx } { tmps := tm, defers := [] } [] := ⟨hset, h.heap, rfl, by simp, by simp⟩
  have hro1 : roundOk (some b) w := fun l hl => by cases hl; exact ⟨r, hw⟩
  refine wpIn_mono (h1 (some b) w Z inj _ [] hrel0 (by show codeOk tm.size assign = true; rw [hsize]; exact hok.1) (Nat.le_refl _) hro1).1 ?_
  rintro e a1 w1 ⟨rfl, Z1, inj1, Ds1, g1, g2, g3, g4, g5⟩
  have hn1 : n < st.nx := (h.heap.blk n _ hblk).1
  obtain ⟨b1, r1, i1, w1h, es1, ep1, eps1, eas1, ebo1, hok1, hsl1, hh1, he1⟩ := relH_loop (ls' := .busy) (pe' := none) (pin := st.nx) g1.heap hb1
  rw [g2.pinj n hn1, hi] at i1; cases i1
  refine ⟨_, run_beginRound w1h es1, ?_⟩
  have e5 : ({ r1 with state := .busy } : Loop) = { r1 with state := .busy, pending := none } := by cases r1; simp only at ep1; subst ep1; rfl
  rw [e5]
  have hrel1 : RelS (w1.putObj b (.loop { r1 with state := .busy, pending := none })) Z1 inj1 (st1.setBlk n (.loop s1 ps assign body .busy none)) a1 Ds1 :=
    ⟨g1.slots.mono (he1.zkeep g1.heap) he1.zin he1.big (fun _ _ => rfl) (Nat.le_refl _), hh1, g1.defs, g1.nodup, fun D hD => he1.marks g1.heap (g1.marks D hD)⟩
  have hro2 : roundOk (some b) (w1.putObj b (.loop { r1 with state := .busy, pending := none })) := (hro1.ext g2).ext he1
  refine wpIn_mono (h2 (some b) _ Z1 inj1 a1 Ds1 hrel1 (by rw [g3]; show codeOk tm.size body = true; rw [hsize]; exact hok.2.1) g4 hro2).1 ?_
  rintro e a3 w3 ⟨rfl, Z3, inj3, Ds3, k1, k2, k3, k4, k5⟩
  obtain ⟨b3, r3, i3, w3h, es3, ep3, eps3, eas3, ebo3, hok3, hsl3, hh3, he3⟩ := relH_loop (ls' := if ex = .nor then .ready else .done) (pe' := ex.code) (pin := st.nx) k1.heap hb2
  have hi1 : inj1 n = some (b, 0) := (g2.pinj n hn1).trans hi
  rw [k2.pinj n hn1, hi1] at i3; cases i3
  have hfin : K (a.put o.dst (.bool (decide (ex = .nor)))) (w3.putObj b (.loop { r3 with state := if ex = .nor then .ready else .done, pending := ex.code })) := by
    have hext : Ext w Z inj st.hp (w3.putObj b (.loop { r3 with state := if ex = .nor then .ready else .done, pending := ex.code })) Z3 inj3 (repl st2.hp n (.loop s2 ps assign body (if ex = .nor then .ready else .done) ex.code)) st.nx :=
      ((g2.trans he1 (Nat.le_refl _)).trans k2 (Nat.le_refl _)).trans he3 (Nat.le_refl _)
    exact hK _ _ (post_step h hb hext hh3 k4 (.d (.bool _)) hd)
  have hend := run_endRound (P := P) ex.code w3h
  cases ex with
  | nor => exact ⟨_, _, hend, hfin⟩
  | ret => exact ⟨_, _, hend, hfin⟩
  | exit id => exact ⟨_, _, hend, hfin⟩
end
end Go.Am
