/- Am26 Am27 Am28 Am29 Am30 Am31 Lf1 Pl0 Lf2 -/
import Derived.Test.YtlchefooafpdlaaGreatK5
import Derived.ProofKit
import Derived.OpenShut
import Derived.Deep.Slices
namespace Go.Am
open Go
variable {P : Program} {T : Tab}
def wpL (F : Fence) (P : Program) (c : Code) (Q : Exit→Act→World→Prop) (a : Act) (w : World) : Prop:=
  ∀ (b : Frame) (k : List Item) (cs : List Frame),b.roundOf = F.round→F.fn b.fn→F.room (cs.length + 1 + 0)→
    ∃ e a' w',Q e a' w'∧ArrivesIn (Machine.fenced P F) P (lone (b.atR a (.code c::.inLoop c::k)) cs w) b k cs e a' w'
theorem qmz {F : Fence} {c : Code} {Q : Exit→Act→World→Prop} {a : Act} {w : World} (h : c.wpIn F 0 P (Exit.then (wpL F P c Q) Q) a w) : wpL F P c Q a w:=by
  intro b k cs hro hb hr
  obtain ⟨e,a₁,w₁,hq,harr⟩:=h b (.inLoop c::k) cs hro hb hr
  cases e with
  | normal=>
    obtain ⟨e₂,a₂,w₂,hq₂,harr₂⟩:=hq b k cs hro hb hr
    exact ⟨e₂,a₂,w₂,hq₂,.of_steps (StepsIn.trans harr (.one (fenced_calm hb hr rfl) stepR_inLoop)) harr₂⟩
  | exit id=>exact ⟨_,a₁,w₁,hq,.pass (x:=.inLoop c) rfl (fun _ _=>.inl qf) harr⟩
  | goto l=>exact ⟨_,a₁,w₁,hq,.pass (x:=.inLoop c) rfl (fun _ _=>.inl qf) harr⟩
  | ret=>exact ⟨_,a₁,w₁,hq,.pass (x:=.inLoop c) rfl (fun _ _=>.inl qf) harr⟩
  | panic ch=>exact ⟨_,a₁,w₁,hq,.pass (x:=.inLoop c) rfl (fun _ _=>.inl qf) harr⟩
  | outgrown=>exact ⟨_,a₁,w₁,hq,.pass (x:=.inLoop c) rfl (fun _ _=>.inl qf) harr⟩
theorem q10z {F : Fence} {c : Code} {Q : Exit→Act→World→Prop} {a : Act} {w : World} (h : wpL F P c Q a w) : (Code.loop c).wpIn F 0 P Q a w:=by
  intro b k cs hro hb hr
  obtain ⟨e,a',w',hq,harr⟩:=h b k cs hro hb hr
  exact ⟨e,a',w',hq,.of_steps (.one (fenced_calm hb hr rfl) stepR_loop) harr⟩
theorem qmy {F : Fence} {c : Code} {Q Q' : Exit→Act→World→Prop} {a : Act} {w : World} (h : wpL F P c Q a w) (hq : ∀ e a w,Q e a w→Q' e a w) : wpL F P c Q' a w:=
  fun b k cs h1 h2 h3=>let ⟨e,a',w',q,r⟩:=h b k cs h1 h2 h3;⟨e,a',w',hq _ _ _ q,r⟩
def CP (base : Nat) (w : World) (Z : Nat→Prop) (inj : Inj) (st : AS) (a : Act) (Ds : List Nat) (ex : Ex) (st' : AS) (e : Exit) (a' : Act) (w' : World) : Prop:=e = toE ex∧Kv base w Z inj st a Ds st' a' w'
def Kl (P : Program) (base : Nat) (c : Code) (st : AS) (ex : Ex) (st' : AS) : Prop:=
  ∀ (ro : Option Nat) (w : World) (Z : Nat→Prop) (inj : Inj) (a : Act) (Ds : List Nat),RelS w Z inj st a Ds→codeOk a.tmps.size c = true→base≤st.nx→Yt ro w→
    c.wpIn (Fw ro) 0 P (CP base w Z inj st a Ds ex st') a w∧∀ d,c = .loop d→wpL (Fw ro) P d (CP base w Z inj st a Ds ex st') a w
section
variable {base : Nat} {st st1 st2 : AS} {ex : Ex}
theorem Jw {c : Code} (hc : ∀ d,c≠.loop d) (h : ∀ (ro : Option Nat) (w : World) (Z : Nat→Prop) (inj : Inj) (a : Act) (Ds : List Nat),RelS w Z inj st a Ds→codeOk a.tmps.size c = true→base≤st.nx→Yt ro w→
    c.wpIn (Fw ro) 0 P (CP base w Z inj st a Ds ex st1) a w) : Kl P base c st ex st1:=
  fun ro w Z inj a Ds h1 h2 h3 h4=>⟨h ro w Z inj a Ds h1 h2 h3 h4,fun d hd=>absurd hd (hc d)⟩
theorem Kv.round {w : World} {Z : Nat→Prop} {inj : Inj} {a : Act} {Ds : List Nat} {a' : Act} {w' : World} {ro : Option Nat} (h : Kv base w Z inj st a Ds st1 a' w') (hro : Yt ro w) : Yt ro w':=by
  obtain ⟨_,_,_,_,e,_⟩:=h;exact hro.ext e
theorem qom : Kl P base .skip st .nor st:=
  Jw qf fun ro w Z inj a Ds h _ hb _=>wpIn_skip ⟨rfl,Kv.refl h hb⟩
theorem qod {id : Nat} : Kl P base (.exit id) st (.exit id) st:=
  Jw qf fun ro w Z inj a Ds h _ hb _=>wpIn_exit ⟨rfl,Kv.refl h hb⟩
theorem qoj : Kl P base .ret st .ret st:=
  Jw qf fun ro w Z inj a Ds h _ hb _=>wpIn_ret ⟨rfl,Kv.refl h hb⟩
theorem qok {a b : Code} (h1 : Kl P base a st .nor st1) (h2 : Kl P base b st1 ex st2) : Kl P base (.seq a b) st ex st2:=by
  refine Jw qf fun ro w Z inj act Ds h hok hb hro=>wpIn_seq (wpIn_mono (h1 ro w Z inj act Ds h ?_ hb hro).1 ?_)
  · simp only [codeOk,Bool.and_eq_true] at hok;exact hok.1
  · rintro e a' w' ⟨rfl,hp⟩
    refine hp.bind fun Z' inj' Ds' hrel hsize hbase _ hcomp=>?_
    refine wpIn_mono (h2 ro w' Z' inj' a' Ds' hrel ?_ hbase (hp.round hro)).1 ?_
    · simp only [codeOk,Bool.and_eq_true] at hok;rw [hsize];exact hok.2
    · rintro e a2 w2 ⟨rfl,hp2⟩
      exact ⟨rfl,hcomp _ _ _ hp2⟩
theorem qol {a b : Code} (h1 : Kl P base a st ex st1) (hx : ex≠.nor) : Kl P base (.seq a b) st ex st1:=by
  refine Jw qf fun ro w Z inj act Ds h hok hb hro=>wpIn_seq (wpIn_mono (h1 ro w Z inj act Ds h ?_ hb hro).1 ?_)
  · simp only [codeOk,Bool.and_eq_true] at hok;exact hok.1
  · rintro e a' w' ⟨rfl,hp⟩
    cases ex with
    | nor=>exact absurd rfl hx
    | exit id=>exact ⟨rfl,hp⟩
    | ret=>exact ⟨rfl,hp⟩
theorem qoc {c : Operand} {a b : Code} (hc : st.ev c = some (.d (.bool true))) (h1 : Kl P base a st ex st1) : Kl P base (.cond c a b) st ex st1:=by
  refine Jw qf fun ro w Z inj act Ds h hok hb hro=>wpIn_cond_true ?_ (h1 ro w Z inj act Ds h ?_ hb hro).1
  · have:=K6 h hc
    generalize act.eval c = x at this
    cases this with | d this=>cases this;rfl
  · simp only [codeOk,Bool.and_eq_true] at hok;exact hok.1
theorem qob {c : Operand} {a b : Code} (hc : st.ev c = some (.d (.bool false))) (h1 : Kl P base b st ex st1) : Kl P base (.cond c a b) st ex st1:=by
  refine Jw qf fun ro w Z inj act Ds h hok hb hro=>wpIn_cond_false ?_ (h1 ro w Z inj act Ds h ?_ hb hro).1
  · have:=K6 h hc
    generalize act.eval c = x at this
    cases this with | d this=>cases this;rfl
  · simp only [codeOk,Bool.and_eq_true] at hok;exact hok.2
theorem qoa {id : Nat} {a : Code} (h1 : Kl P base a st ex st1) : Kl P base (.block id a) st (ex.block id) st1:=by
  refine Jw qf fun ro w Z inj act Ds h hok hb hro=>wpIn_block (wpIn_mono (h1 ro w Z inj act Ds h hok hb hro).1 ?_)
  rintro e a' w' ⟨rfl,hp⟩
  cases ex with
  | nor=>exact ⟨rfl,hp⟩
  | ret=>exact ⟨rfl,hp⟩
  | exit i=>
    by_cases hi : i = id
    · simp only [toE,Exit.inBlock,hi,if_true,Ex.block];exact ⟨rfl,hp⟩
    · simp only [toE,Exit.inBlock,hi,if_false,Ex.block];exact ⟨rfl,hp⟩
theorem qgr {a : Code} (h : ∀ (ro : Option Nat) (w : World) (Z : Nat→Prop) (inj : Inj) (act : Act) (Ds : List Nat),RelS w Z inj st act Ds→codeOk act.tmps.size (.loop a) = true→base≤st.nx→Yt ro w→
    wpL (Fw ro) P a (CP base w Z inj st act Ds ex st1) act w) : Kl P base (.loop a) st ex st1:=
  fun ro w Z inj act Ds h1 h2 h3 h4=>⟨q10z (h ro w Z inj act Ds h1 h2 h3 h4),fun d hd=>by cases hd;exact h ro w Z inj act Ds h1 h2 h3 h4⟩
theorem qoe {a : Code} (h1 : Kl P base a st .nor st1) (h2 : Kl P base (.loop a) st1 ex st2) : Kl P base (.loop a) st ex st2:=by
  refine qgr fun ro w Z inj act Ds h hok hb hro=>qmz (wpIn_mono (h1 ro w Z inj act Ds h hok hb hro).1 ?_)
  rintro e a' w' ⟨rfl,hp⟩
  refine hp.bind fun Z' inj' Ds' hrel hsize hbase _ hcomp=>?_
  refine qmy ((h2 ro w' Z' inj' a' Ds' hrel (by rw [hsize];exact hok) hbase (hp.round hro)).2 a rfl) ?_
  rintro e a2 w2 ⟨rfl,hp2⟩
  exact ⟨rfl,hcomp _ _ _ hp2⟩
theorem qof {a : Code} (h1 : Kl P base a st ex st1) (hx : ex≠.nor) : Kl P base (.loop a) st ex st1:=by
  refine qgr fun ro w Z inj act Ds h hok hb hro=>qmz (wpIn_mono (h1 ro w Z inj act Ds h hok hb hro).1 ?_)
  rintro e a' w' ⟨rfl,hp⟩
  cases ex with
  | nor=>exact absurd rfl hx
  | exit id=>exact ⟨rfl,hp⟩
  | ret=>exact ⟨rfl,hp⟩
theorem qon {ρ : Nat→Nat} {fz ph : List Nat} {c : Code} (hw : Wk base ρ fz ph st st1) (h2 : Kl P base c st1 ex st2) : Kl P base c st ex st2:=by
  intro ro w Z inj a Ds h hok hb hro
  obtain ⟨hrel,he⟩:=q46 h hw
  have hcomp : ∀ e a' w',CP base w (wkZ Z inj st fz) (wkI inj ρ ph) st1 a Ds ex st2 e a' w'→CP base w Z inj st a Ds ex st2 e a' w':=by
    rintro e a' w' ⟨rfl,Z2,i2,D2,k1,k2,k3,k4,k5⟩
    exact ⟨rfl,Z2,i2,D2,k1,he.trans k2 (Nat.le_refl _),k3,k4,k5⟩
  obtain ⟨g1,g2⟩:=h2 ro w _ _ a Ds hrel hok hw.bs hro
  exact ⟨wpIn_mono g1 hcomp,fun d hd=>qmy (g2 d hd) hcomp⟩
theorem qoo {ops : Array Oper} {ro : Option Nat} {w0 : World} {Z0 : Nat→Prop} {inj0 : Inj} {st0 : AS} {a0 : Act} {Ds0 : List Nat} {Q : Exit→Act→World→Prop} {l : List Oper} {st st' : AS} (hc : Je P base ops l st st')
    (hd : ∀ o∈ops,Jx a0.tmps.size o.dst = true) (hQ : ∀ a' w',Kv base w0 Z0 inj0 st0 a0 Ds0 st' a' w'→Q .normal a' w') : ∀ (pre : List Oper) (a : Act) (w : World),ops.toList = pre ++ l→Kv base w0 Z0 inj0 st0 a0 Ds0 st a w→Yt ro w→
    wpOpsIn (Fw ro) 0 P ops Q (List.range' pre.length l.length) a w:=by
  have one : ∀ {o : Oper} {l : List Oper} {st st1 st2 : AS},Jf P base ops o st st1→(∀ (pre : List Oper) (a : Act) (w : World),ops.toList = pre ++ l→Kv base w0 Z0 inj0 st0 a0 Ds0 st1 a w→Yt ro w→wpOpsIn (Fw ro) 0 P ops Q (List.range' pre.length l.length) a w)→
      ∀ (pre : List Oper) (a : Act) (w : World),ops.toList = pre ++ o::l→Kv base w0 Z0 inj0 st0 a0 Ds0 st a w→Yt ro w→wpOpsIn (Fw ro) 0 P ops Q (List.range' pre.length (o::l).length) a w:=by
    intro o l st st1 st2 hs ih pre a w he hp hro
    have ho : ops[pre.length]? = some o:=by rw [← Array.getElem?_toList,he];simp
    rw [List.length_cons,List.range'_succ,wpOpsIn_cons]
    refine qmc ho ?_
    refine hp.bind fun Z' inj' Ds' hrel hsize hbase _ hcomp=>?_
    refine hs ro Q w Z' inj' a Ds' _ hrel (by rw [hsize];exact hd o (Array.mem_of_getElem? ho)) hbase hro fun a' w' hp'=>?_
    have:=ih (pre ++ [o]) a' w' (by rw [he];simp) (hcomp _ _ _ hp') (hp'.round hro)
    simpa using this
  induction hc with
  | nil=>intro pre a w _ hp _;simpa [wpOpsIn] using hQ _ _ hp
  | cons hs _ ih=>exact one (st2:=st) hs (ih hQ)
  | wk hw _ ih=>
    intro pre a w he hp hro
    refine ih hQ pre a w he ?_ hro
    obtain ⟨Z',inj',Ds',h1,h2,h3,h4,h5⟩:=hp
    obtain ⟨hrel,hext⟩:=q46 h1 hw
    exact ⟨_,_,Ds',hrel,h2.trans hext (Nat.le_refl _),h3,hw.bs,h5⟩
theorem qoh {id : Nat} {ops : Array Oper} (hc : Je P base ops ops.toList st st1) : Kl P base (.region id ops false) st .nor st1:=by
  refine Jw qf fun ro w Z inj a Ds h hok hb hro=>wpIn_region ?_
  have hd : ∀ o∈ops,Jx a.tmps.size o.dst = true:=by
    intro o ho
    simp only [codeOk,List.all_eq_true] at hok
    exact hok o (by simpa using ho)
  have:=qoo (Q:=CP base w Z inj st a Ds .nor st1) hc hd (fun a' w' hp=>⟨rfl,hp⟩) [] a w rfl (Kv.refl h hb) hro
  rw [List.range_eq_range']
  simpa using this
theorem qoi {id : Nat} {ops : Array Oper} {F : List Fp} (hm : P.follows .mixedOrders = true) (hc : q30 P ops F ops.toList st st1) (hd : q78 F ops = true) : Kl P base (.region id ops true) st .nor st1:=
  Jw qf fun ro w Z inj a Ds h hok hb hro=>qu0 hm (qpg hd) hc h hok hb hro fun a' w' hp=>⟨rfl,hp⟩
theorem qqe {ops : Array Oper} {o : Oper} {c : Call} {g : Operand} {n : Nat} {vs : List V} {s s1 s2 : List (Nat × V)} {ps : List Tmp} {assign body : Code}
    (hg : Qk ops st o = some true) (ho : o.op = .call c) (hcal : c.callee = .value g) (hev : st.ev g = some (.yld n)) (hvs : evL st.ev c.args.toList = some vs)
    (hblk : st.blk n = some (.loop s ps assign body .ready none)) (hlen : ps.length = vs.length)
    (h1 : Kl P st.nx assign {sl:=q1i s ps vs,hp:=st.hp,nx:=st.nx} .nor st1) (hb1 : st1.blk n = some (.loop s1 ps assign body .ready none))
    (h2 : Kl P st.nx body (st1.setBlk n (.loop s1 ps assign body .busy none)) ex st2) (hb2 : st2.blk n = some (.loop s2 ps assign body .busy none)) :
    Jf P base ops o st ({sl:=st.sl,hp:=repl st2.hp n (.loop s2 ps assign body (if ex = .nor then .ready else .done) ex.code),nx:=st2.nx : AS}.putD o.dst (.d (.bool (decide (ex = .nor))))):=by
  intro ro Q w Z inj a Ds K h hd hb hro hK
  unfold Uu
  rw [q3c h hg]
  simp only [if_true]
  refine ⟨fun _ _=>trivial,?_⟩
  have hr:=K6 h hev
  obtain ⟨b,r,hi,hw,es,ep,eps,eas,ebo,hok,hsl,_⟩:=qev (ls':=.ready) (pe':=none) (pin:=0) h.heap hblk
  generalize hge : a.eval g = gv at hr
  cases hr with | @yld _ b' o' hlt hi'=>
  rw [hi] at hi';cases hi'
  have hl:=q7d h hvs
  have e2 : (c.args.toList.map a.eval).toArray = c.args.map a.eval:=by apply Array.ext';simp
  rw [e2] at hl
  have hsz : (c.args.map a.eval).size = r.params.size:=by rw [← hl.1,eps];simp [hlen]
  have hrun : (execOp a.eval o).run P w = .ok (.round b r.fn ((r.params.zip (c.args.map a.eval)).foldl (fun tmps (t,a)=>tmps.setIfInBounds t a) r.tmps) r.assign r.body) w:=by
    have:=run_yield (P:=P) hw hsz
    obtain ⟨dst,op,type,pos,after,guard⟩:=o
    simp only at ho;subst ho
    obtain ⟨cal,args,argTypes⟩:=c
    simp only at hcal;subst hcal
    simp only [execOp,resolve,Sem.run_bind,hge,Deferred.ofValue,Sem.run_pure,Result.andThen_ok,invoke]
    simpa using this
  rw [show (Fw ro).round = ro from rfl,Oper.semAt_eq ro _ o (by rintro c' h';rw [ho] at h';cases h'),hrun,Oper.uponIn_round]
  refine ⟨fun h=>by simp [Fw] at h,?_⟩
  refine roundIn_of_wpIn trivial ?_
  have hfold : (r.params.zip (c.args.map a.eval)).foldl (fun tmps (t,a)=>tmps.setIfInBounds t a) r.tmps = (ps.zip (c.args.map a.eval).toList).foldl (fun tmps (x : Tmp × Value)=>tmps.setIfInBounds x.1 x.2) r.tmps:=by
    rw [eps,← Array.foldl_toList,Array.toList_zip]
  obtain ⟨hset,hsize⟩:=ql4 ps vs (c.args.map a.eval).toList s r.tmps (by rw [Array.length_toList];exact hl.1) (fun i d c h1 h2=>hl.2 i d c h1 (by rw [← Array.getElem?_toList];exact h2)) hok.2.2 hsl
  rw [hfold,eas,ebo]
  generalize (ps.zip (c.args.map a.eval).toList).foldl (fun tmps (x : Tmp × Value)=>tmps.setIfInBounds x.1 x.2) r.tmps = tm at hset hsize
  have hrel0 : RelS w Z inj {sl:=q1i s ps vs,hp:=st.hp,nx:=st.nx} {tmps:=tm,defers:=[]} []:=⟨hset,h.heap,rfl,qf,qf⟩
  have hro1 : Yt (some b) w:=fun l hl=>by cases hl;exact ⟨r,hw⟩
  refine wpIn_mono (h1 (some b) w Z inj _ [] hrel0 (by show codeOk tm.size assign = true;rw [hsize];exact hok.1) (Nat.le_refl _) hro1).1 ?_
  rintro e a1 w1 ⟨rfl,Z1,inj1,Ds1,g1,g2,g3,g4,g5⟩
  have hn1 : n < st.nx:=(h.heap.blk n _ hblk).1
  obtain ⟨b1,r1,i1,w1h,es1,ep1,eps1,eas1,ebo1,hok1,hsl1,hh1,he1⟩:=qev (ls':=.busy) (pe':=none) (pin:=st.nx) g1.heap hb1
  rw [g2.pinj n hn1,hi] at i1;cases i1
  refine ⟨_,run_beginRound w1h es1,?_⟩
  have e5 : ({r1 with state:=.busy} : Loop) = {r1 with state:=.busy,pending:=none}:=by cases r1;simp only at ep1;subst ep1;rfl
  rw [e5]
  have hrel1 : RelS (w1.putObj b (.loop {r1 with state:=.busy,pending:=none})) Z1 inj1 (st1.setBlk n (.loop s1 ps assign body .busy none)) a1 Ds1:=
    ⟨g1.slots.mono (he1.zkeep g1.heap) he1.zin he1.big (fun _ _=>rfl) (Nat.le_refl _),hh1,g1.defs,g1.nodup,fun D hD=>he1.marks g1.heap (g1.marks D hD)⟩
  have hro2 : Yt (some b) (w1.putObj b (.loop {r1 with state:=.busy,pending:=none})):=(hro1.ext g2).ext he1
  refine wpIn_mono (h2 (some b) _ Z1 inj1 a1 Ds1 hrel1 (by rw [g3];show codeOk tm.size body = true;rw [hsize];exact hok.2.1) g4 hro2).1 ?_
  rintro e a3 w3 ⟨rfl,Z3,inj3,Ds3,k1,k2,k3,k4,k5⟩
  obtain ⟨b3,r3,i3,w3h,es3,ep3,eps3,eas3,ebo3,hok3,hsl3,hh3,he3⟩:=qev (ls':=if ex = .nor then .ready else .done) (pe':=ex.code) (pin:=st.nx) k1.heap hb2
  have hi1 : inj1 n = some (b,0):=(g2.pinj n hn1).trans hi
  rw [k2.pinj n hn1,hi1] at i3;cases i3
  have hfin : K (a.put o.dst (.bool (decide (ex = .nor)))) (w3.putObj b (.loop {r3 with state:=if ex = .nor then .ready else .done,pending:=ex.code})):=by
    have hext : Ext w Z inj st.hp (w3.putObj b (.loop {r3 with state:=if ex = .nor then .ready else .done,pending:=ex.code})) Z3 inj3 (repl st2.hp n (.loop s2 ps assign body (if ex = .nor then .ready else .done) ex.code)) st.nx:=
      ((g2.trans he1 (Nat.le_refl _)).trans k2 (Nat.le_refl _)).trans he3 (Nat.le_refl _)
    exact hK _ _ (q3i h hb hext hh3 k4 (.d (.bool _)) hd)
  have hend:=run_endRound (P:=P) ex.code w3h
  cases ex with
  | nor=>exact ⟨_,_,hend,hfin⟩
  | ret=>exact ⟨_,_,hend,hfin⟩
  | exit id=>exact ⟨_,_,hend,hfin⟩
end
end Go.Am
namespace Go.Am
open Go
variable {P : Program} {T : Tab}
section
variable {base : Nat} {st st1 st2 : AS} {ex : Ex}
theorem qnz {ro : Option Nat} {f : FuncId} {xs : Array Value} {w : World} {R : Ending→World→Prop} (h : CallsIn (Fw none) 0 P f xs w R) : CallsIn (Fw ro) 0 P f xs w R:=by
  cases ro <;> exact h
theorem qrn {w : World} {Ds : List Nat} (h : Ds.Nodup) (hm : ∀ D∈Ds,w.heap[D]? = some (.deferred (some []))) : (w.heap.size::Ds).Nodup:=
  List.nodup_cons.2 ⟨fun hc=>by have:=J9 (hm _ hc);omega,h⟩
theorem qog {g : Operand} {ps : Array Tmp} {assign body : Code} {f : FuncId} {caps : List V} {v : V} {hp : List (Nat × Blk)} {nx : Nat} {pe : Option Code} {s : List (Nat × V)} {ls : LoopState}
    (hg : st.ev g = some (.fn f caps)∨∃ ds,st.ev g = some (.d (.fn f ds))∧caps = ds.map .d)
    (hgood : Jd P f (.yld st.nx::caps) ((st.nx,.loop st.sl ps.toList assign body .ready none)::st.hp) (st.nx + 1) v hp nx)
    (hfind : find hp st.nx = some (.loop s ps.toList assign body ls pe)) (hls : ls≠.busy) (hpe : pe = ex.code) : Kl P base (.rangeFunc g ps assign body) st ex {sl:=st.sl,hp:=repl hp st.nx .dead,nx:=nx}:=by
  refine Jw qf fun ro w Z inj a Ds h hok hb hro=>wpIn_rangeFunc fun fn _=>?_
  simp only [codeOk,Bool.and_eq_true,List.all_eq_true,Nat.blt_eq] at hok
  have hval : ∃ cs : Array Value,a.eval g = .func (.func f) #[] cs∧LRel w Z inj st.nx caps cs:=by
    rcases hg with hg | ⟨ds,hg,rfl⟩
    · have hr:=K6 h hg
      generalize a.eval g = gv at hr ⊢
      cases hr with | @fn _ _ cs h1 h2=>
      exact ⟨cs,rfl,h1,h2⟩
    · have hr:=K6 h hg
      generalize a.eval g = gv at hr ⊢
      cases hr with | d hr=>
      cases hr with | @fn _ _ cs h1 h2=>
      refine ⟨cs,rfl,by simpa using h1,fun i d c hd hc=>?_⟩
      simp only [List.getElem?_map,Option.map_eq_some_iff] at hd
      obtain ⟨d',hd,rfl⟩:=hd
      exact .d (h2 i d' c hd hc)
  obtain ⟨cs,hge,hcs⟩:=hval
  have rest : ∀ (w1 : World) (l : Nat) (mark : List Deferred) (r : Loop) (Dn : List Nat),(Instr.enterLoop fn a.tmps ps assign body (Fw ro).round).run P w = .ok (l,mark) w1→
      w1.heap[l]? = some (.loop r)→r.state = .ready→r.pending = none→
      RelH w1 Z (upd inj st.nx (some (l,0))) ((st.nx,.loop st.sl ps.toList assign body .ready none)::st.hp) (st.nx + 1)→
      Ext w Z inj st.hp w1 Z (upd inj st.nx (some (l,0))) ((st.nx,.loop st.sl ps.toList assign body .ready none)::st.hp) st.nx→
      mark = Dn.map (fun D=>{target:=.collected D,args:=#[]})→(Dn ++ Ds).Nodup→(∀ D∈Dn,w1.heap[D]? = some (.deferred (some []))∧w.heap.size≤D)→
      ∃ (l : Nat) (mark : List Deferred) (w₁ : World) (d : Deferred) (w₁' : World) (f : FuncId) (args : Array Value) (w₂ : World),
      (Instr.enterLoop fn a.tmps ps assign body (Fw ro).round).run P w = .ok (l,mark) w₁∧
      (resolve a.eval (rangeCall g l) 0).run P w₁ = .ok d w₁'∧
      (∀ f',Target.leads P w₁' d.target d.args = some f'→(Fw ro).fn f')∧
      (invoke d.target d.args).run P w₁' = .ok (.enter f args) w₂∧
      ((Fw ro).depth.isSome = true→1≤0)∧
      CallsIn (Fw ro) (0 - 1) P f args w₂ (rangePost (Fw ro) 0 P l (CP base w Z inj st a Ds ex {sl:=st.sl,hp:=repl hp st.nx .dead,nx:=nx}) {a with defers:=mark ++ a.defers}):=by
    intro w1 l mark r Dn henter hl1 hst hpen hH1 hE1 hmark hnd hDn
    refine ⟨l,mark,w1,{target:=.fn (.func f) cs,args:=#[.func (.yield l) #[] #[]]},w1,f,#[.func (.yield l) #[] #[]] ++ cs,w1,henter,?_,fun _ _=>trivial,?_,fun h=>by simp [Fw] at h,?_⟩
    · simp only [resolve,hge];simp [Deferred.ofValue,Act.eval]
    · simp [invoke,hgood.1]
    · refine qnz (CallsIn.mono (hgood.2 w1 Z _ _ hH1 ?_) ?_)
      · refine ⟨by simp [hcs.1];omega,fun i d c hd hc=>?_⟩
        cases i with
        | zero=>
          rw [Array.getElem?_append_left qf] at hc
          simp at hd hc;subst hd hc
          exact .yld q7 (Kr _ _ _)
        | succ i=>
          rw [Array.getElem?_append_right qf] at hc
          simp at hd hc
          exact (hcs.2 i d c hd hc).mono (fun b hz=>hE1.keep b (h.heap.zs b hz) (h.heap.z_im hz)) (fun _ h=>h) hE1.big (fun m hm=>hE1.pinj m hm) q7
      · rintro e w3 ⟨x,Z',inj',rfl,hh3,he3,hv3,hn3⟩
        obtain ⟨b3,r3,i3,w3h,es3,ep3,hdead⟩:=qu3 (pin:=st.nx) hh3 hfind
        obtain ⟨hh4,he4⟩:=hdead {r3 with state:=.exhausted} rfl
        have hlb : b3 = l:=by
          have:=he3.pinj st.nx q7
          rw [Kr,i3] at this
          cases this;rfl
        subst hlb
        refine ⟨r3.pending,_,run_endLoop w3h (by rw [es3];exact hls),?_⟩
        have hE : Ext w Z inj st.hp (w3.putObj b3 (.loop {r3 with state:=.exhausted})) Z' inj' (repl hp st.nx .dead) st.nx:=(hE1.trans he3 q7).trans he4 (Nat.le_refl _)
        have hfin : Kv base w Z inj st a Ds {sl:=st.sl,hp:=repl hp st.nx .dead,nx:=nx} {a with defers:=mark ++ a.defers} (w3.putObj b3 (.loop {r3 with state:=.exhausted})):=by
          refine ⟨Z',inj',Dn ++ Ds,⟨?_,hh4,?_,hnd,?_⟩,hE.pin_le hb,rfl,by show base≤nx;omega,?_⟩
          · exact h.slots.mono (hE.zkeep h.heap) hE.zin hE.big hE.pinj (by show st.nx≤nx;omega)
          · simp [hmark,h.defs]
          · intro D hD
            rcases List.mem_append.1 hD with hD | hD
            · obtain ⟨h5,h6⟩:=hDn D hD
              have h7:=he3.marks hH1 h5
              rw [World.putObj_heap_other (fun e=>by rw [e] at h7;rw [w3h] at h7;cases h7)]
              exact h7
            · exact hE.marks h.heap (h.marks D hD)
          · intro D hD
            rcases List.mem_append.1 hD with hD | hD
            · exact .inr (hDn D hD).2
            · exact .inl hD
        rw [ep3,hpe] at hfin
        rw [ep3,hpe]
        cases ex with
        | nor=>exact ⟨rfl,hfin⟩
        | exit id=>exact wpIn_exit ⟨rfl,hfin⟩
        | ret=>exact wpIn_ret ⟨rfl,hfin⟩
  have relb : ∀ (w1 : World) (l : Nat) (r : Loop),r.state = .ready→r.pending = none→r.tmps = a.tmps→r.params = ps→r.assign = assign→r.body = body→Yh w1 Z (upd inj st.nx (some (l,0))) (st.nx + 1) st.sl a.tmps→
      w1.heap[l]? = some (.loop r)→RelB w1 Z (upd inj st.nx (some (l,0))) (st.nx + 1) st.nx (.loop st.sl ps.toList assign body .ready none):=by
    rintro w1 l r e1 e2 e3 e4 e5 e6 hs hl
    obtain ⟨f1,f2,f3,f4,f5,f6,f7,f8⟩:=r
    simp only at e1 e2 e3 e4 e5 e6
    subst e1 e2 e3 e4 e5 e6
    exact ⟨l,_,_,_,Kr _ _ _,hl,⟨hok.1.2,hok.2,fun p hp=>hok.1.1 p hp⟩,hs⟩
  cases ro with
  | none=>
    have hW0 : RelH (w.alloc (.deferred (some []))) Z inj st.hp st.nx:=h.heap.grow fun b hb=>Zl w _ hb
    have hsl : ∀ o,Yh ((w.alloc (.deferred (some []))).alloc o) Z (upd inj st.nx (some (w.heap.size + 1,0))) (st.nx + 1) st.sl a.tmps:=fun o=>
      h.slots.mono (fun b hz=>by have:=h.heap.zs b hz;rw [Zl _ _ (by simp;omega),Zl _ _ this]) (fun _ h=>h)
        (fun b c e f hb=>by obtain ⟨c1,e1,f1,h1,s1⟩:=q2e w (.deferred (some [])) b c e f hb;obtain ⟨c2,e2,f2,h2,s2⟩:=q2e _ o b c1 e1 f1 h1;exact ⟨c2,e2,f2,h2,s2.trans s1⟩) (fun _ hm=>Kz _ _ hm) q7
    have hnew:=Jv (w.alloc (.deferred (some []))) (.loop {state:=.ready,pending:=none,fn,tmps:=a.tmps,params:=ps,assign,body,defers:=w.heap.size})
    rw [World.size_alloc] at hnew
    have hB:=relb _ (w.heap.size + 1) {state:=.ready,pending:=none,fn,tmps:=a.tmps,params:=ps,assign,body,defers:=w.heap.size} rfl rfl rfl rfl rfl rfl (hsl _) hnew
    have hn:=hW0.new (.loop {state:=.ready,pending:=none,fn,tmps:=a.tmps,params:=ps,assign,body,defers:=w.heap.size}) (.loop st.sl ps.toList assign body .ready none) 0 (by rw [World.size_alloc];exact hB)
    have he:=Ext.new hW0 (.loop {state:=.ready,pending:=none,fn,tmps:=a.tmps,params:=ps,assign,body,defers:=w.heap.size}) (.loop st.sl ps.toList assign body .ready none) 0
    rw [World.size_alloc] at hn he
    refine rest _ (w.heap.size + 1) _ _ [w.heap.size] (run_enterLoop_outer fn a.tmps ps assign body) hnew rfl rfl hn ((Ext.alloc _).trans he (Nat.le_refl _)) rfl (qrn h.nodup h.marks) ?_
    intro D hD
    simp at hD;subst hD
    exact ⟨by rw [Zl _ _ qf];exact Jv _ _,Nat.le_refl _⟩
  | some l0=>
    obtain ⟨r0,hr0⟩:=hro l0 rfl
    have hsl : ∀ o,Yh (w.alloc o) Z (upd inj st.nx (some (w.heap.size,0))) (st.nx + 1) st.sl a.tmps:=fun o=>
      h.slots.mono (fun b hz=>Zl _ _ (h.heap.zs b hz)) (fun _ h=>h) (q2e w o) (fun _ hm=>Kz _ _ hm) q7
    have hnew:=Jv w (.loop {state:=.ready,pending:=none,fn,tmps:=a.tmps,params:=ps,assign,body,defers:=r0.defers})
    have hB:=relb _ w.heap.size {state:=.ready,pending:=none,fn,tmps:=a.tmps,params:=ps,assign,body,defers:=r0.defers} rfl rfl rfl rfl rfl rfl (hsl _) hnew
    exact rest _ w.heap.size _ _ [] (run_enterLoop_inner hr0 fn a.tmps ps assign body) hnew rfl rfl (h.heap.new _ _ 0 hB) (Ext.new h.heap _ _ 0) rfl (by simpa using h.nodup) qf
theorem qo1 {f : FuncId} {fn : Func} {c : Code} {vs : List V} {hp : List (Nat × Blk)} {nx : Nat} {v : V} (hT : Ym P T) (hf : P.funcs[f]? = some fn) (hb : fn.body = some c) (hname : (fn.name == "runtime.NumGoroutine") = false) (hok : codeOk fn.ntmps c = true) (hvs : vs.length ≤ fn.ntmps)
    (hc : Kl P nx c {sl:=Ks 0 vs,hp:=hp,nx:=nx} ex st) (hx : ex = .nor∨ex = .ret) (hres : resV T st fn.results.toList = some v) : Jd P f vs hp nx v st.hp st.nx:=by
  refine ⟨fun args w=>?_,fun w Z inj xs h hl=>?_⟩
  · unfold callFunc
    have hn' : ¬ fn.name = "runtime.NumGoroutine" := by simpa using hname
    simp [hf,hn',hb]
  · refine callsIn_of_wp_marks hf hb trivial ?_
    have hsz : (xs ++ Array.replicate (fn.ntmps - xs.size) undef).size = fn.ntmps:=by
      have:=hl.1
      simp;omega
    have h0 : RelS w Z inj {sl:=Ks 0 vs,hp:=hp,nx:=nx} {tmps:=xs ++ Array.replicate (fn.ntmps - xs.size) undef,defers:=[]} []:=⟨qu6 _ hl,h,rfl,qf,qf⟩
    refine wpIn_mono (hc none w Z inj _ [] h0 (by show codeOk (xs ++ Array.replicate (fn.ntmps - xs.size) undef).size c = true;rw [hsz];exact hok) (Nat.le_refl _) (fun l hl=>by cases hl)).1 ?_
    rintro e a' w' ⟨rfl,Z',inj',Ds',g1,g2,g3,g4,g5⟩
    have hL:=qjb (P:=P) (fn:=fn) (pin:=nx) (w0:=w) (Z0:=Z) (inj0:=inj) (hp0:=hp) hT hres
      (R:=fun e w'=>∃ x Z' inj',e = .returned x∧RelH w' Z' inj' st.hp st.nx∧Ext w Z inj hp w' Z' inj' st.hp nx∧RelV w' Z' inj' st.nx v x∧nx≤st.nx)
      (fun x w' Z' inj' k1 k2 k3=>⟨x,Z',inj',rfl,k1,k2,k3,g4⟩) Ds' w' Z' inj' a' g1.slots g1.heap g2 g1.nodup (fun D hD=>⟨g1.marks D hD,(g5 D hD).resolve_left qf⟩)
    rcases hx with rfl | rfl
    · show LeavesInM (Fw none) 0 P fn a'.tmps _ a'.defers .returning w'
      rw [g1.defs];exact hL
    · show LeavesInM (Fw none) 0 P fn a'.tmps _ a'.defers .returning w'
      rw [g1.defs];exact hL
end
theorem qo0 {f : FuncId} {vs : List V} {hp hp' hp1 : List (Nat × Blk)} {nx nx' nx1 : Nat} {v v1 : V} {ρ : Nat→Nat} {fz ph : List Nat} (h : Jd P f vs hp nx v hp' nx') (hw : Wk nx ρ fz ph {sl:=[(0,v)],hp:=hp',nx:=nx'} {sl:=[(0,v1)],hp:=hp1,nx:=nx1}) : Jd P f vs hp nx v1 hp1 nx1:=by
  refine ⟨h.1,fun w Z inj xs hh hl=>(h.2 w Z inj xs hh hl).mono ?_⟩
  rintro e w' ⟨x,Z',inj',rfl,hh',he,hv,hn⟩
  have hrel : RelS w' Z' inj' {sl:=[(0,v)],hp:=hp',nx:=nx'} {tmps:=#[x],defers:=[]} []:=by
    refine ⟨fun t u ht=>?_,hh',rfl,List.nodup_nil,qf⟩
    rw [Ki] at ht
    split at ht
    · rename_i e;subst e;cases ht;exact ⟨x,rfl,hv⟩
    · simp [find] at ht
  obtain ⟨hr3,he3⟩:=q46 hrel hw
  obtain ⟨y,hy,hr⟩:=hr3.slots 0 v1 (by simp [find])
  simp at hy;subst hy
  exact ⟨x,_,_,rfl,hr3.heap,he.trans he3 (Nat.le_refl _),hr,hw.bs⟩
theorem qo2 (hT : Ym P T) (hm : P.follows .mixedOrders = true) {f : FuncId} {vs : List V} {hp : List (Nat × Blk)} {nx : Nat} {v : V} {hp' : List (Nat × Blk)} {nx' : Nat} (h : K0 P T f vs hp nx v hp' nx') : Jd P f vs hp nx v hp' nx':=by
  refine K0.rec (motive_1:=fun base c st ex st' _=>Kl P base c st ex st') (motive_2:=fun base ops dr l st st' _=>Ux P base ops dr l st st') (motive_3:=fun f vs hp nx v hp' nx' _=>Jd P f vs hp nx v hp' nx')
    ?_ ?_ ?_ ?_ ?_ ?_ ?_ ?_ ?_ ?_ ?_ ?_ ?_ ?_ ?_ ?_ ?_ ?_ ?_ ?_ ?_ ?_ ?_ ?_ ?_ h
  · exact qom
  · exact fun _ _ h1 h2=>qok h1 h2
  · exact fun _ hx h1=>qol h1 hx
  · exact fun hc _ h1=>qoc hc h1
  · exact fun hc _ h1=>qob hc h1
  · exact fun _ h1=>qoa h1
  · exact qod
  · exact qoj
  · exact fun _ _ h1 h2=>qoe h1 h2
  · exact fun _ hx h1=>qof h1 hx
  · exact fun _ h1=>qoh h1
  · exact fun _ hd h1=>qoi hm h1 hd
  · exact fun hw _ h1=>qon hw h1
  · exact fun hg _ hf hls hpe h1=>qog hg h1 hf hls hpe
  · exact fun {_ _ dr _}=>by cases dr <;> exact .nil
  · exact fun hg _ h1=>qo8 hg h1
  · exact fun hg ho hf _ h1=>qo6 hT hg ho hf h1
  · exact fun hg ho _ hn hh hf hF _ h1=>qo7 hT hg ho hn hh hf hF h1
  · exact fun hg ho hc hfz _ hto hle hs hF _ h1 h2=>qo5 hg ho hc hfz h1 hto hle hs hF h2
  · exact fun hg ho hc _ _ h1 h2=>Je.cons (qzv hg ho hc h1) h2
  · exact fun hg ho hc hlen hw1 _ hw3 hb _ h1 h2=>Je.cons (qqb hg ho hc hlen hw1 h1 hw3 hb) h2
  · exact fun hg ho hcal hev hvs hblk hlen _ hb1 _ hb2 _ h1 h2 h3=>Je.cons (qqe hg ho hcal hev hvs hblk hlen h1 hb1 h2 hb2) h3
  · exact fun hw _ h1=>Je.wk hw h1
  · exact fun hf hb hname hok hvs _ hx hres h1=>qo1 hT hf hb hname hok hvs h1 hx hres
  · exact fun _ hw h1=>qo0 h1 hw
end Go.Am
namespace Go.Am
open Go
open Go.ChangeShapes Go.WideShapes Go.ChangeAt Go.RowKit Go.Deep
inductive CT where
  | int (k : IntKind)
  | bool
  | str
  | sl (l : List CT)
def q9r (P : Program) (f : TypeId→Option (List CT)) : Nat→List Field→Option (List CT)
  | _,[]=>some []
  | o,x::r=>match f x.type with
    | some a=>if x.offset = o∧P.cellsOf x.type = a.length then
        match q9r P f (o + a.length) r with
        | some b=>some (a ++ b)
        | none=>none
      else none
    | none=>none
def tyL (P : Program) : Nat→TypeId→Option (List CT)
  | 0,_=>none
  | f + 1,t=>match P.underlying t with
    | some .bool=>some [.bool]
    | some (.int k)=>some [.int k]
    | some .string=>some [.str]
    | some (.slice e)=>match tyL P f e with
      | some l=>if l.length = P.cellsOf e∧l.length≠0 then some [.sl l] else none
      | none=>none
    | some (.struct fs)=>match q9r P (tyL P f) 0 fs.toList with
      | some l=>if l.length = P.cellsOf t then some l else none
      | none=>none
    | _=>none
inductive Ty : CT→DV→Prop
  | int {k : IntKind} {n : Int} : (Lit.int k n).wf = true→Ty (.int k) (.int k n)
  | bool (b : Bool) : Ty .bool (.bool b)
  | str {s : ByteArray} : s.size≤maxLen→Ty .str (.str s)
  | nil (l : List CT) : Ty (.sl l) .nilsl
  | sl {l : List CT} {xs : List (List DV)} : xs.length≤maxLen→(∀ (i : Nat) (x : List DV),xs[i]? = some x→x.length = l.length)→
      (∀ (i : Nat) (x : List DV) (j : Nat) (c : CT) (d : DV),xs[i]? = some x→l[j]? = some c→x[j]? = some d→Ty c d)→Ty (.sl l) (.sl l.length xs)
section
variable {H : Type} {enc : TypeId × Value→H} {P : Program} {w : World} {base : Nat} {held : Bool}
def ZC (w : World) (b : Nat) : Prop:=∃ c e f,w.heap[b]? = some (.cells c e f)
theorem Ty.cell {c : CT} {d : DV} (h : Ty c d) : Ze d = true:=by cases h <;> rfl
def Reads (w : World) (l : List CT) (cs : List Value) : Prop:=
  cs.length = l.length∧∃ ds : List DV,ds.length = l.length∧∀ (j : Nat) (c : CT) (v : Value),l[j]? = some c→cs[j]? = some v→∃ d,ds[j]? = some d∧Ty c d∧RelD w (ZC w) d v
theorem q5b {c : CT} {v : Value} {d : DV} (ht : Ty c d) (hr : RelD w (ZC w) d v) : Reads w [c] [v]:=by
  refine ⟨rfl,[d],rfl,fun j c' v' h1 h2=>?_⟩
  cases j with
  | zero=>simp at h1 h2;subst h1 h2;exact ⟨d,rfl,ht,hr⟩
  | succ j=>simp at h1
theorem qtp {l l' : List CT} {cs cs' : List Value} (h : Reads w l cs) (h' : Reads w l' cs') : Reads w (l ++ l') (cs ++ cs'):=by
  obtain ⟨a1,ds,a2,a3⟩:=h
  obtain ⟨b1,ds',b2,b3⟩:=h'
  refine ⟨by simp [a1,b1],ds ++ ds',by simp [a2,b2],fun j c v hc hv=>?_⟩
  by_cases hj : j < l.length
  · rw [List.getElem?_append_left hj] at hc
    rw [List.getElem?_append_left q7] at hv
    obtain ⟨d,e1,e2⟩:=a3 j c v hc hv
    exact ⟨d,by rw [List.getElem?_append_left q7];exact e1,e2⟩
  · rw [List.getElem?_append_right q7] at hc
    rw [List.getElem?_append_right q7,a1] at hv
    obtain ⟨d,e1,e2⟩:=b3 _ c v hc hv
    exact ⟨d,by rw [List.getElem?_append_right q7,a2];exact e1,e2⟩
theorem qmr {f : TypeId→Option (List CT)} {g : Field→List Value→Prop} (hg : ∀ (x : Field) (l : List CT) (cs : List Value),f x.type = some l→g x cs→Reads w l cs) :
    ∀ (fs : List Field) (o : Nat) (l : List CT) (cs : List Value),q9r P f o fs = some l→o + l.length = cs.length→(∀ x∈fs,g x ((cs.drop x.offset).take (P.cellsOf x.type)))→Reads w l (cs.drop o)
  | [],o,l,cs,h,hl,_=>by
    simp [q9r] at h;subst h
    simp at hl
    rw [hl]
    exact ⟨qf,[],rfl,qf⟩
  | x::r,o,l,cs,h,hl,hx=>by
    simp only [q9r] at h
    split at h <;> try simp at h
    rename_i a ha
    obtain ⟨⟨h1,h2⟩,h⟩:=h
    split at h <;> simp at h
    rename_i b hb
    subst h
    have e1:=hg x a _ ha (hx x qf)
    rw [h1,h2] at e1
    have e2:=qmr hg r (o + a.length) b cs hb (by simp at hl;omega) (fun y hy=>hx y (by simp [hy]))
    have:=qtp e1 e2
    rw [← List.drop_drop] at this
    rwa [List.take_append_drop] at this
theorem qcf : ∀ (f : Nat) (t : TypeId) (l : List CT) (fuel : Nat) (cs : List Value) (x : DataW H × List MemPlace),tyL P f t = some l→DataW.trod enc P w base (fun _=>true) held fuel t cs = some x→Reads w l cs
  | 0,t,l,fuel,cs,x,hl,h=>by simp [tyL] at hl
  | f + 1,t,l,fuel,cs,x,hl,h=>by
    simp only [tyL] at hl
    split at hl <;> try simp at hl
    · rename_i ht
      subst hl
      cases fuel with
      | zero=>simp [DataW.trod] at h
      | succ n=>
        unfold DataW.trod at h
        rw [ht] at h
        split at h <;> simp_all
        exact q5b (.bool _) (.bool _)
    · rename_i k ht
      subst hl
      obtain ⟨n,rfl,_,hw⟩:=DataW.trod_int ht h
      exact q5b (.int hw) (.int _ _)
    · rename_i ht
      subst hl
      cases fuel with
      | zero=>simp [DataW.trod] at h
      | succ n=>
        unfold DataW.trod at h
        rw [ht] at h
        split at h <;> simp_all
        exact q5b (.str q7) (.str _)
    · rename_i e ht
      split at hl <;> simp at hl
      rename_i le hle
      obtain ⟨⟨hlen,hne⟩,rfl⟩:=hl
      rcases open_slice ht h with ⟨rfl,_⟩ | ⟨a,len,cap,m,n,D,Pl,rfl,_,hlc,hcm,hm,_,hel⟩
      · exact q5b (.nil _) .nilsl
      · obtain rfl : cap = m:=by simpa using hm.symm
        have elem : ∀ i,i < cap→∃ cs',w.cells? base (a.add (i * P.cellsOf e)) (P.cellsOf e) = some cs'∧Reads w le cs':=by
          intro i hi
          obtain ⟨cs',h1,h2⟩:=hel i hi
          exact ⟨cs',h1,qcf f e le n cs' _ hle h2⟩
        have hpos : 0 < P.cellsOf e:=by rw [← hlen];exact List.length_pos_iff.2 hne
        by_cases hc0 : cap = 0
        · subst hc0
          have : len = 0:=by omega
          subst this
          exact q5b (.sl (xs:=[]) qf qf qf) (.slemp _ _)
        · have hspot : a.spot = none∧ZC w a.block:=by
            obtain ⟨cs',h1,_⟩:=elem 0 q7
            obtain ⟨_,h2,h3⟩:=World.cells?_some h1
            have:=h3 0 q7
            obtain ⟨v,hv⟩:=Zc (xs:=cs') (i:=0) q7
            rw [hv] at this
            simp [World.cell?,Addr.add] at this
            split at this <;> try simp at this
            rename_i c e' f' hc
            exact ⟨this.1,c,e',f',hc⟩
          obtain ⟨b,o,sp⟩:=a
          obtain ⟨hsp,hz⟩:=hspot
          simp only at hsp hz;subst hsp
          have elem2 : ∀ i,i < len→∃ ds : List DV,ds.length = le.length∧∀ (j : Nat) (c : CT),le[j]? = some c→∃ d v,ds[j]? = some d∧Ty c d∧w.cell? ⟨b,o + (i * le.length + j),none⟩ = some v∧RelD w (ZC w) d v:=by
            intro i hi
            obtain ⟨cs',h1,h4,ds,h5,h6⟩:=elem i q7
            obtain ⟨_,h2,h3⟩:=World.cells?_some h1
            refine ⟨ds,h5,fun j c hj=>?_⟩
            have hjl:=K5 hj
            obtain ⟨v,hv⟩:=Zc (xs:=cs') (i:=j) q7
            obtain ⟨d,g1,g2,g3⟩:=h6 j c v hj hv
            have:=h3 j q7
            rw [hv,Jh,Jh,← hlen,Nat.add_assoc] at this
            exact ⟨d,v,g1,g2,this,g3⟩
          obtain ⟨F,hF⟩:=choose_lt elem2
          have hget : ∀ (i : Nat) (x : List DV),((List.range len).map F)[i]? = some x→i < len∧x = F i:=by
            intro i x hx
            simp only [List.getElem?_map,Option.map_eq_some_iff] at hx
            obtain ⟨k,hk,rfl⟩:=hx
            have hi : i < len:=by simpa using K5 hk
            rw [List.getElem?_range hi] at hk
            cases hk
            exact ⟨hi,rfl⟩
          have hlen2 : ((List.range len).map F).length = len:=by simp
          have hrel : RelD w (ZC w) (.sl le.length ((List.range len).map F)) (.slice (some ⟨b,o,none⟩) ((List.range len).map F).length cap):=by
            refine .sl (by rw [hlen2];exact hlc) (fun _=>hz) ?_ ?_ ?_
            · intro i x hx
              obtain ⟨hi,rfl⟩:=hget i x hx
              exact (hF i hi).1
            · intro i x j d hx hd
              obtain ⟨hi,rfl⟩:=hget i x hx
              obtain ⟨c,hc⟩:=Zc (xs:=le) (i:=j) (by rw [← (hF i hi).1];exact K5 hd)
              obtain ⟨d',v,g1,g2,g3,g4⟩:=(hF i hi).2 j c hc
              rw [hd] at g1;cases g1
              exact ⟨g2.cell,v,g3⟩
            · intro i x j d v hx hd hv
              obtain ⟨hi,rfl⟩:=hget i x hx
              obtain ⟨c,hc⟩:=Zc (xs:=le) (i:=j) (by rw [← (hF i hi).1];exact K5 hd)
              obtain ⟨d',v',g1,g2,g3,g4⟩:=(hF i hi).2 j c hc
              rw [hd] at g1;cases g1
              rw [hv] at g3;cases g3
              exact g4
          rw [hlen2] at hrel
          refine q5b (.sl (by rw [hlen2];omega) ?_ ?_) hrel
          · intro i x hx
            obtain ⟨hi,rfl⟩:=hget i x hx
            exact (hF i hi).1
          · intro i x j c d hx hc hd
            obtain ⟨hi,rfl⟩:=hget i x hx
            obtain ⟨d',v,g1,g2,_⟩:=(hF i hi).2 j c hc
            rw [hd] at g1;cases g1
            exact g2
    · rename_i fs ht
      split at hl <;> simp at hl
      rename_i l' hl'
      obtain ⟨hlen,rfl⟩:=hl
      obtain ⟨xs,n,_,_,hcl,hxl,hf⟩:=DataW.trod_struct ht h
      have:=qmr (P:=P) (w:=w) (f:=tyL P f) (g:=fun x cs=>∃ y,DataW.trod enc P w base (fun _=>true) held n x.type cs = some y) (fun x l cs h1 ⟨y,h2⟩=>qcf f x.type l n cs y h1 h2) fs.toList 0 l' cs hl' q7 ?_
      · simpa using this
      · intro x hx
        obtain ⟨i,hi⟩:=List.getElem?_of_mem hx
        have:=hf i x (by simpa using hi)
        obtain ⟨y,hy⟩:=Zc (xs:=xs) (i:=i) (by have:=K5 hi;simp at this;omega)
        exact ⟨y,by rw [this];exact hy⟩
end
end Go.Am
namespace Go.Am
open Go
open Go.ChangeShapes Go.WideShapes Go.ChangeAt Go.RowKit Go.Deep
theorem q10c {P : Program} {l : List (Nat × TI)} (h : l.map (fun x=>tiOf P x.1) = l.map (fun x=>some x.2)) : Ym P (qmo l):=by
  intro t i ht
  have hm:=Zn (show find l t = some i from ht)
  obtain ⟨k,hk⟩:=List.getElem?_of_mem hm
  have:=congrArg (fun r=>r[k]?) h
  simp only [List.getElem?_map,hk,Option.map_some] at this
  exact Option.some.inj this
def aggT (P : Program) (t : TypeId) : Bool:=match P.underlying t with
  | some (.struct _) | some (.array _ _)=>true
  | _=>false
inductive Jc : List (Bool × List CT)→List DV→Prop
  | nil : Jc [] []
  | one {c : CT} {d : DV} {ps : List (Bool × List CT)} {ds : List DV} : Ty c d→Jc ps ds→Jc ((false,[c])::ps) (d::ds)
  | agg {l : List CT} {xs : List DV} {ps : List (Bool × List CT)} {ds : List DV} : xs.length = l.length→(∀ (j : Nat) (c : CT) (d : DV),l[j]? = some c→xs[j]? = some d→Ty c d)→Jc ps ds→Jc ((true,l)::ps) (.agg xs::ds)
section
variable {H : Type} {enc : TypeId × Value→H} {P : Program} {T : Tab} {W : World} {base : Nat}
theorem qnn {t : TypeId} {f : Nat} {l : List CT} {v : Value} {d : DataW H} {p : List MemPlace} (hag : aggT P t = false) (hl : tyL P f t = some l) (hok : Value.okWide P W .any base t v) (h : DataW.Trod enc P W 0 (fun _=>true) true t v d p) :
    ∃ c x,l = [c]∧Ty c x∧RelD W (ZC W) x v:=by
  obtain ⟨fuel,hf⟩:=h
  have hr:=qcf f t l fuel _ _ hl hf
  have key : v.cells = #[v]→∃ c,l = [c]→∃ x,Ty c x∧RelD W (ZC W) x v:=by
    intro hv
    rw [hv] at hr
    obtain ⟨h1,ds,h2,h3⟩:=hr
    match l,h1 with
    | [c],_=>
      obtain ⟨x,_,h5,h6⟩:=h3 0 c v rfl rfl
      exact ⟨c,fun _=>⟨x,h5,h6⟩⟩
  have fin : v.cells = #[v]→∃ c x,l = [c]∧Ty c x∧RelD W (ZC W) x v:=by
    intro hv
    have hlen:=hr.1
    rw [hv] at hlen hr
    match l,hlen,hr with
    | [c],_,hr=>
      obtain ⟨_,ds,h2,h3⟩:=hr
      obtain ⟨x,_,h5,h6⟩:=h3 0 c v rfl rfl
      exact ⟨c,x,rfl,h5,h6⟩
  cases f with
  | zero=>simp [tyL] at hl
  | succ f=>
    simp only [tyL] at hl
    split at hl <;> try simp at hl
    · rename_i ht;obtain ⟨b,rfl⟩:=okWide_bool ht hok;exact fin rfl
    · rename_i k ht;obtain ⟨n,rfl⟩:=okWide_int ht hok;exact fin rfl
    · rename_i ht;obtain ⟨s,rfl⟩:=okWide_string ht hok;exact fin rfl
    · rename_i e ht;obtain ⟨a0,len,cap,rfl⟩:=okWide_slice ht hok;exact fin rfl
    · rename_i fs ht;simp [aggT,ht] at hag
theorem qnm {t : TypeId} {f : Nat} {l : List CT} {v : Value} {d : DataW H} {p : List MemPlace} (hag : aggT P t = true) (hl : tyL P f t = some l) (hok : Value.okWide P W .any base t v) (h : DataW.Trod enc P W 0 (fun _=>true) true t v d p) :
    ∃ xs : List DV,xs.length = l.length∧(∀ (j : Nat) (c : CT) (d : DV),l[j]? = some c→xs[j]? = some d→Ty c d)∧RelD W (ZC W) (.agg xs) v:=by
  obtain ⟨fuel,hf⟩:=h
  have hv : ∃ cs,v = .agg cs:=by
    unfold aggT at hag
    unfold Value.okWide at hok
    split at hag
    · rename_i ht;simp only [ht] at hok;obtain ⟨cs,h,_⟩:=hok;exact ⟨cs,h⟩
    · rename_i ht;simp only [ht] at hok;obtain ⟨cs,h,_⟩:=hok;exact ⟨cs,h⟩
    · simp at hag
  obtain ⟨cs,rfl⟩:=hv
  obtain ⟨h1,ds,h2,h3⟩:=qcf f t l fuel _ _ hl hf
  simp only [Value.cells] at h1 h3
  refine ⟨ds,h2,fun j c d hc hd=>?_,.agg (by simpa [h2] using h1.symm) fun j d c hd hc=>?_⟩
  · obtain ⟨v,hv⟩:=Zc (xs:=cs.toList) (i:=j) (by rw [h1];exact K5 hc)
    obtain ⟨d',g1,g2,_⟩:=h3 j c v hc hv
    rw [hd] at g1;cases g1;exact g2
  · obtain ⟨ct,hct⟩:=Zc (xs:=l) (i:=j) (by rw [← h2];exact K5 hd)
    obtain ⟨d',g1,_,g3⟩:=h3 j ct c hct (by simpa using hc)
    rw [hd] at g1;cases g1;exact g3
theorem qge {f : Nat} : ∀ (ts : List TypeId) (ps : List (Bool × List CT)) (vs : List Value) (ds : List (DataW H)) (p : List MemPlace),ts.map (fun t=>(aggT P t,tyL P f t)) = ps.map (fun x=>(x.1,some x.2))→
    (∀ (j : Nat) t v,ts[j]? = some t→vs[j]? = some v→Value.okWide P W .any base t v)→DataW.TrodAll enc P W 0 (fun _=>true) true ts vs ds p→
    ∃ xs : List DV,Jc ps xs∧xs.length = vs.length∧∀ (j : Nat) (x : DV) (v : Value),xs[j]? = some x→vs[j]? = some v→RelD W (ZC W) x v
  | [],ps,vs,ds,p,hp,hok,h=>by
    obtain ⟨rfl,rfl,rfl⟩:=trodAll_nil h
    cases ps with
    | nil=>exact ⟨[],.nil,rfl,qf⟩
    | cons _ _=>simp at hp
  | t::ts,ps,vs,ds,p,hp,hok,h=>by
    obtain ⟨v,vs',d,ds',q,q',rfl,rfl,rfl,h1,h2⟩:=trodAll_cons h
    cases ps with
    | nil=>simp at hp
    | cons pr ps=>
      obtain ⟨ag,l⟩:=pr
      simp only [List.map_cons,List.cons.injEq,Prod.mk.injEq] at hp
      obtain ⟨⟨hag,hl⟩,hp⟩:=hp
      obtain ⟨xs,g1,g2,g3⟩:=qge ts ps vs' ds' q' hp (fun j t v ht hv=>hok (j + 1) t v (by simpa using ht) (by simpa using hv)) h2
      have hok0:=hok 0 t v rfl rfl
      cases ag with
      | false=>
        obtain ⟨c,x,rfl,k1,k2⟩:=qnn hag hl hok0 h1
        refine ⟨x::xs,.one k1 g1,by simp [g2],fun j y u hy hu=>?_⟩
        cases j with
        | zero=>simp at hy hu;subst hy hu;exact k2
        | succ j=>exact g3 j y u (by simpa using hy) (by simpa using hu)
      | true=>
        obtain ⟨zs,k0,k1,k2⟩:=qnm hag hl hok0 h1
        refine ⟨.agg zs::xs,.agg k0 k1 g1,by simp [g2],fun j y u hy hu=>?_⟩
        cases j with
        | zero=>simp at hy hu;subst hy hu;exact k2
        | succ j=>exact g3 j y u (by simpa using hy) (by simpa using hu)
theorem q10s {F : FuncId} {vs : Array Value} {xs : List DV} (hT : Ym P T) (hm : P.follows .mixedOrders = true) (hp : Pure P T F xs (.bool true)) (hl : xs.length = vs.size) (hr : ∀ (j : Nat) (x : DV) (v : Value),xs[j]? = some x→vs[j]? = some v→RelD W (ZC W) x v) :
    Calls P F vs W fun e W'=>e = .returned (.bool true)∧Grown W W'∧Below W.heap.size W W':=by
  obtain ⟨v,hp',nx',r',he,hto,hle⟩:=hp
  have hg:=qo2 hT hm he
  have h0 : RelH W (ZC W) (fun _=>none) [] 0:=⟨fun _ _ h=>by simp [find] at h,fun _ _ _ _ _ _ h=>by simp [find] at h,fun _ _ _ h=>by simp [find] at h,
    fun b ⟨c,e,f,h⟩=>J9 h,fun b h=>h⟩
  have hc:=hg.2 W (ZC W) (fun _=>none) vs h0 ⟨by simpa using hl,fun j x v hx hv=>by
    simp only [List.getElem?_map,Option.map_eq_some_iff] at hx
    obtain ⟨y,hy,rfl⟩:=hx
    exact .d (hr j y v hy hv)⟩
  refine (callsIn_wide (n:=0).1 hc).mono ?_
  rintro e W' ⟨x,Z',inj',rfl,hh,hext,hv,hn⟩
  have hD:=(q9s hh 8 hto hv).le hle
  cases hD
  have hk : ∀ k,k < W.heap.size→W'.heap[k]? = W.heap[k]?:=fun k hk=>hext.keep k hk (by rintro ⟨n,blk,o,h1,_⟩;simp [find] at h1)
  refine ⟨rfl,⟨⟨hext.os,hext.output,fun i hi=>?_⟩,hext.frz,hext.size⟩,⟨hext.os,hext.tape,hext.output,hext.size,hk⟩⟩
  rw [hk i hi]
  cases hw : W.heap[i]? with
  | none=>simp
  | some o=>cases o <;> simp
theorem qgf (hlay : laidOutB P = true) {W' : World} {sp : Nat→Bool} : ∀ (ts : List TypeId) (vs : List Value) (ds : List (DataW H)) (p : List MemPlace),(∀ t∈ts,P.readableRec t = true∧t < P.types.size)→DataW.TrodAll enc P W 0 (fun _=>true) true ts vs ds p→
    Below W.heap.size W W'→(∀ x∈p,x.block < W.heap.size∧sp x.block = true)→DataW.TrodAll enc P W' 0 sp true ts vs ds p
  | [],vs,ds,p,_,h,_,_=>by obtain ⟨rfl,rfl,rfl⟩:=trodAll_nil h;exact trodAll_mk0
  | t::ts,vs,ds,p,ht,h,hb,hp=>by
    obtain ⟨v,vs',d,ds',q,q',rfl,rfl,rfl,h1,h2⟩:=trodAll_cons h
    refine trodAll_cons_mk (WideElems.Trod_stays hlay (ht t qf).1 (ht t qf).2 h1 (fun x hx=>hb.same (hp x (by simp [hx])).1) (fun x hx=>(hp x (by simp [hx])).2))
      (qgf hlay ts vs' ds' q' (fun u hu=>ht u (by simp [hu])) h2 hb (fun x hx=>hp x (by simp [hx])))
theorem contract {f : Func} {F : FuncId} {s : ChangeSpec} {tb : TypeId} {fuel : Nat} {ps : List (Bool × List CT)} (hT : Ym P T) (hm : P.follows .mixedOrders = true) (hlay : laidOutB P = true)
    (hvars : s.vars = []) (hres : f.resultTypes = #[tb]) (hub : P.underlying tb = some .bool) (hread : ∀ t∈f.params.toList,P.readableRec t = true∧t < P.types.size)
    (hps : f.params.toList.map (fun t=>(aggT P t,tyL P fuel t)) = ps.map (fun x=>(x.1,some x.2)))
    (hs : ∀ ds : List (DataW H),ds.length = f.params.size→s.fn H ds = {results:=[.lit (.bool true)],args:=ds})
    (hpure : ∀ xs,Jc ps xs→Pure P T F xs (.bool true))
    {args : Array Value} {ds gs : List (DataW H)} {before : List MemPlace} (hval : ∀ (j : Nat) t v,f.params[j]? = some t→args[j]? = some v→Value.okWide P W .any base t v)
    (hW : DataW.Whole enc P f.params.toList s.vars false W args.toList ds gs before) :
    Calls P F args W fun e W'=>∃ v,e = .returned v∧s.post enc P f false true false false W args v W':=by
  have hW':=hW
  obtain ⟨p,q,hA,hV,rfl,hfz,hnd⟩:=hW
  rw [hvars] at hV
  obtain ⟨rfl,rfl⟩:=trodVars_none hV
  have hlt:=hW'.lt
  simp only [List.append_nil] at hW' hlt
  obtain ⟨xs,g1,g2,g3⟩:=qge (base:=base) f.params.toList ps args.toList ds p hps (fun j t v ht hv=>hval j t v (by simpa using ht) (by simpa using hv)) hA
  refine (q10s hT hm (hpure xs g1) (by simpa using g2) (fun j x v hx hv=>g3 j x v hx (by simpa using hv))).mono ?_
  rintro e W' ⟨rfl,hg,hb⟩
  have hlen : ds.length = f.params.size:=by
    have : ∀ (ts : List TypeId) (vs : List Value) (ds : List (DataW H)) (p : List MemPlace),DataW.TrodAll enc P W 0 (fun _=>true) true ts vs ds p→ds.length = ts.length:=by
      intro ts
      induction ts with
      | nil=>intro vs ds p h;obtain ⟨_,rfl,_⟩:=trodAll_nil h;rfl
      | cons t ts ih=>intro vs ds p h;obtain ⟨v,vs',d,ds',q,q',rfl,rfl,rfl,_,h2⟩:=trodAll_cons h;simp [ih _ _ _ h2]
    simpa using this _ _ _ _ hA
  have hfn:=hs (ds ++ []) (by simpa using hlen)
  refine ⟨_,rfl,post_of_same (pa:=p) (pv:=[]) hW' ?_ ?_ ?_ qf (hg.frame _) hg.2.1 (ok_one hres rfl (okWide_bool_mk hub _))⟩
  · intro b sp hd
    rw [hres,hfn]
    exact trodAll_cons_mk (shut_bool hub _) trodAll_mk0
  · intro sp hsp
    rw [hfn]
    show DataW.TrodAll enc P W' 0 sp true f.params.toList args.toList (ds ++ []) p
    rw [List.append_nil]
    exact qgf hlay _ _ _ _ hread hA hb fun x hx=>⟨hlt x hx,hsp x hx⟩
  · intro sp hsp
    rw [hfn,hvars]
    rfl
end
end Go.Am
namespace Go.Am
open Go
variable {P : Program} {T : Tab}
section
variable {base : Nat} {ops : Array Oper} {dr : Dr} {l : List Oper} {sl sl1 : List (Nat × V)} {hp hp1 : List (Nat × Blk)} {nx nx1 : Nat} {K : AS→Prop} {ty : TypeId} {pos : String} {af : Array Edge} {t : Tmp} {g : Option (Nat × Bool)} {v : V}
theorem qq4 {st : AS} {op : Op} (h : touch op = 0) : fp st op = (some [],[]):=by
  unfold touch at h
  split at h <;> first | rfl | (simp at h;done) | (exact absurd h qt)
theorem qrp {dr : Dr} {k : Nat} {st st1 : AS} {t : TypeId} {p : Operand} (h : okF dr k (fp st (.load t p)) = true) : okO dr k st (.load t p) st1 = true:=by
  cases dr with
  | none=>rfl
  | some F=>simp only [okF] at h;simp only [okO,h,Bool.true_and,q36,touch]
theorem qk0 {dr : Dr} {k n es : Nat} {st st1 : AS} {op : Op} {xs : List (List DV)} {r : List (Nat × Blk)} (hh : st1.hp = (n,.dat es xs)::r) (h : okF dr k (fp st op) = true) : okO dr k st op st1 = true:=by
  cases dr with
  | none=>rfl
  | some F=>
    simp only [okF] at h
    simp only [okO,h,Bool.true_and,q36,hh]
    split <;> rfl
theorem Zq {dr : Dr} {k : Nat} {st st1 : AS} {op : Op} (h : touch op = 0) : okO dr k st op st1 = true:=by
  cases dr with
  | none=>rfl
  | some F=>simp only [okO,qq4 h,qib,Bool.true_and,q36,h]
theorem fin {ex : Ex} {st : AS} {rs : List ResultVar} {v : V} {r r' : DV} (hx : ex = .nor∨ex = .ret) (hv : resV T st rs = some v) (ht : toD st.hp 8 v = some r') (he : r' = r) : (ex = .nor∨ex = .ret)∧∃ v r',resV T st rs = some v∧toD st.hp 8 v = some r'∧DLe r' r:=
  ⟨hx,v,r',hv,ht,he ▸ .refl _⟩
theorem qrt {x y : Operand} {xt : TypeId} {i : TI} {k : IntKind} {n : Int} {m es off len : Nat} (hg : Qk ops ⟨sl,hp,nx⟩ ⟨some t,.indexAddr xt x y,ty,pos,af,g⟩ = some true) (hT : T xt = some i)
    (hx : AS.ev ⟨sl,hp,nx⟩ x = some (.hs m es off len)) (hy : AS.ev ⟨sl,hp,nx⟩ y = some (.d (.int k n))) (hk : i.kind = .slice) (he : es = i.esize) (h0 : 0≤n) (hi : n < len)
    (h : OpsK P T base ops dr l ⟨(t,.ref m es (off + n.toNat) 0)::sl,hp,nx⟩ K) : OpsK P T base ops dr (⟨some t,.indexAddr xt x y,ty,pos,af,g⟩::l) ⟨sl,hp,nx⟩ K:=
  Y7 hg (v:=.ref m es (off + n.toNat) 0) (st1:=⟨sl,hp,nx⟩) (by simp [opFn,hx,hy,hT,q3e,hk,he,h0,hi]) h (Zq rfl)
theorem qb3 {p : Operand} {xt : TypeId} {i : TI} {m es a j : Nat} {xs : List (List DV)} {cs r : List DV} {w : V} (hg : Qk ops ⟨sl,hp,nx⟩ ⟨some t,.load xt p,ty,pos,af,g⟩ = some true) (hT : T xt = some i)
    (hx : AS.ev ⟨sl,hp,nx⟩ p = some (.ref m es a j)) (hb : find hp m = some (.dat es xs)) (hi : xs[a]? = some cs) (hs : sub cs j i.size = some r) (hw : (U4 i.agg r).map .d = some w)
    (h : OpsK P T base ops dr l ⟨(t,w)::sl,hp,nx⟩ K) (hF : okF dr l.length (fp ⟨sl,hp,nx⟩ (.load xt p)) = true:=by rfl) : OpsK P T base ops dr (⟨some t,.load xt p,ty,pos,af,g⟩::l) ⟨sl,hp,nx⟩ K:=
  Y7 hg (v:=w) (st1:=⟨sl,hp,nx⟩) (by simp only [opFn,hx,hT,Jo,AS.blk,hb,Nat.beq_refl,hi,hs,hw,Option.map_some]) h (qrp hF)
end
end Go.Am
namespace Go.Am
open Go
variable {P : Program} {T : Tab}
section
variable {base : Nat} {ops : Array Oper} {dr : Dr} {l : List Oper} {sl : List (Nat × V)} {hp : List (Nat × Blk)} {nx : Nat} {K : AS→Prop} {ty : TypeId} {pos : String} {af : Array Edge} {t : Tmp} {g : Option (Nat × Bool)} {v : V}
theorem Qe {et : TypeId} {i : TI} (hg : Qk ops ⟨sl,hp,nx⟩ ⟨some t,.alloc et,ty,pos,af,g⟩ = some true) (hT : T et = some i)
    (h : OpsK P T base ops dr l ⟨(t,.ref nx i.size 0 0)::sl,(nx,.dat i.size [i.zero])::hp,nx + 1⟩ K) (hF : okF dr l.length (fp ⟨sl,hp,nx⟩ (.alloc et)) = true:=by rfl) : OpsK P T base ops dr (⟨some t,.alloc et,ty,pos,af,g⟩::l) ⟨sl,hp,nx⟩ K:=
  Y7 hg (v:=.ref nx i.size 0 0) (st1:=⟨sl,(nx,.dat i.size [i.zero])::hp,nx + 1⟩) (by simp only [opFn,hT,Option.map_some];rfl) h (qk0 rfl hF)
theorem q101 {cs : List DV} : sub cs 0 cs.length = some cs:=by simp [sub]
theorem qrq {x y : Operand} {st0 xt : TypeId} {i j : TI} {n es len : Nat} {xs ys : List (List DV)} {yv : V} (hg : Qk ops ⟨sl,hp,nx⟩ ⟨some t,.call {callee:=.builtin .append,args:=#[x,y],argTypes:=#[st0,xt]},ty,pos,af,g⟩ = some true)
    (hT : T st0 = some i) (hT2 : T xt = some j) (hx : AS.ev ⟨sl,hp,nx⟩ x = some (.hs n es 0 len)) (hy : AS.ev ⟨sl,hp,nx⟩ y = some yv) (hb : find hp n = some (.dat es xs)) (hl : len = xs.length) (hc : Yy ⟨sl,hp,nx⟩ yv = some ys)
    (hk : i.kind = .slice) (hk2 : j.kind = .slice) (he : es = i.esize) (hf : Jm i.esize yv = true) (hr : (len + ys.length) * (i.ebytes * 4)≤4294967296)
    (h : OpsK P T base ops dr l ⟨(t,.hs nx es 0 (len + ys.length))::sl,(nx,.dat es (xs ++ ys))::repl hp n .dead,nx + 1⟩ K) (hF : okF dr l.length (fp ⟨sl,hp,nx⟩ (.call {callee:=.builtin .append,args:=#[x,y],argTypes:=#[st0,xt]})) = true:=by rfl) : OpsK P T base ops dr (⟨some t,.call {callee:=.builtin .append,args:=#[x,y],argTypes:=#[st0,xt]},ty,pos,af,g⟩::l) ⟨sl,hp,nx⟩ K:=by
  refine Y7 hg (v:=.hs nx es 0 (len + ys.length)) (st1:=⟨sl,(nx,.dat es (xs ++ ys))::repl hp n .dead,nx + 1⟩) ?_ h (qk0 rfl hF)
  subst hl
  have e : ((xs.drop 0).take xs.length ++ ys) = xs ++ ys:=by simp
  simp only [opFn,evL,hx,hy,Y2]
  simp only [List.getElem?_toArray,List.getElem?_cons_zero,List.getElem?_cons_succ,hT,hT2]
  rw [if_pos ⟨hk,hk2,hf⟩]
  simp only [Yn,AS.blk,hb,hc]
  rw [if_pos ⟨q7,trivial,hr,he⟩,e]
  rfl
theorem qef {x : Operand} (hg : Qk ops ⟨sl,hp,nx⟩ ⟨some t,.move x,ty,pos,af,g⟩ = some true) (hx : AS.ev ⟨sl,hp,nx⟩ x = some v)
    (h : OpsK P T base ops dr l ⟨(t,v)::sl,hp,nx⟩ K) : OpsK P T base ops dr (⟨some t,.move x,ty,pos,af,g⟩::l) ⟨sl,hp,nx⟩ K:=
  Y7 hg (v:=v) (st1:=⟨sl,hp,nx⟩) (by simp only [opFn,hx,Option.map_some]) h (Zq rfl)
theorem qrr {x : Operand} (hg : Qk ops ⟨sl,hp,nx⟩ ⟨some t,.assign x,ty,pos,af,g⟩ = some true) (hx : AS.ev ⟨sl,hp,nx⟩ x = some v)
    (h : OpsK P T base ops dr l ⟨(t,v)::sl,hp,nx⟩ K) : OpsK P T base ops dr (⟨some t,.assign x,ty,pos,af,g⟩::l) ⟨sl,hp,nx⟩ K:=
  Y7 hg (v:=v) (st1:=⟨sl,hp,nx⟩) (by simp only [opFn,hx,Option.map_some]) h (Zq rfl)
theorem qd {op : Op} {j : Nat} {w : Bool} (hg : Qk ops ⟨sl,hp,nx⟩ ⟨some t,op,ty,pos,af,some (j,w)⟩ = some false) (h : OpsK P T base ops dr l ⟨(t,.d (.tup []))::sl,hp,nx⟩ K) : OpsK P T base ops dr (⟨some t,op,ty,pos,af,some (j,w)⟩::l) ⟨sl,hp,nx⟩ K:=
  qs3 hg h
theorem qry {x : Operand} {xt : TypeId} {i : TI} {es : Nat} {xs : List (List DV)} {m : Nat} (hg : Qk ops ⟨sl,hp,nx⟩ ⟨some t,.call {callee:=.builtin .len,args:=#[x],argTypes:=#[xt]},ty,pos,af,g⟩ = some true) (hT : T xt = some i) (hk : i.kind = .slice) (hx : AS.ev ⟨sl,hp,nx⟩ x = some (.d (.sl es xs))) (hm : xs.length = m)
    (h : OpsK P T base ops dr l ⟨(t,.d (.int .i64 m))::sl,hp,nx⟩ K) : OpsK P T base ops dr (⟨some t,.call {callee:=.builtin .len,args:=#[x],argTypes:=#[xt]},ty,pos,af,g⟩::l) ⟨sl,hp,nx⟩ K:=by
  subst hm
  exact Y7 hg (v:=.d (.int .i64 xs.length)) (st1:=⟨sl,hp,nx⟩) (by simp only [opFn,evL,hx,Y2];simp only [List.getElem?_toArray,List.getElem?_cons_zero,hT,hk]) h (Zq rfl)
end
end Go.Am
namespace Go.Am
open Go
def iter {α β : Type} (f : α→Option (α ⊕ β)) : Nat→α→Option β
  | 0,_=>none
  | n + 1,a=>match f a with
    | none=>none
    | some (.inl a')=>iter f n a'
    | some (.inr b)=>some b
theorem qdx {α β : Type} {f : α→Option (α ⊕ β)} : ∀ {n : Nat} {a : α} {b : β},iter f n a = some b→∀ m,n≤m→iter f m a = some b
  | 0,_,_,h,_,_=>by simp [iter] at h
  | n + 1,a,b,h,m,hm=>by
    obtain ⟨k,rfl⟩ : ∃ k,m = k + 1:=⟨m - 1,q7⟩
    simp only [iter] at h ⊢
    split at h
    · simp at h
    · rename_i a' he;exact qdx h k q7
    · exact h
theorem qqv {α β : Type} {f : α→Option (α ⊕ β)} {n m : Nat} {a : α} {b c : β} (h : iter f n a = some b) (h' : iter f m a = some c) : b = c:=by
  have h1:=qdx h (max n m) q7
  have h2:=qdx h' (max n m) q7
  rw [h1] at h2;exact Option.some.inj h2
open Classical in
noncomputable def loop {α β : Type} (f : α→Option (α ⊕ β)) (a : α) : Option β:=
  if h : ∃ b n,iter f n a = some b then some h.choose else none
theorem q7q {α β : Type} {f : α→Option (α ⊕ β)} {a : α} {b : β} : loop f a = some b↔∃ n,iter f n a = some b:=by
  unfold loop
  split
  · rename_i h
    constructor
    · intro e;cases e;exact h.choose_spec
    · rintro ⟨n,hn⟩
      obtain ⟨m,hm⟩:=h.choose_spec
      rw [qqv hm hn]
  · rename_i h
    constructor
    · intro e;cases e
    · rintro ⟨n,hn⟩;exact absurd ⟨b,n,hn⟩ h
theorem Qv {α β : Type} {f : α→Option (α ⊕ β)} {a a' : α} (h : f a = some (.inl a')) : loop f a = loop f a':=by
  apply Option.ext
  intro b
  rw [q7q,q7q]
  constructor
  · rintro ⟨n,hn⟩
    cases n with
    | zero=>simp [iter] at hn
    | succ n=>simp only [iter,h] at hn;exact ⟨n,hn⟩
  · rintro ⟨n,hn⟩
    exact ⟨n + 1,by simp only [iter,h];exact hn⟩
theorem K8 {α β : Type} {f : α→Option (α ⊕ β)} {a : α} {b : β} (h : f a = some (.inr b)) : loop f a = some b:=
  q7q.2 ⟨1,by simp [iter,h]⟩
theorem qr6 {α β : Type} {f : α→Option (α ⊕ β)} (I : α→Prop) (μ : α→Nat) (Q : β→Prop) (step : ∀ a,I a→(∃ a',f a = some (.inl a')∧I a'∧μ a' < μ a)∨∃ b,f a = some (.inr b)∧Q b) {a : α} (h : I a) : ∃ b,loop f a = some b∧Q b:=by
  generalize hn : μ a = n
  induction n using Nat.strongRecOn generalizing a with
  | _ n ih=>
    rcases step a h with ⟨a',h1,h2,h3⟩ | ⟨b,h1,h2⟩
    · rw [Qv h1];exact ih _ (hn ▸ h3) h2 rfl
    · exact ⟨b,K8 h1,h2⟩
def w64 (x : Int) : Int:=IntKind.i64.wrap x
theorem Q0 {x : Int} (h : -9223372036854775808≤x∧x≤9223372036854775807) : w64 x = x:=qfy h
def idx {α : Type} (xs : List α) (i : Int) : Option α:=if 0≤i then xs[i.toNat]? else none
def app {α : Type} (c : Nat) (xs ys : List α) : Option (List α):=if (xs.length + ys.length) * (c * 4)≤4294967296 then some (xs ++ ys) else none
def slc {α : Type} (xs : List α) (a b : Int) : Option (List α):=if 0≤a∧a≤b∧b≤xs.length then some ((xs.drop a.toNat).take (b.toNat - a.toNat)) else none
def sub2 (n : Nat) (a b : Int) : Option (Nat × Nat):=if 0≤a∧a≤b∧b≤n then some (a.toNat,b.toNat - a.toNat) else none
def cpyw {α : Type} (xs : List α) (w : Nat × Nat) (ys : List α) : List α:=splice xs w.1 (ys.take (min ys.length w.2))
theorem leb {n m : Nat} (h : Nat.ble n m = true) : n≤m:=by simpa using h
theorem qpc {α : Type} {xs ys : List α} {w : Nat × Nat} (h : w.1 + w.2≤xs.length) : (cpyw xs w ys).length = xs.length:=by
  simp [cpyw,splice];omega
theorem ltd {n m : Nat} (h : Nat.blt n m = true) : n < m:=by simpa [Nat.blt_eq] using h
def eI (k : IntKind) (x : Int) : List DV:=[.int k x]
theorem qas {α : Type} {xs : List α} {i : Int} {v : α} (h : idx xs i = some v) : 0≤i∧xs[i.toNat]? = some v∧i.toNat < xs.length:=by
  unfold idx at h
  split at h
  · rename_i h0;exact ⟨h0,h,K5 h⟩
  · cases h
theorem q9 {α β : Type} {o : Option α} {f : α→Option β} {x : β} (h : o.bind f = some x) : ∃ v,o = some v∧f v = some x:=by
  cases o with
  | none=>cases h
  | some v=>exact ⟨v,rfl,h⟩
theorem qe {α : Type} {a b : α} (h : some a = some b) : a = b:=Option.some.inj h
section
variable {P : Program} {T : Tab} {base : Nat} {cs : List Code} {st : AS} {K : Ex→AS→Prop}
theorem RunK.mono {K' : Ex→AS→Prop} : ∀ {cs : List Code} {st : AS},RunK P T base cs st K→(∀ ex st,K ex st→K' ex st)→RunK P T base cs st K'
  | [],_,h,hk=>hk _ _ h
  | c::cs,st,h,hk=>q31.mono h fun ex st h=>by
    cases ex with
    | nor=>exact RunK.mono (cs:=cs) h hk
    | exit i=>exact hk _ _ h
    | ret=>exact hk _ _ h
theorem qp {α : Type} {c : Operand} {a b : Code} {t : Bool} {X Y : Option α} {x : α} (hc : st.ev c = some (.d (.bool t))) (h : cond t X Y = some x) (ht : t = true→X = some x→RunK P T base (a::cs) st K) (hf : t = false→Y = some x→RunK P T base (b::cs) st K) :
    RunK P T base (.cond c a b::cs) st K:=by
  cases t with
  | true=>exact Z7 hc (ht rfl h)
  | false=>exact Z6 hc (hf rfl h)
theorem Qf {α β : Type} {body : Code} (f : α→Option (α ⊕ β)) (S : α→AS) (a0 : α) (m : β) (hm : loop f a0 = some m) (h0 : WkE base st (S a0))
    (round : ∀ a y,f a = some y→RunK P T base [body] (S a) (fun ex st'=>match ex with
      | .nor=>∃ a',y = .inl a'∧WkE base st' (S a')
      | ex=>∃ b,y = .inr b∧(b = m→K ex st'))) : RunK P T base (.loop body::cs) st K:=by
  obtain ⟨n,hn⟩:=q7q.1 hm
  refine qud (fun x : Nat × α=>S x.2) (fun x=>iter f x.1 x.2 = some m) (fun x=>x.1) (n,a0) h0 hn ?_
  rintro ⟨k,a⟩ hk
  cases k with
  | zero=>simp [iter] at hk
  | succ k=>
    simp only [iter] at hk
    split at hk
    · cases hk
    · rename_i a' he
      refine (round a _ he).mono ?_
      intro ex st' h
      cases ex with
      | nor=>
        obtain ⟨a'',h1,h2⟩:=h
        cases h1
        exact ⟨(k,a'),hk,qf,h2⟩
      | exit i=>obtain ⟨b,h1,_⟩:=h;cases h1
      | ret=>obtain ⟨b,h1,_⟩:=h;cases h1
    · rename_i b he
      cases hk
      refine (round a _ he).mono ?_
      intro ex st' h
      cases ex with
      | nor=>obtain ⟨a'',h1,_⟩:=h;cases h1
      | exit i=>obtain ⟨b',h1,h2⟩:=h;cases h1;exact h2 rfl
      | ret=>obtain ⟨b',h1,h2⟩:=h;cases h1;exact h2 rfl
theorem Ji {id : Nat} {N : AS→Prop} (h : N st) : q33 id N K (.exit id) st:=by simpa [q33] using h
theorem Qj {id : Nat} {N : AS→Prop} (h : N st) : q33 id N K .nor st:=h
theorem Yi {β : Type} {c : Code} (E : β→Prop) (S : β→AS) (hne : cs≠[]) (hc : RunK P T base [c] st (q9q (fun st'=>∃ b,E b∧WkE base st' (S b)) K)) (hrest : ∀ b,E b→RunK P T base cs (S b) K) : RunK P T base (c::cs) st K:=by
  obtain ⟨ex,st1,e1,k1⟩:=q4e hc
  refine ⟨ex,st1,e1,?_⟩
  cases ex with
  | nor=>obtain ⟨b,hb,hw⟩:=k1;exact Yj hw (hrest b hb) hne
  | exit i=>exact k1
  | ret=>exact k1
theorem Qm {β : Type} {id : Nat} {a : Code} (E : β→Prop) (S : β→AS) (hne : cs≠[]) (hc : RunK P T base [a] st (q33 id (fun st'=>∃ b,E b∧WkE base st' (S b)) K)) (hrest : ∀ b,E b→RunK P T base cs (S b) K) : RunK P T base (.block id a::cs) st K:=by
  refine Q1 (hc.mono ?_)
  intro ex st' h
  cases ex with
  | nor=>obtain ⟨b,hb,hw⟩:=h;exact Yj hw (hrest b hb) hne
  | ret=>exact h
  | exit i=>
    simp only [q33] at h ⊢
    split
    · rename_i hi;rw [if_pos hi] at h;obtain ⟨b,hb,hw⟩:=h;exact Yj hw (hrest b hb) hne
    · rename_i hi;rw [if_neg hi] at h;exact h
theorem q88 {β : Type} {c : Code} (E : β→Prop) (S : β→AS) (hc : RunK P T base [c] st (q9q (fun st'=>∃ b,E b∧WkE base st' (S b)) K)) (hrest : ∀ b st',E b→WkE base st' (S b)→K .nor st') : RunK P T base [c] st K:=by
  refine hc.mono ?_
  intro ex st' h
  cases ex with
  | nor=>obtain ⟨b,hb,hw⟩:=h;exact hrest b st' hb hw
  | exit i=>exact h
  | ret=>exact h
end
section
variable {P : Program} {T : Tab} {base : Nat} {ops : Array Oper} {dr : Dr} {l : List Oper} {sl : List (Nat × V)} {hp : List (Nat × Blk)} {nx : Nat} {K : AS→Prop} {ty : TypeId} {pos : String} {af : Array Edge} {t : Tmp} {g : Option (Nat × Bool)}
theorem qs6 {op : Op} (v : V) (hg : Qk ops ⟨sl,hp,nx⟩ ⟨some t,op,ty,pos,af,g⟩ = some true) (ho : opFn T ⟨sl,hp,nx⟩ op = some (v,⟨sl,hp,nx⟩)) (h : OpsK P T base ops dr l ⟨(t,v)::sl,hp,nx⟩ K) (hF : okO dr l.length ⟨sl,hp,nx⟩ (op) ⟨sl,hp,nx⟩ = true:=by rfl) : OpsK P T base ops dr (⟨some t,op,ty,pos,af,g⟩::l) ⟨sl,hp,nx⟩ K:=
  Y7 hg ho h hF
theorem qs0 {op : Op} (v : V) (b : Blk) (hg : Qk ops ⟨sl,hp,nx⟩ ⟨some t,op,ty,pos,af,g⟩ = some true) (ho : opFn T ⟨sl,hp,nx⟩ op = some (v,⟨sl,(nx,b)::hp,nx + 1⟩)) (h : OpsK P T base ops dr l ⟨(t,v)::sl,(nx,b)::hp,nx + 1⟩ K) (hF : okO dr l.length ⟨sl,hp,nx⟩ (op) ⟨sl,(nx,b)::hp,nx + 1⟩ = true:=by rfl) : OpsK P T base ops dr (⟨some t,op,ty,pos,af,g⟩::l) ⟨sl,hp,nx⟩ K:=
  Y7 hg ho h hF
theorem q3g {op : Op} {es len : Nat} (xs : List (List DV)) (hg : Qk ops ⟨sl,hp,nx⟩ ⟨some t,op,ty,pos,af,g⟩ = some true) (ho : opFn T ⟨sl,hp,nx⟩ op = some (.hs nx es 0 len,⟨sl,(nx,.dat es xs)::hp,nx + 1⟩)) (hl : len = xs.length) (ht : touch op = 2) (hf : find hp nx = none) (h : OpsK P T base ops dr l ⟨(t,.d (.sl es xs))::sl,hp,nx + 1⟩ K) (hF : okF dr l.length (fp ⟨sl,hp,nx⟩ op) = true:=by rfl) : OpsK P T base ops dr (⟨some t,op,ty,pos,af,g⟩::l) ⟨sl,hp,nx⟩ K:=by
  subst hl
  exact qs1 (n:=nx) (hp2:=hp) (st1:=⟨sl,(nx,.dat es xs)::hp,nx + 1⟩) hg ho ht ⟨rfl,rfl⟩ rfl hf h hF
theorem qs5 {op : Op} (n : Nat) (b : Blk) (hg : Qk ops ⟨sl,hp,nx⟩ ⟨none,op,ty,pos,af,g⟩ = some true) (ho : opFn T ⟨sl,hp,nx⟩ op = some (.dead,⟨sl,repl hp n b,nx⟩)) (h : OpsK P T base ops dr l ⟨sl,repl hp n b,nx⟩ K) (hF : okO dr l.length ⟨sl,hp,nx⟩ (op) ⟨sl,repl hp n b,nx⟩ = true:=by rfl) : OpsK P T base ops dr (⟨none,op,ty,pos,af,g⟩::l) ⟨sl,hp,nx⟩ K:=
  Y7 hg ho h hF
theorem Q8 {α : Type} {x : Operand} {b : Bool} {X Y : Option α} {m : α} (hg : Qk ops ⟨sl,hp,nx⟩ ⟨some t,.move x,ty,pos,af,g⟩ = some true) (hx : AS.ev ⟨sl,hp,nx⟩ x = some (.d (.bool b))) (h : cond b X Y = some m)
    (ht : X = some m→OpsK P T base ops dr l ⟨(t,.d (.bool true))::sl,hp,nx⟩ K) (hf : Y = some m→OpsK P T base ops dr l ⟨(t,.d (.bool false))::sl,hp,nx⟩ K) : OpsK P T base ops dr (⟨some t,.move x,ty,pos,af,g⟩::l) ⟨sl,hp,nx⟩ K:=by
  cases b with
  | true=>exact qef hg hx (ht h)
  | false=>exact qef hg hx (hf h)
theorem q10 {dr : Dr} (hd : dr = none) {l1 l2 : List Oper} {st st1 st2 : AS} : Kj P T base ops dr l1 st st1→Kj P T base ops dr l2 st1 st2→Kj P T base ops dr (l1 ++ l2) st st2
  | .nil,h2=>h2
  | .skip a b,h2=>.skip a (q10 hd b h2)
  | .op a b _ c,h2=>.op a b (by subst hd;rfl) (q10 hd c h2)
  | .opF a b c d e f _ g,h2=>.opF a b c d e f (by subst hd;rfl) (q10 hd g h2)
  | .callP a b c d e f g h _ i,h2=>.callP a b c d e f g h (by subst hd;rfl) (q10 hd i h2)
  | .callS a b c d e,h2=>.callS a b c d (q10 hd e h2)
  | .callF a b c d e f g h i,h2=>.callF a b c d e f g h (q10 hd i h2)
  | .callY a b c d e f g h i j k l,h2=>.callY a b c d e f g h i j k (q10 hd l h2)
  | .wk a b,h2=>.wk a (q10 hd b h2)
theorem qia {F : List Fp} {m k : Nat} : fpAt (F.drop m) k = fpAt F (k + m):=by
  unfold fpAt
  rw [List.getElem?_drop,Nat.add_comm]
theorem qro {F : List Fp} {l l2 : List Oper} {dr : Dr} (hd : dr = some (F.drop l2.length)) {st st1 : AS} {op : Op} (h : okO dr l.length st op st1 = true) : okO (some F) (l ++ l2).length st op st1 = true:=by
  subst hd
  simp only [okO,qia] at h
  simpa only [okO,List.length_append] using h
theorem qjz {F : List Fp} {l l2 : List Oper} {dr : Dr} (hd : dr = some (F.drop l2.length)) {x : Fp} (h : okF dr l.length x = true) : okF (some F) (l ++ l2).length x = true:=by
  subst hd
  simp only [okF,qia] at h
  simpa only [okF,List.length_append] using h
theorem qpq {F : List Fp} {l2 : List Oper} {dr : Dr} {k : Dr} (hk : k = some F) (hd : dr = some (F.drop l2.length)) {l1 : List Oper} {st st1 st2 : AS} (h1 : Kj P T base ops dr l1 st st1) (h2 : Kj P T base ops k l2 st1 st2) : Kj P T base ops k (l1 ++ l2) st st2:=by
  subst hk
  induction l1 generalizing st with
  | nil=>cases h1 with
    | nil=>exact h2
    | wk _ _=>cases hd
  | cons o l ih=>
    cases h1 with
    | skip a b=>exact .skip a (ih b)
    | op a b c d=>exact .op a b (qro hd c) (ih d)
    | opF a b c d e f g h=>exact .opF a b c d e f (qjz hd g) (ih h)
    | callP a b c d e f g h i j=>exact .callP a b c d e f g h (qjz hd i) (ih j)
    | callS _ _ _ _ _=>cases hd
    | callF _ _ _ _ _ _ _ _ _=>cases hd
    | callY _ _ _ _ _ _ _ _ _ _ _ _=>cases hd
    | wk _ _=>cases hd
def qhg (dr : Dr) (k : Nat) : Dr:=match dr with
  | none=>none
  | some F=>some (F.drop k)
theorem qpp {dr : Dr} {l1 l2 : List Oper} {st st1 st2 : AS} (h1 : Kj P T base ops (qhg dr l2.length) l1 st st1) (h2 : Kj P T base ops dr l2 st1 st2) : Kj P T base ops dr (l1 ++ l2) st st2:=by
  cases dr with
  | none=>exact q10 rfl h1 h2
  | some F=>exact qpq rfl rfl h1 h2
theorem Q9 (n : Nat) (Q : (List (Nat × V)→AS)→AS→Prop) (h1 : OpsK P T base ops (qhg dr (l.drop n).length) (l.take n) ⟨sl,hp,nx⟩ (Q fun p=>⟨p ++ sl,hp,nx⟩)) (h2 : ∀ st',Q (fun p=>⟨p ++ sl,hp,nx⟩) st'→OpsK P T base ops dr (l.drop n) st' K) : OpsK P T base ops dr l ⟨sl,hp,nx⟩ K:=by
  obtain ⟨st1,e1,k1⟩:=h1
  obtain ⟨st2,e2,k2⟩:=h2 st1 k1
  refine ⟨st2,?_,k2⟩
  have:=qpp e1 e2
  rwa [List.take_append_drop] at this
theorem qrv {α : Type} {x y : Operand} {xt : TypeId} {i : TI} {k : IntKind} {n : Int} {es : Nat} {xs : List α} {enc : α→List DV} {v : α} (hv : idx xs n = some v) (hg : Qk ops ⟨sl,hp,nx⟩ ⟨some t,.indexAddr xt x y,ty,pos,af,g⟩ = some true) (hT : T xt = some i)
    (hx : AS.ev ⟨sl,hp,nx⟩ x = some (.d (.sl es (xs.map enc)))) (hy : AS.ev ⟨sl,hp,nx⟩ y = some (.d (.int k n))) (hk : i.kind = .slice) (he : es = i.esize)
    (h : OpsK P T base ops dr l ⟨(t,.dref (enc v) 0)::sl,hp,nx⟩ K) : OpsK P T base ops dr (⟨some t,.indexAddr xt x y,ty,pos,af,g⟩::l) ⟨sl,hp,nx⟩ K:=by
  obtain ⟨h0,h1,_⟩:=qas hv
  exact Y7 hg (v:=.dref (enc v) 0) (st1:=⟨sl,hp,nx⟩) (by simp [opFn,hx,hy,hT,q3e,hk,he,h0,h1]) h (Zq rfl)
theorem qru {α : Type} {x y : Operand} {xt : TypeId} {i : TI} {k : IntKind} {n : Int} {m es len : Nat} {xs : List α} {v : α} (hv : idx xs n = some v) (hl : len = xs.length) (hg : Qk ops ⟨sl,hp,nx⟩ ⟨some t,.indexAddr xt x y,ty,pos,af,g⟩ = some true) (hT : T xt = some i)
    (hx : AS.ev ⟨sl,hp,nx⟩ x = some (.hs m es 0 len)) (hy : AS.ev ⟨sl,hp,nx⟩ y = some (.d (.int k n))) (hk : i.kind = .slice) (he : es = i.esize)
    (h : OpsK P T base ops dr l ⟨(t,.ref m es n.toNat 0)::sl,hp,nx⟩ K) : OpsK P T base ops dr (⟨some t,.indexAddr xt x y,ty,pos,af,g⟩::l) ⟨sl,hp,nx⟩ K:=by
  subst hl
  obtain ⟨h0,_,h1⟩:=qas hv
  exact Y7 hg (v:=.ref m es n.toNat 0) (st1:=⟨sl,hp,nx⟩) (by simp [opFn,hx,hy,hT,q3e,hk,he,h0];omega) h (Zq rfl)
theorem qrz {α : Type} {p : Operand} {xt : TypeId} {i : TI} {m es j : Nat} {n : Int} {xs : List α} {enc : α→List DV} {r : List DV} {v : α} (w : V) (hv : idx xs n = some v) (hg : Qk ops ⟨sl,hp,nx⟩ ⟨some t,.load xt p,ty,pos,af,g⟩ = some true) (hT : T xt = some i)
    (hx : AS.ev ⟨sl,hp,nx⟩ p = some (.ref m es n.toNat j)) (hb : find hp m = some (.dat es (xs.map enc))) (hs : sub (enc v) j i.size = some r) (hw : (U4 i.agg r).map .d = some w)
    (h : OpsK P T base ops dr l ⟨(t,w)::sl,hp,nx⟩ K) (hF : okF dr l.length (fp ⟨sl,hp,nx⟩ (.load xt p)) = true:=by rfl) : OpsK P T base ops dr (⟨some t,.load xt p,ty,pos,af,g⟩::l) ⟨sl,hp,nx⟩ K:=
  qb3 hg hT hx hb (by rw [List.getElem?_map,(qas hv).2.1];rfl) hs hw h hF
theorem Qt {α : Type} {p x : Operand} {xt : TypeId} {i : TI} {m es j : Nat} {n : Int} {xs : List α} {enc : α→List DV} {v : α} (v' : α) {u : V} {ds : List DV} (hv : idx xs n = some v) (hg : Qk ops ⟨sl,hp,nx⟩ ⟨none,.store xt p x,ty,pos,af,g⟩ = some true) (hT : T xt = some i)
    (hp' : AS.ev ⟨sl,hp,nx⟩ p = some (.ref m es n.toNat j)) (hx : AS.ev ⟨sl,hp,nx⟩ x = some u) (hb : find hp m = some (.dat es (xs.map enc))) (hc : cellsOf u = ds.map .d) (hl : ds.length = i.size) (hk : ds.all Ze = true) (hj : j + i.size≤(enc v).length) (hs : splice (enc v) j ds = enc v')
    (h : OpsK P T base ops dr l ⟨sl,repl hp m (.dat es ((xs.set n.toNat v').map enc)),nx⟩ K) (hF : okO dr l.length ⟨sl,hp,nx⟩ (.store xt p x) ⟨sl,repl hp m (.dat es ((xs.set n.toNat v').map enc)),nx⟩ = true:=by rfl) : OpsK P T base ops dr (⟨none,.store xt p x,ty,pos,af,g⟩::l) ⟨sl,hp,nx⟩ K:=by
  refine Y7 hg (v:=.dead) (st1:=⟨sl,repl hp m (.dat es ((xs.set n.toNat v').map enc)),nx⟩) ?_ h hF
  have hall : (cellsOf u).all K9 = true:=by rw [hc,List.all_map];exact hk
  have hlen : (cellsOf u).length = i.size:=by rw [hc];simpa using hl
  have hrow : (xs.map enc)[n.toNat]? = some (enc v):=by rw [List.getElem?_map,(qas hv).2.1];rfl
  simp only [opFn,hT,hp',hx,Ja,AS.blk,hb,Nat.beq_refl,hrow]
  rw [if_neg (by simp [hall,hlen]),if_pos hj,hc,qct]
  simp only [hs,List.map_set,AS.setBlk]
  rfl
theorem qk2 {α : Type} {x : Operand} {xt : TypeId} {i : TI} {es : Nat} {xs : List α} {enc : α→List DV} (hg : Qk ops ⟨sl,hp,nx⟩ ⟨some t,.call {callee:=.builtin .len,args:=#[x],argTypes:=#[xt]},ty,pos,af,g⟩ = some true) (hT : T xt = some i) (hk : i.kind = .slice) (hx : AS.ev ⟨sl,hp,nx⟩ x = some (.d (.sl es (xs.map enc))))
    (h : OpsK P T base ops dr l ⟨(t,.d (.int .i64 (xs.length : Int)))::sl,hp,nx⟩ K) : OpsK P T base ops dr (⟨some t,.call {callee:=.builtin .len,args:=#[x],argTypes:=#[xt]},ty,pos,af,g⟩::l) ⟨sl,hp,nx⟩ K:=
  qry hg hT hk hx qf h
theorem Yr {α : Type} {x y : Operand} {st0 xt : TypeId} {i j : TI} {n es len : Nat} {xs ys zs : List α} {enc : α→List DV} (yv : V) (hz : app i.ebytes xs ys = some zs) (hlen : len = xs.length) (hg : Qk ops ⟨sl,hp,nx⟩ ⟨some t,.call {callee:=.builtin .append,args:=#[x,y],argTypes:=#[st0,xt]},ty,pos,af,g⟩ = some true)
    (hT : T st0 = some i) (hT2 : T xt = some j) (hx : AS.ev ⟨sl,hp,nx⟩ x = some (.hs n es 0 len)) (hy : AS.ev ⟨sl,hp,nx⟩ y = some yv) (hb : find hp n = some (.dat es (xs.map enc))) (hc : Yy ⟨sl,hp,nx⟩ yv = some (ys.map enc))
    (hk : i.kind = .slice) (hk2 : j.kind = .slice) (he : es = i.esize) (hf : Jm i.esize yv = true)
    (h : OpsK P T base ops dr l ⟨(t,.hs nx es 0 zs.length)::sl,(nx,.dat es (zs.map enc))::repl hp n .dead,nx + 1⟩ K) (hF : okF dr l.length (fp ⟨sl,hp,nx⟩ (.call {callee:=.builtin .append,args:=#[x,y],argTypes:=#[st0,xt]})) = true:=by rfl) : OpsK P T base ops dr (⟨some t,.call {callee:=.builtin .append,args:=#[x,y],argTypes:=#[st0,xt]},ty,pos,af,g⟩::l) ⟨sl,hp,nx⟩ K:=by
  subst hlen
  unfold app at hz
  split at hz
  · rename_i hr
    cases hz
    refine qrq hg hT hT2 hx hy hb qf hc hk hk2 he hf (by simpa [Nat.mul_assoc] using hr) ?_ hF
    simpa using h
  · cases hz
theorem Yo {α : Type} {n es len : Nat} {ys : List α} {enc : α→List DV} (hlen : len = ys.length) (hb : find hp n = some (.dat es (ys.map enc))) : Yy ⟨sl,hp,nx⟩ (.hs n es 0 len) = some (ys.map enc):=by
  subst hlen
  simp only [Yy,AS.blk,hb]
  rw [if_pos qf,List.drop_zero,List.take_of_length_le qf]
theorem qs4 {α : Type} {x : Operand} {xt : TypeId} {lo hi : Option Operand} {i : TI} {es : Nat} {a b : Int} {xs zs : List α} {enc : α→List DV} (hz : slc xs a b = some zs) (hg : Qk ops ⟨sl,hp,nx⟩ ⟨some t,.slice xt x lo hi none,ty,pos,af,g⟩ = some true) (hT : T xt = some i) (hk : i.kind = .slice) (he : es = i.esize)
    (hx : AS.ev ⟨sl,hp,nx⟩ x = some (.d (.sl es (xs.map enc)))) (hlo : 0≤a→bound ⟨sl,hp,nx⟩ 0 lo = some a.toNat) (hhi : 0≤b→bound ⟨sl,hp,nx⟩ xs.length hi = some b.toNat)
    (h : OpsK P T base ops dr l ⟨(t,.d (.sl es (zs.map enc)))::sl,hp,nx⟩ K) : OpsK P T base ops dr (⟨some t,.slice xt x lo hi none,ty,pos,af,g⟩::l) ⟨sl,hp,nx⟩ K:=by
  unfold slc at hz
  split at hz
  · rename_i hr
    cases hz
    refine Y7 hg (v:=.d (.sl es ((((xs.drop a.toNat).take (b.toNat - a.toNat))).map enc))) (st1:=⟨sl,hp,nx⟩) ?_ h (Zq rfl)
    simp only [opFn,hT,hx,hk,lenV,List.length_map,hlo hr.1,hhi q7,q8c]
    rw [if_pos ⟨trivial,rfl⟩]
    rw [if_pos ⟨q7,by simp;omega,he⟩]
    simp [List.map_take,List.map_drop]
  · cases hz
theorem qa2 {o : Operand} {k : IntKind} {a : Int} {d : Nat} {st : AS} (h : st.ev o = some (.d (.int k a))) (h0 : 0≤a) : bound st d (some o) = some a.toNat:=by
  simp [bound,h,h0]
theorem qeg {x : Operand} {xt : TypeId} {lo hi : Option Operand} {i : TI} {n es len : Nat} {a b : Int} {w : Nat × Nat} (hz : sub2 len a b = some w) (hg : Qk ops ⟨sl,hp,nx⟩ ⟨some t,.slice xt x lo hi none,ty,pos,af,g⟩ = some true) (hT : T xt = some i) (hk : i.kind = .slice) (he : es = i.esize)
    (hx : AS.ev ⟨sl,hp,nx⟩ x = some (.hs n es 0 len)) (hlo : 0≤a→bound ⟨sl,hp,nx⟩ 0 lo = some a.toNat) (hhi : 0≤b→bound ⟨sl,hp,nx⟩ len hi = some b.toNat)
    (h : OpsK P T base ops dr l ⟨(t,.hs n es w.1 w.2)::sl,hp,nx⟩ K) : OpsK P T base ops dr (⟨some t,.slice xt x lo hi none,ty,pos,af,g⟩::l) ⟨sl,hp,nx⟩ K:=by
  unfold sub2 at hz
  split at hz
  · rename_i hr
    cases hz
    refine Y7 hg (v:=.hs n es a.toNat (b.toNat - a.toNat)) (st1:=⟨sl,hp,nx⟩) ?_ h (Zq rfl)
    simp only [opFn,hT,hx,hk,lenV,hlo hr.1,hhi q7,q8c]
    rw [if_pos ⟨trivial,rfl⟩]
    rw [if_pos ⟨q7,q7,he⟩]
    simp
  · cases hz
theorem qmd {n : Nat} {a b : Int} {w : Nat × Nat} (h : sub2 n a b = some w) : w.1 + w.2≤n:=by
  unfold sub2 at h
  split at h
  · cases h;simp only;omega
  · cases h
theorem Um {k k' : IntKind} {a b : Int} {r : List V} : minI false (.d (.int k a)) (.d (.int k' b)::r) = minI false (.d (.int k (min a b))) r:=by
  simp only [minI]
  congr 3
  simp only [cond_false]
  split <;> omega
theorem Ul {k k' : IntKind} {a b : Int} {r : List V} : minI true (.d (.int k a)) (.d (.int k' b)::r) = minI true (.d (.int k (max a b))) r:=by
  simp only [minI]
  congr 3
  simp only [cond_true]
  split <;> omega
theorem Uo {xs : Array Operand} {ats : Array TypeId} {vs : List V} {k : IntKind} {a : Int} {r : Int} (hg : Qk ops ⟨sl,hp,nx⟩ ⟨some t,.call {callee:=.builtin .min,args:=xs,argTypes:=ats},ty,pos,af,g⟩ = some true) (hx : evL (AS.ev ⟨sl,hp,nx⟩) xs.toList = some (.d (.int k a)::vs)) (hr : minI false (.d (.int k a)) vs = some (.d (.int k r)))
    (h : OpsK P T base ops dr l ⟨(t,.d (.int k r))::sl,hp,nx⟩ K) : OpsK P T base ops dr (⟨some t,.call {callee:=.builtin .min,args:=xs,argTypes:=ats},ty,pos,af,g⟩::l) ⟨sl,hp,nx⟩ K:=
  Y7 hg (v:=.d (.int k r)) (st1:=⟨sl,hp,nx⟩) (by simp [opFn,hx,Y2,hr]) h (Zq rfl)
theorem Un {xs : Array Operand} {ats : Array TypeId} {vs : List V} {k : IntKind} {a : Int} {r : Int} (hg : Qk ops ⟨sl,hp,nx⟩ ⟨some t,.call {callee:=.builtin .max,args:=xs,argTypes:=ats},ty,pos,af,g⟩ = some true) (hx : evL (AS.ev ⟨sl,hp,nx⟩) xs.toList = some (.d (.int k a)::vs)) (hr : minI true (.d (.int k a)) vs = some (.d (.int k r)))
    (h : OpsK P T base ops dr l ⟨(t,.d (.int k r))::sl,hp,nx⟩ K) : OpsK P T base ops dr (⟨some t,.call {callee:=.builtin .max,args:=xs,argTypes:=ats},ty,pos,af,g⟩::l) ⟨sl,hp,nx⟩ K:=
  Y7 hg (v:=.d (.int k r)) (st1:=⟨sl,hp,nx⟩) (by simp [opFn,hx,Y2,hr]) h (Zq rfl)
theorem q4z {c : Call} {f : FuncId} {ds : List DV} {r : DV} (vs : List V) (hpu : Pure P T f ds r) (hg : Qk ops ⟨sl,hp,nx⟩ ⟨some t,.call c,ty,pos,af,g⟩ = some true) (hc : callee ⟨sl,hp,nx⟩ c = some (f,vs)) (hd : Kg hp vs = some ds)
    (hs : (vs.all V.isD = true∨r.scalar = true)) (h : OpsK P T base ops dr l ⟨(t,.d r)::sl,hp,nx⟩ K) (hF : okF dr l.length (fpC vs) = true:=by rfl) : OpsK P T base ops dr (⟨some t,.call c,ty,pos,af,g⟩::l) ⟨sl,hp,nx⟩ K:=
  qk1 hg rfl hc hd hs hpu h hF
theorem Ju {hp : List (Nat × Blk)} {v : V} {d : DV} {vs : List V} {ds : List DV} (h : toD hp 8 v = some d) (h2 : Kg hp vs = some ds) : Kg hp (v::vs) = some (d::ds):=by
  simp [Kg,h,h2]
theorem Jb {α : Type} {k n es len : Nat} {ys : List α} {enc : α→List DV} (hlen : len = ys.length) (hb : find hp n = some (.dat es (ys.map enc))) : toD hp (k + 1) (.hs n es 0 len) = some (.sl es (ys.map enc)):=by
  subst hlen
  simp only [toD,hb]
  rw [if_pos qf,List.drop_zero,List.take_of_length_le qf]
theorem q6y {k : Nat} {vs : List V} {ds : List DV} (h : Zg (toD hp k) vs = some ds) : toD hp (k + 1) (.tup vs) = some (.tup ds):=by simp [toD,h]
theorem Jp {k : Nat} {v : V} {d : DV} {vs : List V} {ds : List DV} (h : toD hp k v = some d) (h2 : Zg (toD hp k) vs = some ds) : Zg (toD hp k) (v::vs) = some (d::ds):=by simp [Zg,h,h2]
inductive DLeL : List DV→List DV→Prop
  | nil : DLeL [] []
  | cons {x y : DV} {xs ys : List DV} : DLe x y→DLeL xs ys→DLeL (x::xs) (y::ys)
theorem DLeL.len {xs ys : List DV} (h : DLeL xs ys) : xs.length = ys.length:=by
  induction h with
  | nil=>rfl
  | cons _ _ ih=>simp [ih]
theorem DLeL.get {xs ys : List DV} (h : DLeL xs ys) : ∀ (i : Nat) (x y : DV),xs[i]? = some x→ys[i]? = some y→DLe x y:=by
  induction h with
  | nil=>intro i x y h;simp at h
  | cons h1 _ ih=>
    intro i x y hx hy
    cases i with
    | zero=>simp at hx hy;subst hx hy;exact h1
    | succ i=>exact ih i x y (by simpa using hx) (by simpa using hy)
theorem Yc {xs ys : List DV} (h : DLeL xs ys) : DLe (.tup xs) (.tup ys):=.tup h.len h.get
theorem finD {ex : Ex} {st : AS} {rs : List ResultVar} {v : V} {r r' : DV} (hx : ex = .nor∨ex = .ret) (hv : resV T st rs = some v) (ht : toD st.hp 8 v = some r') (he : DLe r' r) : (ex = .nor∨ex = .ret)∧∃ v r',resV T st rs = some v∧toD st.hp 8 v = some r'∧DLe r' r:=
  ⟨hx,v,r',hv,ht,he⟩
end
theorem qn0 {α : Type} {st : AS} {ρ : Nat→Nat} {fz ph : List Nat} {nx n es len : Nat} {ys : List α} {enc : α→List DV} (hl : len = ys.length) (hb : st.blk n = some (.dat es (ys.map enc))) (hn : n∈fz) : Wv st ρ fz ph nx (.hs n es 0 len) (.d (.sl es (ys.map enc))):=by
  subst hl
  exact .frz hb hn qf (by rw [List.drop_zero,List.take_of_length_le qf]) rfl
theorem Qx {st : AS} {ρ : Nat→Nat} {fz ph : List Nat} {nx n m es o l l' : Nat} (hl : l = l') (h1 : ρ m = n) (h2 : m ∉ ph) (h3 : m < nx) : Wv st ρ fz ph nx (.hs n es o l) (.hs m es o l'):=hl ▸ .hs h1 h2 h3
inductive WvC (st : AS) (ρ : Nat→Nat) (fz ph : List Nat) (nx : Nat) : List V→List V→Prop
  | nil : WvC st ρ fz ph nx [] []
  | cons {c d : V} {cs ds : List V} : Wv st ρ fz ph nx c d→K9 d = true→WvC st ρ fz ph nx cs ds→WvC st ρ fz ph nx (c::cs) (d::ds)
theorem WvC.len {st : AS} {ρ : Nat→Nat} {fz ph : List Nat} {nx : Nat} {cs ds : List V} (h : WvC st ρ fz ph nx cs ds) : cs.length = ds.length:=by
  induction h with
  | nil=>rfl
  | cons _ _ _ ih=>simp [ih]
theorem WvC.get {st : AS} {ρ : Nat→Nat} {fz ph : List Nat} {nx : Nat} {cs ds : List V} (h : WvC st ρ fz ph nx cs ds) : ∀ (j : Nat) (c d : V),cs[j]? = some c→ds[j]? = some d→Wv st ρ fz ph nx c d∧K9 d = true:=by
  induction h with
  | nil=>intro i x y h;simp at h
  | cons h1 h2 _ ih=>
    intro i x y hx hy
    cases i with
    | zero=>simp at hx hy;subst hx hy;exact ⟨h1,h2⟩
    | succ i=>exact ih i x y (by simpa using hx) (by simpa using hy)
theorem Zt {st : AS} {ρ : Nat→Nat} {fz ph : List Nat} {nx es : Nat} {cs ds : List V} (h : WvC st ρ fz ph nx cs ds) : Wb st ρ fz ph nx (.cel es [cs]) (.cel es [ds]):=by
  refine .cel rfl fun i x y hx hy=>?_
  cases i with
  | zero=>simp at hx hy;subst hx hy;exact ⟨h.len,h.get⟩
  | succ i=>simp at hx
theorem qfx {st : AS} {ρ : Nat→Nat} {fz ph : List Nat} {nx es : Nat} {cs : List DV} {ds : List V} (h : WvC st ρ fz ph nx (cs.map .d) ds) : Wb st ρ fz ph nx (.dat es [cs]) (.cel es [ds]):=by
  refine .datcel rfl fun i x y hx hy=>?_
  cases i with
  | zero=>
    simp at hx hy;subst hx hy
    exact ⟨by simpa using h.len,fun j c d hc hd=>h.get j (.d c) d (by simp [hc]) hd⟩
  | succ i=>simp at hx
inductive WvL (st : AS) (ρ : Nat→Nat) (fz ph : List Nat) (nx : Nat) : List V→List V→Prop
  | nil : WvL st ρ fz ph nx [] []
  | cons {c d : V} {cs ds : List V} : Wv st ρ fz ph nx c d→WvL st ρ fz ph nx cs ds→WvL st ρ fz ph nx (c::cs) (d::ds)
theorem WvL.len {st : AS} {ρ : Nat→Nat} {fz ph : List Nat} {nx : Nat} {cs ds : List V} (h : WvL st ρ fz ph nx cs ds) : cs.length = ds.length:=by
  induction h with
  | nil=>rfl
  | cons _ _ ih=>simp [ih]
theorem WvL.get {st : AS} {ρ : Nat→Nat} {fz ph : List Nat} {nx : Nat} {cs ds : List V} (h : WvL st ρ fz ph nx cs ds) : ∀ (j : Nat) (c d : V),cs[j]? = some c→ds[j]? = some d→Wv st ρ fz ph nx c d:=by
  induction h with
  | nil=>intro i x y h;simp at h
  | cons h1 _ ih=>
    intro i x y hx hy
    cases i with
    | zero=>simp at hx hy;subst hx hy;exact h1
    | succ i=>exact ih i x y (by simpa using hx) (by simpa using hy)
theorem q1u {st : AS} {ρ : Nat→Nat} {fz ph : List Nat} {nx : Nat} {f : FuncId} {cs ds : List V} (h : WvL st ρ fz ph nx cs ds) : Wv st ρ fz ph nx (.fn f cs) (.fn f ds):=.fn h.len h.get
theorem qg0 {st : AS} {ρ : Nat→Nat} {fz ph : List Nat} {nx : Nat} {cs ds : List V} (h : WvL st ρ fz ph nx cs ds) : Wv st ρ fz ph nx (.tup cs) (.tup ds):=.tup h.len h.get
theorem q112 {st : AS} {ρ : Nat→Nat} {fz ph : List Nat} {nx : Nat} {cs : List DV} {ds : List V} (h : WvL st ρ fz ph nx (cs.map .d) ds) : Wv st ρ fz ph nx (.d (.tup cs)) (.tup ds):=
  .dtup (by have:=h.len;simpa using this) fun i c d hc hd=>h.get i _ d (by simp [hc]) hd
theorem q111 {st : AS} {ρ : Nat→Nat} {fz ph : List Nat} {nx : Nat} {cs : List DV} {ds : List V} (h : WvL st ρ fz ph nx (cs.map .d) ds) : Wv st ρ fz ph nx (.d (.agg cs)) (.agg ds):=
  .dagg (by have:=h.len;simpa using this) fun i c d hc hd=>h.get i _ d (by simp [hc]) hd
theorem qch {st : AS} {ρ : Nat→Nat} {fz ph : List Nat} {nx : Nat} {cs ds : List V} (h : WvL st ρ fz ph nx cs ds) : Wv st ρ fz ph nx (.agg cs) (.agg ds):=.agg h.len h.get
theorem qht {P : Program} {T : Tab} {f : FuncId} {ds ds' : List DV} (hl : DLeL ds' ds) {vs : List V} {hp hp' : List (Nat × Blk)} {nx nx' : Nat} {v : V} : K0 P T f vs hp nx v hp' nx'→vs = ds.map .d→hp = []→nx = 0→K0 P T f (ds'.map .d) [] 0 v hp' nx'
  | .wk e w,hv,hh,hn=>by
    have h:=qht hl e hv hh hn
    subst hh hn
    exact .wk h w
  | .mk h1 h2 h3 h4 h5 h6 h7 h8,hv,hh,hn=>by
    subst hv hh hn
    refine .mk h1 h2 h3 h4 (by simpa [hl.len] using h5) (.wk (ρ:=fun n=>n) (fz:=[]) (ph:=[]) ⟨?_,?_,?_,?_,?_,?_,?_,?_⟩ h6) h7 h8
    · intro t v' hv
      simp only [AS.get,qa0] at hv ⊢
      simp only [Nat.zero_le,if_true,Nat.sub_zero,List.getElem?_map,Option.map_eq_some_iff] at hv ⊢
      obtain ⟨y,hy,rfl⟩:=hv
      obtain ⟨x,hx⟩:=Zc (xs:=ds') (i:=t) (by rw [hl.len];exact K5 hy)
      exact ⟨_,⟨x,hx,rfl⟩,.d (hl.get t x y hx hy)⟩
    · intro n b h;simp [AS.blk,find] at h
    · intro n m b c h;simp [AS.blk,find] at h
    · intro n b h;simp [AS.blk,find] at h
    · intro n h;rfl
    · exact Nat.le_refl _
    · intro n h;cases h
    · intro n h;cases h
theorem qkj {P : Program} {T : Tab} {f : FuncId} {ds ds' : List DV} {r : DV} (hl : DLeL ds' ds) (h : Pure P T f ds r) : Pure P T f ds' r:=by
  obtain ⟨v,hp,nx,r',e,ht,hle⟩:=h
  exact ⟨v,hp,nx,r',qht hl e rfl rfl rfl,ht,hle⟩
end Go.Am
namespace Go.Sh
open Go Go.Am
theorem K1 {α : Type} {xs : List α} {k : Nat} (h : k < xs.length) : idx xs (k : Int) = some xs[k]:=by simp [idx,h]
theorem J2 {α : Type} {xs : List α} {i : Int} {k : Nat} (hi : i = k) (h : k < xs.length) : idx xs i = some xs[k]:=by subst hi;exact K1 h
theorem Za {α : Type} {c : Nat} {xs ys : List α} (h : (xs.length + ys.length) * (c * 4)≤4294967296) : app c xs ys = some (xs ++ ys):=by simp [app,h]
theorem qp1 {α : Type} {c : Bool} {a b : α} : (cond c (some a) (some b)) = some (cond c a b):=by cases c <;> rfl
theorem J4 {α β σ : Type} {f : α→Option (α ⊕ β)} (mk : Nat→σ→α) (n : Nat) (I : Nat→σ→Prop) (Q : β→Prop)
    (step : ∀ k c,k < n→I k c→(∃ c',f (mk k c) = some (.inl (mk (k + 1) c'))∧I (k + 1) c')∨∃ b,f (mk k c) = some (.inr b)∧Q b)
    (done : ∀ c,I n c→∃ b,f (mk n c) = some (.inr b)∧Q b) {k0 : Nat} {c0 : σ} (hk : k0≤n) (h0 : I k0 c0) : ∃ b,loop f (mk k0 c0) = some b∧Q b:=by
  have key : ∀ m k c,n - k = m→k≤n→I k c→∃ b,loop f (mk k c) = some b∧Q b:=by
    intro m
    induction m with
    | zero=>
      intro k c hm hk hi
      obtain rfl : k = n:=by omega
      obtain ⟨b,h1,h2⟩:=done c hi
      exact ⟨b,K8 h1,h2⟩
    | succ m ih=>
      intro k c hm hk hi
      rcases step k c q7 hi with ⟨c',h1,h2⟩ | ⟨b,h1,h2⟩
      · rw [Qv h1];exact ih (k + 1) c' q7 q7 h2
      · exact ⟨b,K8 h1,h2⟩
  exact key _ k0 c0 rfl hk h0
def I64 (x : Int) : Prop:=-9223372036854775808≤x∧x≤9223372036854775807
end Go.Sh
namespace Go.Am
open Go
theorem q11h {k : IntKind} {d : DV} (h : Ty (.int k) d) : ∃ n : Int,d = .int k n∧(Lit.int k n).wf = true:=by
  cases h with | int hw=>exact ⟨_,rfl,hw⟩
def q9w (l : List CT) (x : List DV) : Prop:=x.length = l.length∧∀ (j : Nat) (c : CT) (d : DV),l[j]? = some c→x[j]? = some d→Ty c d
theorem q11f {x : List DV} (h : q9w [] x) : x = []:=List.length_eq_zero_iff.1 h.1
theorem q11e {c : CT} {l : List CT} {x : List DV} (h : q9w (c::l) x) : ∃ d r,x = d::r∧Ty c d∧q9w l r:=by
  obtain ⟨h1,h2⟩:=h
  cases x with
  | nil=>simp at h1
  | cons d r=>exact ⟨d,r,rfl,h2 0 c d rfl rfl,by simpa using h1,fun j c' d' hc hd=>h2 (j + 1) c' d' (by simpa using hc) (by simpa using hd)⟩
theorem q11j {n : Int} (h : (Lit.int .i64 n).wf = true) : -9223372036854775808≤n∧n≤9223372036854775807:=by
  simp [Lit.wf,IntKind.min,IntKind.max,IntKind.signed,IntKind.bits] at h
  omega
theorem q119 {xs : List DV} (h : Jc [] xs) : xs = []:=by cases h;rfl
theorem q11a {c : CT} {ps : List (Bool × List CT)} {xs : List DV} (h : Jc ((false,[c])::ps) xs) : ∃ d r,xs = d::r∧Ty c d∧Jc ps r:=by
  cases h with | one h1 h2=>exact ⟨_,_,rfl,h1,h2⟩
theorem q118 {l : List CT} {ps : List (Bool × List CT)} {xs : List DV} (h : Jc ((true,l)::ps) xs) : ∃ x r,xs = .agg x::r∧q9w l x∧Jc ps r:=by
  cases h with | agg h1 h2 h3=>exact ⟨_,_,rfl,⟨h1,h2⟩,h3⟩
end Go.Am
