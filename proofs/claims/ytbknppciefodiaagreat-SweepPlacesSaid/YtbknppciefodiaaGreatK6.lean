/- Am26 Am27 Am28 Am29 Am30 Am31 Lf1 Pl0 Lf2 -/
import Derived.Test.YtbknppciefodiaaGreatK5
import Derived.ProofKit
import Derived.OpenShut
import Derived.Deep.Slices
namespace Go.Am
open Go
variable {P : Program} {T : Tab}
def wpL (F : Fence) (P : Program) (c : Code) (Q : Exit→Act→World→Prop) (a : Act) (w : World) : Prop:=
  ∀ (b : Frame) (k : List Item) (cs : List Frame),b.roundOf = F.round→F.fn b.fn→F.room (cs.length + 1 + 0)→
    ∃ e a' w',Q e a' w'∧ArrivesIn (Machine.fenced P F) P (lone (b.atR a (.code c::.inLoop c::k)) cs w) b k cs e a' w'
theorem qr3 {F : Fence} {c : Code} {Q : Exit→Act→World→Prop} {a : Act} {w : World} (h : c.wpIn F 0 P (Exit.then (wpL F P c Q) Q) a w) : wpL F P c Q a w:=by
  intro b k cs n hb o;obtain ⟨e,m,j,g,d⟩:=h b (.inLoop c::k) cs n hb o
  cases e with
  | normal=>
    obtain ⟨q,s,r,p,f⟩:=g b k cs n hb o;exact ⟨q,s,r,p,.of_steps (StepsIn.trans d (.one (fenced_calm hb o rfl) stepR_inLoop)) f⟩
  | exit id=>exact ⟨_,m,j,g,.pass (x:=.inLoop c) rfl (fun _ _=>.inl qg) d⟩
  | goto l=>exact ⟨_,m,j,g,.pass (x:=.inLoop c) rfl (fun _ _=>.inl qg) d⟩
  | ret=>exact ⟨_,m,j,g,.pass (x:=.inLoop c) rfl (fun _ _=>.inl qg) d⟩
  | panic ch=>exact ⟨_,m,j,g,.pass (x:=.inLoop c) rfl (fun _ _=>.inl qg) d⟩
  | outgrown=>exact ⟨_,m,j,g,.pass (x:=.inLoop c) rfl (fun _ _=>.inl qg) d⟩
theorem q16k {F : Fence} {c : Code} {Q : Exit→Act→World→Prop} {a : Act} {w : World} (h : wpL F P c Q a w) : (Code.loop c).wpIn F 0 P Q a w:=by
  intro b k cs f hb g;obtain ⟨e,a',w',j,d⟩:=h b k cs f hb g;exact ⟨e,a',w',j,.of_steps (.one (fenced_calm hb g rfl) stepR_loop) d⟩
theorem qr2 {F : Fence} {c : Code} {Q d : Exit→Act→World→Prop} {a : Act} {w : World} (h : wpL F P c Q a w) (j : ∀ e a w,Q e a w→d e a w) : wpL F P c d a w:=
  fun b k cs l f g=>let ⟨e,a',w',q,r⟩:=h b k cs l f g;⟨e,a',w',j _ _ _ q,r⟩
def CP (base : Nat) (w : World) (Z : Nat→Prop) (inj : Inj) (st : AS) (a : Act) (Ds : List Nat) (ex : Ex) (st' : AS) (e : Exit) (a' : Act) (w' : World) : Prop:=e = toE ex∧Y3 base w Z inj st a Ds st' a' w'
def Y5 (P : Program) (base : Nat) (c : Code) (st : AS) (ex : Ex) (st' : AS) : Prop:=
  ∀ (ro : Option Nat) (w : World) (Z : Nat→Prop) (inj : Inj) (a : Act) (Ds : List Nat),RelS w Z inj st a Ds→codeOk a.tmps.size c = true→base≤st.nx→Yo ro w→
    c.wpIn (Fw ro) 0 P (CP base w Z inj st a Ds ex st') a w∧∀ d,c = .loop d→wpL (Fw ro) P d (CP base w Z inj st a Ds ex st') a w
section
variable {base : Nat} {st st1 st2 : AS} {ex : Ex}
theorem Ui {c : Code} (g : ∀ d,c≠.loop d) (h : ∀ (ro : Option Nat) (w : World) (Z : Nat→Prop) (inj : Inj) (a : Act) (Ds : List Nat),RelS w Z inj st a Ds→codeOk a.tmps.size c = true→base≤st.nx→Yo ro w→
    c.wpIn (Fw ro) 0 P (CP base w Z inj st a Ds ex st1) a w) : Y5 P base c st ex st1:=
  fun ro w Z inj a Ds k f b j=>⟨h ro w Z inj a Ds k f b j,fun d hd=>absurd hd (g d)⟩
theorem Y3.round {w : World} {Z : Nat→Prop} {inj : Inj} {a : Act} {Ds : List Nat} {a' : Act} {w' : World} {ro : Option Nat} (h : Y3 base w Z inj st a Ds st1 a' w') (b : Yo ro w) : Yo ro w':=by
  obtain ⟨_,_,_,_,e,_⟩:=h;exact b.ext e
theorem qsr : Y5 P base .skip st .nor st:=
  Ui qg fun ro w Z inj a Ds h _ hb _=>wpIn_skip ⟨rfl,Y3.refl h hb⟩
theorem qsi {id : Nat} : Y5 P base (.exit id) st (.exit id) st:=
  Ui qg fun ro w Z inj a Ds h _ hb _=>wpIn_exit ⟨rfl,Y3.refl h hb⟩
theorem qso : Y5 P base .ret st .ret st:=
  Ui qg fun ro w Z inj a Ds h _ hb _=>wpIn_ret ⟨rfl,Y3.refl h hb⟩
theorem qsp {a b : Code} (n : Y5 P base a st .nor st1) (m : Y5 P base b st1 ex st2) : Y5 P base (.seq a b) st ex st2:=by
  refine Ui qg fun ro w Z inj act Ds h c hb k=>wpIn_seq (wpIn_mono (n ro w Z inj act Ds h ?_ hb k).1 ?_)
  · simp only [codeOk,Bool.and_eq_true] at c;exact c.1
  · rintro e a' w' ⟨rfl,hp⟩;refine hp.bind fun Z' inj' l j d g _ f=>?_;refine wpIn_mono (m ro w' Z' inj' a' l j ?_ g (hp.round k)).1 ?_
    · simp only [codeOk,Bool.and_eq_true] at c;rw [d];exact c.2
    · rintro e p o ⟨rfl,hp2⟩;exact ⟨rfl,f _ _ _ hp2⟩
theorem qsq {a b : Code} (g : Y5 P base a st ex st1) (f : ex≠.nor) : Y5 P base (.seq a b) st ex st1:=by
  refine Ui qg fun ro w Z inj act Ds h c hb d=>wpIn_seq (wpIn_mono (g ro w Z inj act Ds h ?_ hb d).1 ?_)
  · simp only [codeOk,Bool.and_eq_true] at c;exact c.1
  · rintro e a' w' ⟨rfl,hp⟩
    cases ex with
    | nor=>exact absurd rfl f
    | exit id=>exact ⟨rfl,hp⟩
    | ret=>exact ⟨rfl,hp⟩
theorem qsh {c : Operand} {a b : Code} (k : st.ev c = some (.d (.bool true))) (j : Y5 P base a st ex st1) : Y5 P base (.cond c a b) st ex st1:=by
  refine Ui qg fun ro w Z inj act Ds h f hb g=>wpIn_cond_true ?_ (j ro w Z inj act Ds h ?_ hb g).1
  · have:=Kd h k;generalize act.eval c = x at this
    cases this with | d this=>cases this;rfl
  · simp only [codeOk,Bool.and_eq_true] at f;exact f.1
theorem qsg {c : Operand} {a b : Code} (k : st.ev c = some (.d (.bool false))) (j : Y5 P base b st ex st1) : Y5 P base (.cond c a b) st ex st1:=by
  refine Ui qg fun ro w Z inj act Ds h f hb g=>wpIn_cond_false ?_ (j ro w Z inj act Ds h ?_ hb g).1
  · have:=Kd h k;generalize act.eval c = x at this
    cases this with | d this=>cases this;rfl
  · simp only [codeOk,Bool.and_eq_true] at f;exact f.2
theorem qsf {id : Nat} {a : Code} (d : Y5 P base a st ex st1) : Y5 P base (.block id a) st (ex.block id) st1:=by
  refine Ui qg fun ro w Z inj act Ds h b hb c=>wpIn_block (wpIn_mono (d ro w Z inj act Ds h b hb c).1 ?_);rintro e a' w' ⟨rfl,hp⟩
  cases ex with
  | nor=>exact ⟨rfl,hp⟩
  | ret=>exact ⟨rfl,hp⟩
  | exit i=>
    by_cases hi : i = id
    · simp only [toE,Exit.inBlock,hi,if_true,Ex.block];exact ⟨rfl,hp⟩
    · simp only [toE,Exit.inBlock,hi,if_false,Ex.block];exact ⟨rfl,hp⟩
theorem qk7 {a : Code} (h : ∀ (ro : Option Nat) (w : World) (Z : Nat→Prop) (inj : Inj) (act : Act) (Ds : List Nat),RelS w Z inj st act Ds→codeOk act.tmps.size (.loop a) = true→base≤st.nx→Yo ro w→
    wpL (Fw ro) P a (CP base w Z inj st act Ds ex st1) act w) : Y5 P base (.loop a) st ex st1:=
  fun ro w Z inj act Ds g c b f=>⟨q16k (h ro w Z inj act Ds g c b f),fun d hd=>by cases hd;exact h ro w Z inj act Ds g c b f⟩
theorem qsj {a : Code} (m : Y5 P base a st .nor st1) (l : Y5 P base (.loop a) st1 ex st2) : Y5 P base (.loop a) st ex st2:=by
  refine qk7 fun ro w Z inj act Ds h f hb j=>qr3 (wpIn_mono (m ro w Z inj act Ds h f hb j).1 ?_);rintro e a' w' ⟨rfl,hp⟩;refine hp.bind fun Z' inj' k g b d _ c=>?_;refine qr2 ((l ro w' Z' inj' a' k g (by rw [b];exact f) d (hp.round j)).2 a rfl) ?_;rintro e o n ⟨rfl,hp2⟩;exact ⟨rfl,c _ _ _ hp2⟩
theorem qsk {a : Code} (d : Y5 P base a st ex st1) (f : ex≠.nor) : Y5 P base (.loop a) st ex st1:=by
  refine qk7 fun ro w Z inj act Ds h b hb c=>qr3 (wpIn_mono (d ro w Z inj act Ds h b hb c).1 ?_);rintro e a' w' ⟨rfl,hp⟩
  cases ex with
  | nor=>exact absurd rfl f
  | exit id=>exact ⟨rfl,hp⟩
  | ret=>exact ⟨rfl,hp⟩
theorem qss {ρ : Nat→Nat} {fz ph : List Nat} {c : Code} (k : Wk base ρ fz ph st st1) (u : Y5 P base c st1 ex st2) : Y5 P base c st ex st2:=by
  intro ro w Z inj a Ds h g hb j;obtain ⟨f,s⟩:=q2i h k
  have b : ∀ e a' w',CP base w (wkZ Z inj st fz) (wkI inj ρ ph) st1 a Ds ex st2 e a' w'→CP base w Z inj st a Ds ex st2 e a' w':=by
    rintro e a' w' ⟨rfl,t,q,p,x,r,l,n,v⟩;exact ⟨rfl,t,q,p,x,s.trans r (Nat.le_refl _),l,n,v⟩
  obtain ⟨m,o⟩:=u ro w _ _ a Ds f g k.bs j;exact ⟨wpIn_mono m b,fun d hd=>qr2 (o d hd) b⟩
theorem qsv {ops : Array Oper} {ro : Option Nat} {w0 : World} {Z0 : Nat→Prop} {inj0 : Inj} {c : AS} {n : Act} {Ds0 : List Nat} {Q : Exit→Act→World→Prop} {l : List Oper} {st st' : AS} (t : Zs P base ops l st st')
    (hd : ∀ o∈ops,Jh n.tmps.size o.dst = true) (q : ∀ a' w',Y3 base w0 Z0 inj0 c n Ds0 st' a' w'→Q .normal a' w') : ∀ (pre : List Oper) (a : Act) (w : World),ops.toList = pre ++ l→Y3 base w0 Z0 inj0 c n Ds0 st a w→Yo ro w→
    wpOpsIn (Fw ro) 0 P ops Q (List.range' pre.length l.length) a w:=by
  have one : ∀ {o : Oper} {l : List Oper} {st st1 st2 : AS},Jx P base ops o st st1→(∀ (pre : List Oper) (a : Act) (w : World),ops.toList = pre ++ l→Y3 base w0 Z0 inj0 c n Ds0 st1 a w→Yo ro w→wpOpsIn (Fw ro) 0 P ops Q (List.range' pre.length l.length) a w)→
      ∀ (pre : List Oper) (a : Act) (w : World),ops.toList = pre ++ o::l→Y3 base w0 Z0 inj0 c n Ds0 st a w→Yo ro w→wpOpsIn (Fw ro) 0 P ops Q (List.range' pre.length (o::l).length) a w:=by
    intro o l st st1 st2 hs k pre a w p hp d
    have r : ops[pre.length]? = some o:=by rw [← Array.getElem?_toList,p];simp
    rw [List.length_cons,List.range'_succ,wpOpsIn_cons]
    refine qin r ?_
    refine hp.bind fun Z' inj' g b f j _ h=>?_
    refine hs ro Q w Z' inj' a g _ b (by rw [f];exact hd o (Array.mem_of_getElem? r)) j d fun a' w' hp'=>?_
    have:=k (pre ++ [o]) a' w' (by rw [p];simp) (h _ _ _ hp') (hp'.round d)
    simpa using this
  induction t with
  | nil=>intro pre a w _ hp _;simpa [wpOpsIn] using q _ _ hp
  | cons hs _ k=>exact one (st2:=st) hs (k q)
  | wk hw _ k=>
    intro pre a w p hp d;refine k q pre a w p ?_ d;obtain ⟨Z',inj',g,u,s,v,y,x⟩:=hp;obtain ⟨b,m⟩:=q2i u hw;exact ⟨_,_,g,b,s.trans m (Nat.le_refl _),v,hw.bs,x⟩
theorem qsm {id : Nat} {ops : Array Oper} (f : Zs P base ops ops.toList st st1) : Y5 P base (.region id ops false) st .nor st1:=by
  refine Ui qg fun ro w Z inj a Ds h b hb c=>wpIn_region ?_
  have hd : ∀ o∈ops,Jh a.tmps.size o.dst = true:=by
    intro o d;simp only [codeOk,List.all_eq_true] at b;exact b o (by simpa using d)
  have:=qsv (Q:=CP base w Z inj st a Ds .nor st1) f hd (fun a' w' hp=>⟨rfl,hp⟩) [] a w rfl (Y3.refl h hb) c;rw [List.range_eq_range'];simpa using this
theorem qsn {id : Nat} {ops : Array Oper} {F : List Fp} (d : P.follows .mixedOrders = true) (f : Jw P base ops F ops.toList st st1) (hd : q9o F ops = true) : Y5 P base (.region id ops true) st .nor st1:=
  Ui qg fun ro w Z inj a Ds h b hb c=>qzd d (qtq hd) f h b hb c fun a' w' hp=>⟨rfl,hp⟩
theorem qur {ops : Array Oper} {o : Oper} {c : Call} {g : Operand} {n : Nat} {vs : List V} {s s1 s2 : List (Nat × V)} {j : List Tmp} {assign body : Code}
    (hg : Qz ops st o = some true) (ho : o.op = .call c) (v : c.callee = .value g) (av : st.ev g = some (.yld n)) (ay : evL st.ev c.args.toList = some vs)
    (z : st.blk n = some (.loop s j assign body .ready none)) (ak : j.length = vs.length)
    (h1 : Y5 P st.nx assign {sl:=q28 s j vs,hp:=st.hp,nx:=st.nx} .nor st1) (bj : st1.blk n = some (.loop s1 j assign body .ready none))
    (h2 : Y5 P st.nx body (st1.setBlk n (.loop s1 j assign body .busy none)) ex st2) (bm : st2.blk n = some (.loop s2 j assign body .busy none)) :
    Jx P base ops o st ({sl:=st.sl,hp:=repl st2.hp n (.loop s2 j assign body (if ex = .nor then .ready else .done) ex.code),nx:=st2.nx : AS}.putD o.dst (.d (.bool (decide (ex = .nor))))):=by
  intro ro Q w Z inj a Ds K h hd hb cz hK;unfold Ux;rw [q4a h hg];simp only [if_true];refine ⟨fun _ _=>trivial,?_⟩;have hr:=Kd h av;obtain ⟨b,r,hi,hw,es,ep,am,bc,bd,aa,bk,_⟩:=qi0 (ls':=.ready) (pe':=none) (pin:=0) h.heap z;generalize au : a.eval g = gv at hr
  cases hr with | @yld _ b' o' hlt hi'=>
  rw [hi] at hi';cases hi';have hl:=q9v h ay;have e2 : (c.args.toList.map a.eval).toArray = c.args.map a.eval:=by apply Array.ext';simp
  rw [e2] at hl;have bg : (c.args.map a.eval).size = r.params.size:=by rw [← hl.1,am];simp [ak]
  have ai : (execOp a.eval o).run P w = .ok (.round b r.fn ((r.params.zip (c.args.map a.eval)).foldl (fun tmps (t,a)=>tmps.setIfInBounds t a) r.tmps) r.assign r.body) w:=by
    have:=run_yield (P:=P) hw bg;obtain ⟨dst,op,type,pos,after,guard⟩:=o;simp only at ho;subst ho;obtain ⟨cs,args,argTypes⟩:=c;simp only at v;subst v;simp only [execOp,resolve,Sem.run_bind,au,Deferred.ofValue,Sem.run_pure,Result.andThen_ok,invoke];simpa using this
  rw [show (Fw ro).round = ro from rfl,Oper.semAt_eq ro _ o (by rintro c' h';rw [ho] at h';cases h'),ai,Oper.uponIn_round];refine ⟨fun h=>by simp [Fw] at h,?_⟩;refine roundIn_of_wpIn trivial ?_
  have ae : (r.params.zip (c.args.map a.eval)).foldl (fun tmps (t,a)=>tmps.setIfInBounds t a) r.tmps = (j.zip (c.args.map a.eval).toList).foldl (fun tmps (x : Tmp × Value)=>tmps.setIfInBounds x.1 x.2) r.tmps:=by
    rw [am,← Array.foldl_toList,Array.toList_zip]
  obtain ⟨u,f⟩:=qoh j vs (c.args.map a.eval).toList s r.tmps (by rw [Array.length_toList];exact hl.1) (fun i d c h1 h2=>hl.2 i d c h1 (by rw [← Array.getElem?_toList];exact h2)) aa.2.2 bk;rw [ae,bc,bd];generalize (j.zip (c.args.map a.eval).toList).foldl (fun tmps (x : Tmp × Value)=>tmps.setIfInBounds x.1 x.2) r.tmps = tm at u f;have ac : RelS w Z inj {sl:=q28 s j vs,hp:=st.hp,nx:=st.nx} {tmps:=tm,defers:=[]} []:=⟨u,h.heap,rfl,qg,qg⟩
  have y : Yo (some b) w:=fun l hl=>by cases hl;exact ⟨r,hw⟩
  refine wpIn_mono (h1 (some b) w Z inj _ [] ac (by show codeOk tm.size assign = true;rw [f];exact aa.1) (Nat.le_refl _) y).1 ?_;rintro e a1 w1 ⟨rfl,Z1,q,ah,g1,g2,g3,g4,g5⟩;have af : n < st.nx:=(h.heap.blk n _ z).1;obtain ⟨b1,r1,i1,be,bn,al,cb,cd,bw,br,cg,aw,k⟩:=qi0 (ls':=.busy) (pe':=none) (pin:=st.nx) g1.heap bj;rw [g2.pinj n af,hi] at i1;cases i1;refine ⟨_,run_beginRound be bn,?_⟩;have e5 : ({r1 with state:=.busy} : Loop) = {r1 with state:=.busy,pending:=none}:=by cases r1;simp only at al;subst al;rfl
  rw [e5]
  have ad : RelS (w1.putObj b (.loop {r1 with state:=.busy,pending:=none})) Z1 q (st1.setBlk n (.loop s1 j assign body .busy none)) a1 ah:=
    ⟨g1.slots.mono (k.zkeep g1.heap) k.zin k.big (fun _ _=>rfl) (Nat.le_refl _),aw,g1.defs,g1.nodup,fun D hD=>k.marks g1.heap (g1.marks D hD)⟩
  have ao : Yo (some b) (w1.putObj b (.loop {r1 with state:=.busy,pending:=none})):=(y.ext g2).ext k;refine wpIn_mono (h2 (some b) _ Z1 q a1 ah ad (by rw [g3];show codeOk tm.size body = true;rw [f];exact aa.2.1) g4 ao).1 ?_;rintro e a3 w3 ⟨rfl,Z3,aq,cv,k1,k2,k3,k4,k5⟩;obtain ⟨b3,r3,i3,ax,cw,cp,bq,bt,bp,ch,cc,bh,ba⟩:=qi0 (ls':=if ex = .nor then .ready else .done) (pe':=ex.code) (pin:=st.nx) k1.heap bm;have bo : q n = some (b,0):=(g2.pinj n af).trans hi;rw [k2.pinj n af,bo] at i3;cases i3
  have m : K (a.put o.dst (.bool (decide (ex = .nor)))) (w3.putObj b (.loop {r3 with state:=if ex = .nor then .ready else .done,pending:=ex.code})):=by
    have an : Ext w Z inj st.hp (w3.putObj b (.loop {r3 with state:=if ex = .nor then .ready else .done,pending:=ex.code})) Z3 aq (repl st2.hp n (.loop s2 j assign body (if ex = .nor then .ready else .done) ex.code)) st.nx:=
      ((g2.trans k (Nat.le_refl _)).trans k2 (Nat.le_refl _)).trans ba (Nat.le_refl _)
    exact hK _ _ (q4g h hb an bh k4 (.d (.bool _)) hd)
  have p:=run_endRound (P:=P) ex.code ax
  cases ex with
  | nor=>exact ⟨_,_,p,m⟩
  | ret=>exact ⟨_,_,p,m⟩
  | exit id=>exact ⟨_,_,p,m⟩
end
end Go.Am
namespace Go.Am
open Go
variable {P : Program} {T : Tab}
section
variable {base : Nat} {st st1 st2 : AS} {ex : Ex}
theorem qs4 {ro : Option Nat} {f : FuncId} {xs : Array Value} {w : World} {R : Ending→World→Prop} (h : CallsIn (Fw none) 0 P f xs w R) : CallsIn (Fw ro) 0 P f xs w R:=by
  cases ro <;> exact h
theorem qwh {w : World} {Ds : List Nat} (h : Ds.Nodup) (b : ∀ D∈Ds,w.heap[D]? = some (.deferred (some []))) : (w.heap.size::Ds).Nodup:=
  List.nodup_cons.2 ⟨fun a=>by have:=Jg (b _ a);omega,h⟩
theorem qsl {g : Operand} {k : Array Tmp} {assign body : Code} {f : FuncId} {u : List V} {v : V} {hp : List (Nat × Blk)} {nx : Nat} {pe : Option Code} {s : List (Nat × V)} {ls : LoopState}
    (hg : st.ev g = some (.fn f u)∨∃ ds,st.ev g = some (.d (.fn f ds))∧u = ds.map .d)
    (y : Jv P f (.yld st.nx::u) ((st.nx,.loop st.sl k.toList assign body .ready none)::st.hp) (st.nx + 1) v hp nx)
    (ai : find hp st.nx = some (.loop s k.toList assign body ls pe)) (bk : ls≠.busy) (an : pe = ex.code) : Y5 P base (.rangeFunc g k assign body) st ex {sl:=st.sl,hp:=repl hp st.nx .dead,nx:=nx}:=by
  refine Ui qg fun ro w Z inj a Ds h z hb bo=>wpIn_rangeFunc fun fn _=>?_;simp only [codeOk,Bool.and_eq_true,List.all_eq_true,Nat.blt_eq] at z
  have aw : ∃ cs : Array Value,a.eval g = .func (.func f) #[] cs∧LRel w Z inj st.nx u cs:=by
    rcases hg with hg | ⟨ds,hg,rfl⟩
    · have hr:=Kd h hg;generalize a.eval g = gv at hr ⊢
      cases hr with | @fn _ _ cs h1 h2=>
      exact ⟨cs,rfl,h1,h2⟩
    · have hr:=Kd h hg;generalize a.eval g = gv at hr ⊢
      cases hr with | d hr=>
      cases hr with | @fn _ _ cs h1 h2=>
      refine ⟨cs,rfl,by simpa using h1,fun i d c hd hc=>?_⟩;simp only [List.getElem?_map,Yc] at hd;obtain ⟨d',hd,rfl⟩:=hd;exact .d (h2 i d' c hd hc)
  obtain ⟨cs,bg,bb⟩:=aw
  have rest : ∀ (n : World) (l : Nat) (mark : List Deferred) (r : Loop) (Dn : List Nat),(Instr.enterLoop fn a.tmps k assign body (Fw ro).round).run P w = .ok (l,mark) n→
      n.heap[l]? = some (.loop r)→r.state = .ready→r.pending = none→
      RelH n Z (upd inj st.nx (some (l,0))) ((st.nx,.loop st.sl k.toList assign body .ready none)::st.hp) (st.nx + 1)→
      Ext w Z inj st.hp n Z (upd inj st.nx (some (l,0))) ((st.nx,.loop st.sl k.toList assign body .ready none)::st.hp) st.nx→
      mark = Dn.map (fun D=>{target:=.collected D,args:=#[]})→(Dn ++ Ds).Nodup→(∀ D∈Dn,n.heap[D]? = some (.deferred (some []))∧w.heap.size≤D)→
      ∃ (l : Nat) (mark : List Deferred) (w₁ : World) (d : Deferred) (ag : World) (f : FuncId) (args : Array Value) (w₂ : World),
      (Instr.enterLoop fn a.tmps k assign body (Fw ro).round).run P w = .ok (l,mark) w₁∧
      (resolve a.eval (rangeCall g l) 0).run P w₁ = .ok d ag∧
      (∀ f',Target.leads P ag d.target d.args = some f'→(Fw ro).fn f')∧
      (invoke d.target d.args).run P ag = .ok (.enter f args) w₂∧
      ((Fw ro).depth.isSome = true→1≤0)∧
      CallsIn (Fw ro) (0 - 1) P f args w₂ (rangePost (Fw ro) 0 P l (CP base w Z inj st a Ds ex {sl:=st.sl,hp:=repl hp st.nx .dead,nx:=nx}) {a with defers:=mark ++ a.defers}):=by
    intro n l mark r Dn ab ci co bs av aa ae bh ar
    refine ⟨l,mark,n,{target:=.fn (.func f) cs,args:=#[.func (.yield l) #[] #[]]},n,f,#[.func (.yield l) #[] #[]] ++ cs,n,ab,?_,fun _ _=>trivial,?_,fun h=>by simp [Fw] at h,?_⟩
    · simp only [resolve,bg];simp [Deferred.ofValue,Act.eval]
    · simp [invoke,y.1]
    · refine qs4 (CallsIn.mono (y.2 n Z _ _ av ?_) ?_)
      · refine ⟨by simp [bb.1];omega,fun i d c hd hc=>?_⟩
        cases i with
        | zero=>
          rw [Array.getElem?_append_left qg] at hc;simp at hd hc;subst hd hc;exact .yld q6 (Ya _ _ _)
        | succ i=>
          rw [Array.getElem?_append_right qg] at hc;simp at hd hc;exact (bb.2 i d c hd hc).mono (fun b hz=>aa.keep b (h.heap.zs b hz) (h.heap.z_im hz)) (fun _ h=>h) aa.big (fun m hm=>aa.pinj m hm) q6
      · rintro e w3 ⟨x,Z',inj',rfl,bp,af,cp,cr⟩
        obtain ⟨b3,r3,i3,au,bm,ao,ak⟩:=qzj (pin:=st.nx) bp ai
        obtain ⟨bj,bl⟩:=ak {r3 with state:=.exhausted} rfl
        have br : b3 = l:=by
          have:=af.pinj st.nx q6;rw [Ya,i3] at this;cases this;rfl
        subst br
        refine ⟨r3.pending,_,run_endLoop au (by rw [bm];exact bk),?_⟩
        have hE : Ext w Z inj st.hp (w3.putObj b3 (.loop {r3 with state:=.exhausted})) Z' inj' (repl hp st.nx .dead) st.nx:=(aa.trans af q6).trans bl (Nat.le_refl _)
        have q : Y3 base w Z inj st a Ds {sl:=st.sl,hp:=repl hp st.nx .dead,nx:=nx} {a with defers:=mark ++ a.defers} (w3.putObj b3 (.loop {r3 with state:=.exhausted})):=by
          refine ⟨Z',inj',Dn ++ Ds,⟨?_,bj,?_,bh,?_⟩,hE.pin_le hb,rfl,by show base≤nx;omega,?_⟩
          · exact h.slots.mono (hE.zkeep h.heap) hE.zin hE.big hE.pinj (by show st.nx≤nx;omega)
          · simp [ae,h.defs]
          · intro D t;rcases List.mem_append.1 t with t | t
            · obtain ⟨h5,h6⟩:=ar D t;have h7:=af.marks av h5;rw [World.putObj_heap_other (fun e=>by rw [e] at h7;rw [au] at h7;cases h7)];exact h7
            · exact hE.marks h.heap (h.marks D t)
          · intro D t;rcases List.mem_append.1 t with t | t
            · exact .inr (ar D t).2
            · exact .inl t
        rw [ao,an] at q
        rw [ao,an]
        cases ex with
        | nor=>exact ⟨rfl,q⟩
        | exit id=>exact wpIn_exit ⟨rfl,q⟩
        | ret=>exact wpIn_ret ⟨rfl,q⟩
  have ac : ∀ (n : World) (l : Nat) (r : Loop),r.state = .ready→r.pending = none→r.tmps = a.tmps→r.params = k→r.assign = assign→r.body = body→Yz n Z (upd inj st.nx (some (l,0))) (st.nx + 1) st.sl a.tmps→
      n.heap[l]? = some (.loop r)→RelB n Z (upd inj st.nx (some (l,0))) (st.nx + 1) st.nx (.loop st.sl k.toList assign body .ready none):=by
    rintro n l r e1 e2 e3 e4 e5 e6 hs hl
    obtain ⟨f1,f2,f3,f4,f5,f6,f7,f8⟩:=r
    simp only at e1 e2 e3 e4 e5 e6
    subst e1 e2 e3 e4 e5 e6
    exact ⟨l,_,_,_,Ya _ _ _,hl,⟨z.1.2,z.2,fun p hp=>z.1.1 p hp⟩,hs⟩
  cases ro with
  | none=>
    have aq : RelH (w.alloc (.deferred (some []))) Z inj st.hp st.nx:=h.heap.grow fun b hb=>J5 w _ hb
    have aj : ∀ o,Yz ((w.alloc (.deferred (some []))).alloc o) Z (upd inj st.nx (some (w.heap.size + 1,0))) (st.nx + 1) st.sl a.tmps:=fun o=>
      h.slots.mono (fun b hz=>by have:=h.heap.zs b hz;rw [J5 _ _ (by simp;omega),J5 _ _ this]) (fun _ h=>h)
        (fun b c e f hb=>by obtain ⟨c1,e1,f1,h1,s1⟩:=q39 w (.deferred (some [])) b c e f hb;obtain ⟨c2,e2,f2,h2,s2⟩:=q39 _ o b c1 e1 f1 h1;exact ⟨c2,e2,f2,h2,s2.trans s1⟩) (fun _ hm=>Yl _ _ hm) q6
    have j:=U2 (w.alloc (.deferred (some []))) (.loop {state:=.ready,pending:=none,fn,tmps:=a.tmps,params:=k,assign,body,defers:=w.heap.size});rw [World.size_alloc] at j;have hB:=ac _ (w.heap.size + 1) {state:=.ready,pending:=none,fn,tmps:=a.tmps,params:=k,assign,body,defers:=w.heap.size} rfl rfl rfl rfl rfl rfl (aj _) j;have hn:=aq.new (.loop {state:=.ready,pending:=none,fn,tmps:=a.tmps,params:=k,assign,body,defers:=w.heap.size}) (.loop st.sl k.toList assign body .ready none) 0 (by rw [World.size_alloc];exact hB);have he:=Ext.new aq (.loop {state:=.ready,pending:=none,fn,tmps:=a.tmps,params:=k,assign,body,defers:=w.heap.size}) (.loop st.sl k.toList assign body .ready none) 0;rw [World.size_alloc] at hn he;refine rest _ (w.heap.size + 1) _ _ [w.heap.size] (run_enterLoop_outer fn a.tmps k assign body) j rfl rfl hn ((Ext.alloc _).trans he (Nat.le_refl _)) rfl (qwh h.nodup h.marks) ?_;intro D t;simp at t;subst t;exact ⟨by rw [J5 _ _ qg];exact U2 _ _,Nat.le_refl _⟩
  | some l0=>
    obtain ⟨r0,bn⟩:=bo l0 rfl
    have aj : ∀ o,Yz (w.alloc o) Z (upd inj st.nx (some (w.heap.size,0))) (st.nx + 1) st.sl a.tmps:=fun o=>
      h.slots.mono (fun b hz=>J5 _ _ (h.heap.zs b hz)) (fun _ h=>h) (q39 w o) (fun _ hm=>Yl _ _ hm) q6
    have j:=U2 w (.loop {state:=.ready,pending:=none,fn,tmps:=a.tmps,params:=k,assign,body,defers:=r0.defers});have hB:=ac _ w.heap.size {state:=.ready,pending:=none,fn,tmps:=a.tmps,params:=k,assign,body,defers:=r0.defers} rfl rfl rfl rfl rfl rfl (aj _) j;exact rest _ w.heap.size _ _ [] (run_enterLoop_inner bn fn a.tmps k assign body) j rfl rfl (h.heap.new _ _ 0 hB) (Ext.new h.heap _ _ 0) rfl (by simpa using h.nodup) qg
theorem qs6 {f : FuncId} {fn : Func} {c : Code} {j : List V} {hp : List (Nat × Blk)} {nx : Nat} {v : V} (u : Z8 P T) (r : P.funcs[f]? = some fn) (hb : fn.body = some c) (a : (fn.name == "runtime.NumGoroutine") = false) (k : codeOk fn.ntmps c = true) (ad : j.length ≤ fn.ntmps)
    (z : Y5 P nx c {sl:=Yg 0 j,hp:=hp,nx:=nx} ex st) (hx : ex = .nor∨ex = .ret) (d : resV T st fn.results.toList = some v) : Jv P f j hp nx v st.hp st.nx:=by
  refine ⟨fun args w=>?_,fun w Z inj xs h g=>?_⟩
  · unfold callFunc
    have o : ¬ fn.name = "runtime.NumGoroutine" := by simpa using a
    simp [r,o,hb]
  · refine callsIn_of_wp_marks r hb trivial ?_
    have m : (xs ++ Array.replicate (fn.ntmps - xs.size) undef).size = fn.ntmps:=by
      have:=g.1;simp;omega
    have h0 : RelS w Z inj {sl:=Yg 0 j,hp:=hp,nx:=nx} {tmps:=xs ++ Array.replicate (fn.ntmps - xs.size) undef,defers:=[]} []:=⟨qzm _ g,h,rfl,qg,qg⟩
    refine wpIn_mono (z none w Z inj _ [] h0 (by show codeOk (xs ++ Array.replicate (fn.ntmps - xs.size) undef).size c = true;rw [m];exact k) (Nat.le_refl _) (fun l g=>by cases g)).1 ?_;rintro e a' w' ⟨rfl,Z',inj',n,b,t,g3,s,y⟩
    have q:=qmm (P:=P) (fn:=fn) (pin:=nx) (w0:=w) (Z0:=Z) (inj0:=inj) (hp0:=hp) u d
      (R:=fun e w'=>∃ x Z' inj',e = .returned x∧RelH w' Z' inj' st.hp st.nx∧Ext w Z inj hp w' Z' inj' st.hp nx∧RelV w' Z' inj' st.nx v x∧nx≤st.nx)
      (fun x w' Z' inj' k1 k2 k3=>⟨x,Z',inj',rfl,k1,k2,k3,s⟩) n w' Z' inj' a' b.slots b.heap t b.nodup (fun D p=>⟨b.marks D p,(y D p).resolve_left qg⟩)
    rcases hx with rfl | rfl
    · show LeavesInM (Fw none) 0 P fn a'.tmps _ a'.defers .returning w';rw [b.defs];exact q
    · show LeavesInM (Fw none) 0 P fn a'.tmps _ a'.defers .returning w';rw [b.defs];exact q
end
theorem qs5 {f : FuncId} {k : List V} {hp hp' hp1 : List (Nat × Blk)} {nx nx' nx1 : Nat} {v j : V} {ρ : Nat→Nat} {fz ph : List Nat} (h : Jv P f k hp nx v hp' nx') (m : Wk nx ρ fz ph {sl:=[(0,v)],hp:=hp',nx:=nx'} {sl:=[(0,j)],hp:=hp1,nx:=nx1}) : Jv P f k hp nx j hp1 nx1:=by
  refine ⟨h.1,fun w Z inj xs q p=>(h.2 w Z inj xs q p).mono ?_⟩;rintro e w' ⟨x,Z',inj',rfl,g,r,o,s⟩
  have a : RelS w' Z' inj' {sl:=[(0,v)],hp:=hp',nx:=nx'} {tmps:=#[x],defers:=[]} []:=by
    refine ⟨fun t u c=>?_,g,rfl,List.nodup_nil,qg⟩;rw [Kz] at c;split at c
    · rename_i e;subst e;cases c;exact ⟨x,rfl,o⟩
    · simp [find] at c
  obtain ⟨b,d⟩:=q2i a m;obtain ⟨y,l,n⟩:=b.slots 0 j (by simp [find]);simp at l;subst l;exact ⟨x,_,_,rfl,b.heap,r.trans d (Nat.le_refl _),n,m.bs⟩
theorem qs7 (hT : Z8 P T) (hm : P.follows .mixedOrders = true) {f : FuncId} {u : List V} {hp : List (Nat × Blk)} {nx : Nat} {v : V} {hp' : List (Nat × Blk)} {nx' : Nat} (h : Ka P T f u hp nx v hp' nx') : Jv P f u hp nx v hp' nx':=by
  refine Ka.rec (motive_1:=fun base c st ex st' _=>Y5 P base c st ex st') (motive_2:=fun base ops dr l st st' _=>q1n P base ops dr l st st') (motive_3:=fun f u hp nx v hp' nx' _=>Jv P f u hp nx v hp' nx')
    ?_ ?_ ?_ ?_ ?_ ?_ ?_ ?_ ?_ ?_ ?_ ?_ ?_ ?_ ?_ ?_ ?_ ?_ ?_ ?_ ?_ ?_ ?_ ?_ ?_ ?_ h
  · exact qsr
  · exact fun _ _ a d=>qsp a d
  · exact fun _ t a=>qsq a t
  · exact fun k _ a=>qsh k a
  · exact fun k _ a=>qsg k a
  · exact fun _ a=>qsf a
  · exact qsi
  · exact qso
  · exact fun _ _ a d=>qsj a d
  · exact fun _ t a=>qsk a t
  · exact fun _ a=>qsm a
  · exact fun _ hd a=>qsn hm a hd
  · exact fun s _ a=>qss s a
  · exact fun b _ m ad x a=>qsl b a m ad x
  · exact fun {_ _ dr _}=>by cases dr <;> exact .nil
  · exact fun b _ a=>qsd b a
  · exact fun b g m _ a=>qsb hT b g m a
  · exact fun b g _ hn hh m y _ a=>qsc hT b g hn hh m y a
  · exact fun b g k ah _ ag ai hs y _ a d=>qsa b g k ah a ag ai hs y d
  · exact fun b g k _ _ a d=>Zs.cons (q153 b g k a) d
  · exact fun b g k j ae _ af hb _ a d=>Zs.cons (qun b g k j ae a af hb) d
  · exact fun b g r z n q j _ ab _ ac _ a d h3=>Zs.cons (qur b g r z n q j a ab d ac) h3
  · exact fun s _ a=>Zs.wk s a
  · exact fun hp _ _ a d=>Jw.piv hp a d
  · exact fun m hb o w n _ t p a=>qs6 hT m hb o w n a t p
  · exact fun _ s a=>qs5 a s
end Go.Am
namespace Go.Am
open Go
open Go.ChangeShapes Go.WideShapes Go.ChangeAt Go.RowKit Go.Deep
inductive CT where
  | int (k : IntKind)
  | bool
  | str
  | sl (l : List CT)
def qc8 (P : Program) (f : TypeId→Option (List CT)) : Nat→List Field→Option (List CT)
  | _,[]=>some []
  | o,x::r=>match f x.type with
    | some a=>if x.offset = o∧P.cellsOf x.type = a.length then
        match qc8 P f (o + a.length) r with
        | some b=>some (a ++ b)
        | none=>none
      else none
    | none=>none
def tyL (P : Program) : Nat→TypeId→Option (List CT)
  | 0,_=>none
  | f + 1,t=>match P.underlying t with
    | some .bool=>some [.bool]
    | some (.int k)=>some [.int k]
    | some .string=>some [.str]
    | some (.slice e)=>match tyL P f e with
      | some l=>if l.length = P.cellsOf e∧l.length≠0 then some [.sl l] else none
      | none=>none
    | some (.struct fs)=>match qc8 P (tyL P f) 0 fs.toList with
      | some l=>if l.length = P.cellsOf t then some l else none
      | none=>none
    | _=>none
inductive Ty : CT→DV→Prop
  | int {k : IntKind} {n : Int} : (Lit.int k n).wf = true→Ty (.int k) (.int k n)
  | bool (b : Bool) : Ty .bool (.bool b)
  | str {s : ByteArray} : s.size≤maxLen→Ty .str (.str s)
  | nil (l : List CT) : Ty (.sl l) .nilsl
  | sl {l : List CT} {xs : List (List DV)} : xs.length≤maxLen→(∀ (i : Nat) (x : List DV),xs[i]? = some x→x.length = l.length)→
      (∀ (i : Nat) (x : List DV) (j : Nat) (c : CT) (d : DV),xs[i]? = some x→l[j]? = some c→x[j]? = some d→Ty c d)→Ty (.sl l) (.sl l.length xs)
section
variable {H : Type} {enc : TypeId × Value→H} {P : Program} {w : World} {base : Nat} {held : Bool}
def ZC (w : World) (b : Nat) : Prop:=∃ c e f,w.heap[b]? = some (.cells c e f)
theorem Ty.cell {c : CT} {d : DV} (h : Ty c d) : Ym d = true:=by cases h <;> rfl
def Reads (w : World) (l : List CT) (cs : List Value) : Prop:=
  cs.length = l.length∧∃ ds : List DV,ds.length = l.length∧∀ (j : Nat) (c : CT) (v : Value),l[j]? = some c→cs[j]? = some v→∃ d,ds[j]? = some d∧Ty c d∧RelD w (ZC w) d v
theorem q74 {c : CT} {v : Value} {d : DV} (g : Ty c d) (f : RelD w (ZC w) d v) : Reads w [c] [v]:=by
  refine ⟨rfl,[d],rfl,fun j h k a b=>?_⟩
  cases j with
  | zero=>simp at a b;subst a b;exact ⟨d,rfl,g,f⟩
  | succ j=>simp at a
theorem qz3 {l l' : List CT} {cs a : List Value} (h : Reads w l cs) (q : Reads w l' a) : Reads w (l ++ l') (cs ++ a):=by
  obtain ⟨n,ds,o,s⟩:=h;obtain ⟨b1,k,p,r⟩:=q;refine ⟨by simp [n,b1],ds ++ k,by simp [o,p],fun j c v f b=>?_⟩;by_cases t : j < l.length
  · rw [List.getElem?_append_left t] at f;rw [List.getElem?_append_left q6] at b;obtain ⟨d,g,m⟩:=s j c v f b;exact ⟨d,by rw [List.getElem?_append_left q6];exact g,m⟩
  · rw [List.getElem?_append_right q6] at f;rw [List.getElem?_append_right q6,n] at b;obtain ⟨d,g,m⟩:=r _ c v f b;exact ⟨d,by rw [List.getElem?_append_right q6,o];exact g,m⟩
theorem qqn {f : TypeId→Option (List CT)} {g : Field→List Value→Prop} (d : ∀ (x : Field) (l : List CT) (cs : List Value),f x.type = some l→g x cs→Reads w l cs) :
    ∀ (j : List Field) (o : Nat) (l : List CT) (cs : List Value),qc8 P f o j = some l→o + l.length = cs.length→(∀ x∈j,g x ((cs.drop x.offset).take (P.cellsOf x.type)))→Reads w l (cs.drop o)
  | [],o,l,cs,h,hl,_=>by
    simp [qc8] at h;subst h
    simp at hl
    rw [hl]
    exact ⟨qg,[],rfl,qg⟩
  | x::r,o,l,cs,h,hl,hx=>by
    simp only [qc8] at h
    split at h <;> try simp at h
    rename_i a q
    obtain ⟨⟨p,m⟩,h⟩:=h
    split at h <;> simp at h
    rename_i b hb
    subst h
    have c:=d x a _ q (hx x qg)
    rw [p,m] at c
    have k:=qqn d r (o + a.length) b cs hb (by simp at hl;omega) (fun y n=>hx y (by simp [n]))
    have:=qz3 c k
    rw [← List.drop_drop] at this
    rwa [List.take_append_drop] at this
theorem qez : ∀ (f : Nat) (t : TypeId) (l : List CT) (fuel : Nat) (cs : List Value) (x : DataW H × List MemPlace),tyL P f t = some l→DataW.trod enc P w base (fun _=>true) held fuel t cs = some x→Reads w l cs
  | 0,t,l,fuel,cs,x,hl,h=>by simp [tyL] at hl
  | f + 1,t,l,fuel,cs,x,hl,h=>by
    simp only [tyL] at hl
    split at hl <;> try simp at hl
    · rename_i ht
      subst hl
      cases fuel with
      | zero=>simp [DataW.trod] at h
      | succ n=>
        unfold DataW.trod at h
        rw [ht] at h
        split at h <;> simp_all
        exact q74 (.bool _) (.bool _)
    · rename_i k ht
      subst hl
      obtain ⟨n,rfl,_,hw⟩:=DataW.trod_int ht h
      exact q74 (.int hw) (.int _ _)
    · rename_i ht
      subst hl
      cases fuel with
      | zero=>simp [DataW.trod] at h
      | succ n=>
        unfold DataW.trod at h
        rw [ht] at h
        split at h <;> simp_all
        exact q74 (.str q6) (.str _)
    · rename_i e ht
      split at hl <;> simp at hl
      rename_i le ao
      obtain ⟨⟨u,am⟩,rfl⟩:=hl
      rcases open_slice ht h with ⟨rfl,_⟩ | ⟨a,len,cap,m,n,D,Pl,rfl,_,ar,bb,hm,_,aq⟩
      · exact q74 (.nil _) .nilsl
      · obtain rfl : cap = m:=by simpa using hm.symm
        have elem : ∀ i,i < cap→∃ p,w.cells? base (a.add (i * P.cellsOf e)) (P.cellsOf e) = some p∧Reads w le p:=by
          intro i hi;obtain ⟨p,h1,h2⟩:=aq i hi;exact ⟨p,h1,qez f e le n p _ ao h2⟩
        have ay : 0 < P.cellsOf e:=by rw [← u];exact List.length_pos_iff.2 am
        by_cases av : cap = 0
        · subst av
          have : len = 0:=by omega
          subst this
          exact q74 (.sl (xs:=[]) qg qg qg) (.slemp _ _)
        · have ag : a.spot = none∧ZC w a.block:=by
            obtain ⟨p,h1,_⟩:=elem 0 q6;obtain ⟨_,h2,h3⟩:=World.cells?_some h1;have:=h3 0 q6;obtain ⟨v,hv⟩:=Zw (xs:=p) (i:=0) q6;rw [hv] at this;simp [World.cell?,Addr.add] at this;split at this <;> try simp at this
            rename_i c e' f' hc;exact ⟨this.1,c,e',f',hc⟩
          obtain ⟨b,o,sp⟩:=a
          obtain ⟨ak,hz⟩:=ag
          simp only at ak hz;subst ak
          have ac : ∀ i,i < len→∃ ds : List DV,ds.length = le.length∧∀ (j : Nat) (c : CT),le[j]? = some c→∃ d v,ds[j]? = some d∧Ty c d∧w.cell? ⟨b,o + (i * le.length + j),none⟩ = some v∧RelD w (ZC w) d v:=by
            intro i hi;obtain ⟨p,h1,h4,ds,h5,h6⟩:=elem i q6;obtain ⟨_,h2,h3⟩:=World.cells?_some h1;refine ⟨ds,h5,fun j c hj=>?_⟩;have bh:=Kh hj;obtain ⟨v,hv⟩:=Zw (xs:=p) (i:=j) q6;obtain ⟨d,z,g2,g3⟩:=h6 j c v hj hv;have:=h3 j q6;rw [hv,U1,U1,← u,Nat.add_assoc] at this;exact ⟨d,v,z,g2,this,g3⟩
          obtain ⟨F,hF⟩:=choose_lt ac
          have q : ∀ (i : Nat) (x : List DV),((List.range len).map F)[i]? = some x→i < len∧x = F i:=by
            intro i x s;simp only [List.getElem?_map,Yc] at s;obtain ⟨k,hk,rfl⟩:=s;have hi : i < len:=by simpa using Kh hk
            rw [List.getElem?_range hi] at hk;cases hk;exact ⟨hi,rfl⟩
          have r : ((List.range len).map F).length = len:=by simp
          have ab : RelD w (ZC w) (.sl le.length ((List.range len).map F)) (.slice (some ⟨b,o,none⟩) ((List.range len).map F).length cap):=by
            refine .sl (by rw [r];exact ar) (fun _=>hz) ?_ ?_ ?_
            · intro i x s;obtain ⟨hi,rfl⟩:=q i x s;exact (hF i hi).1
            · intro i x j d s hd;obtain ⟨hi,rfl⟩:=q i x s;obtain ⟨c,hc⟩:=Zw (xs:=le) (i:=j) (by rw [← (hF i hi).1];exact Kh hd);obtain ⟨d',v,z,g2,g3,g4⟩:=(hF i hi).2 j c hc;rw [hd] at z;cases z;exact ⟨g2.cell,v,g3⟩
            · intro i x j d v s hd hv;obtain ⟨hi,rfl⟩:=q i x s;obtain ⟨c,hc⟩:=Zw (xs:=le) (i:=j) (by rw [← (hF i hi).1];exact Kh hd);obtain ⟨d',v',z,g2,g3,g4⟩:=(hF i hi).2 j c hc;rw [hd] at z;cases z;rw [hv] at g3;cases g3;exact g4
          rw [r] at ab
          refine q74 (.sl (by rw [r];omega) ?_ ?_) ab
          · intro i x s
            obtain ⟨hi,rfl⟩:=q i x s
            exact (hF i hi).1
          · intro i x j c d s hc hd
            obtain ⟨hi,rfl⟩:=q i x s
            obtain ⟨d',v,z,g2,_⟩:=(hF i hi).2 j c hc
            rw [hd] at z;cases z
            exact g2
    · rename_i fs ht
      split at hl <;> simp at hl
      rename_i l' an
      obtain ⟨u,rfl⟩:=hl
      obtain ⟨xs,n,_,_,bf,bk,hf⟩:=DataW.trod_struct ht h
      have:=qqn (P:=P) (w:=w) (f:=tyL P f) (g:=fun x cs=>∃ y,DataW.trod enc P w base (fun _=>true) held n x.type cs = some y) (fun x l cs h1 ⟨y,h2⟩=>qez f x.type l n cs y h1 h2) fs.toList 0 l' cs an q6 ?_
      · simpa using this
      · intro x s
        obtain ⟨i,hi⟩:=List.getElem?_of_mem s
        have:=hf i x (by simpa using hi)
        obtain ⟨y,hy⟩:=Zw (xs:=xs) (i:=i) (by have:=Kh hi;simp at this;omega)
        exact ⟨y,by rw [this];exact hy⟩
end
end Go.Am
namespace Go.Am
open Go
open Go.ChangeShapes Go.WideShapes Go.ChangeAt Go.RowKit Go.Deep
theorem q15o {P : Program} {l : List (Nat × TI)} (h : l.map (fun x=>tiOf P x.1) = l.map (fun x=>some x.2)) : Z8 P (qqh l):=by
  intro t i c;have a:=J8 (show find l t = some i from c);obtain ⟨k,b⟩:=List.getElem?_of_mem a;have:=congrArg (fun r=>r[k]?) h;simp only [List.getElem?_map,b,Option.map_some] at this;exact qf7 this
def aggT (P : Program) (t : TypeId) : Bool:=match P.underlying t with
  | some (.struct _) | some (.array _ _)=>true
  | _=>false
inductive Ju : List (Bool × List CT)→List DV→Prop
  | nil : Ju [] []
  | one {c : CT} {d : DV} {ps : List (Bool × List CT)} {ds : List DV} : Ty c d→Ju ps ds→Ju ((false,[c])::ps) (d::ds)
  | agg {l : List CT} {xs : List DV} {ps : List (Bool × List CT)} {ds : List DV} : xs.length = l.length→(∀ (j : Nat) (c : CT) (d : DV),l[j]? = some c→xs[j]? = some d→Ty c d)→Ju ps ds→Ju ((true,l)::ps) (.agg xs::ds)
section
variable {H : Type} {enc : TypeId × Value→H} {P : Program} {T : Tab} {W : World} {base : Nat}
theorem qrl {t : TypeId} {f : Nat} {l : List CT} {v : Value} {d : DataW H} {p : List MemPlace} (r : aggT P t = false) (o : tyL P f t = some l) (a : Value.okWide P W .any base t v) (h : DataW.Trod enc P W 0 (fun _=>true) true t v d p) :
    ∃ c x,l = [c]∧Ty c x∧RelD W (ZC W) x v:=by
  obtain ⟨fuel,hf⟩:=h;have m:=qez f t l fuel _ _ o hf
  have key : v.cells = #[v]→∃ c,l = [c]→∃ x,Ty c x∧RelD W (ZC W) x v:=by
    intro w;rw [w] at m;obtain ⟨z,ds,h2,q⟩:=m
    match l,z with
    | [c],_=>
      obtain ⟨x,_,y,u⟩:=q 0 c v rfl rfl;exact ⟨c,fun _=>⟨x,y,u⟩⟩
  have fin : v.cells = #[v]→∃ c x,l = [c]∧Ty c x∧RelD W (ZC W) x v:=by
    intro w;have j:=m.1;rw [w] at j m
    match l,j,m with
    | [c],_,m=>
      obtain ⟨_,ds,h2,q⟩:=m;obtain ⟨x,_,y,u⟩:=q 0 c v rfl rfl;exact ⟨c,x,rfl,y,u⟩
  cases f with
  | zero=>simp [tyL] at o
  | succ f=>
    simp only [tyL] at o;split at o <;> try simp at o
    · rename_i g;obtain ⟨b,rfl⟩:=okWide_bool g a;exact fin rfl
    · rename_i k g;obtain ⟨n,rfl⟩:=okWide_int g a;exact fin rfl
    · rename_i g;obtain ⟨s,rfl⟩:=okWide_string g a;exact fin rfl
    · rename_i e g;obtain ⟨a0,len,cap,rfl⟩:=okWide_slice g a;exact fin rfl
    · rename_i fs g;simp [aggT,g] at r
theorem qrk {t : TypeId} {f : Nat} {l : List CT} {v : Value} {d : DataW H} {p : List MemPlace} (b : aggT P t = true) (z : tyL P f t = some l) (a : Value.okWide P W .any base t v) (h : DataW.Trod enc P W 0 (fun _=>true) true t v d p) :
    ∃ xs : List DV,xs.length = l.length∧(∀ (j : Nat) (c : CT) (d : DV),l[j]? = some c→xs[j]? = some d→Ty c d)∧RelD W (ZC W) (.agg xs) v:=by
  obtain ⟨fuel,y⟩:=h
  have r : ∃ cs,v = .agg cs:=by
    unfold aggT at b;unfold Value.okWide at a;split at b
    · rename_i o;simp only [o] at a;obtain ⟨cs,h,_⟩:=a;exact ⟨cs,h⟩
    · rename_i o;simp only [o] at a;obtain ⟨cs,h,_⟩:=a;exact ⟨cs,h⟩
    · simp at b
  obtain ⟨cs,rfl⟩:=r;obtain ⟨s,ds,q,n⟩:=qez f t l fuel _ _ z y;simp only [Value.cells] at s n;refine ⟨ds,q,fun j c d k hd=>?_,.agg (by simpa [q] using s.symm) fun j d c hd k=>?_⟩
  · obtain ⟨v,r⟩:=Zw (xs:=cs.toList) (i:=j) (by rw [s];exact Kh k);obtain ⟨w,g,x,_⟩:=n j c v k r;rw [hd] at g;cases g;exact x
  · obtain ⟨u,m⟩:=Zw (xs:=l) (i:=j) (by rw [← q];exact Kh hd);obtain ⟨w,g,_,g3⟩:=n j u c m (by simpa using k);rw [hd] at g;cases g;exact g3
theorem qjq {f : Nat} : ∀ (o : List TypeId) (a : List (Bool × List CT)) (m : List Value) (ds : List (DataW H)) (p : List MemPlace),o.map (fun t=>(aggT P t,tyL P f t)) = a.map (fun x=>(x.1,some x.2))→
    (∀ (j : Nat) t v,o[j]? = some t→m[j]? = some v→Value.okWide P W .any base t v)→DataW.TrodAll enc P W 0 (fun _=>true) true o m ds p→
    ∃ xs : List DV,Ju a xs∧xs.length = m.length∧∀ (j : Nat) (x : DV) (v : Value),xs[j]? = some x→m[j]? = some v→RelD W (ZC W) x v
  | [],a,m,ds,p,hp,hok,h=>by
    obtain ⟨rfl,rfl,rfl⟩:=trodAll_nil h
    cases a with
    | nil=>exact ⟨[],.nil,rfl,qg⟩
    | cons _ _=>simp at hp
  | t::o,a,m,ds,p,hp,hok,h=>by
    obtain ⟨v,r,d,s,q,q',rfl,rfl,rfl,h1,h2⟩:=trodAll_cons h
    cases a with
    | nil=>simp at hp
    | cons pr a=>
      obtain ⟨ag,l⟩:=pr
      simp only [List.map_cons,List.cons.injEq,Prod.mk.injEq] at hp
      obtain ⟨⟨n,hl⟩,hp⟩:=hp
      obtain ⟨xs,g1,g2,g3⟩:=qjq o a r s q' hp (fun j t v ht hv=>hok (j + 1) t v (by simpa using ht) (by simpa using hv)) h2
      have b:=hok 0 t v rfl rfl
      cases ag with
      | false=>
        obtain ⟨c,x,rfl,z,w⟩:=qrl n hl b h1
        refine ⟨x::xs,.one z g1,by simp [g2],fun j y u k g=>?_⟩
        cases j with
        | zero=>simp at k g;subst k g;exact w
        | succ j=>exact g3 j y u (by simpa using k) (by simpa using g)
      | true=>
        obtain ⟨zs,k0,z,w⟩:=qrk n hl b h1
        refine ⟨.agg zs::xs,.agg k0 z g1,by simp [g2],fun j y u k g=>?_⟩
        cases j with
        | zero=>simp at k g;subst k g;exact w
        | succ j=>exact g3 j y u (by simpa using k) (by simpa using g)
theorem q16d {F : FuncId} {m : Array Value} {xs : List DV} (hT : Z8 P T) (hm : P.follows .mixedOrders = true) (hp : Pure P T F xs (.bool true)) (hl : xs.length = m.size) (hr : ∀ (j : Nat) (x : DV) (v : Value),xs[j]? = some x→m[j]? = some v→RelD W (ZC W) x v) :
    Calls P F m W fun e l=>e = .returned (.bool true)∧Grown W l∧Below W.heap.size W l:=by
  obtain ⟨v,hp',nx',r',z,p,r⟩:=hp;have hg:=qs7 hT hm z
  have w : RelH W (ZC W) (fun _=>none) [] 0:=⟨fun _ _ h=>by simp [find] at h,fun _ _ _ _ _ _ h=>by simp [find] at h,fun _ _ _ h=>by simp [find] at h,
    fun b ⟨c,e,f,h⟩=>Jg h,fun b h=>h⟩
  have hc:=hg.2 W (ZC W) (fun _=>none) m w ⟨by simpa using hl,fun j x v s q=>by
    simp only [List.getElem?_map,Yc] at s;obtain ⟨y,hy,rfl⟩:=s
    exact .d (hr j y v hy q)⟩
  refine (callsIn_wide (n:=0).1 hc).mono ?_;rintro e l ⟨x,Z',inj',rfl,t,a,q,hn⟩;have u:=(qc9 t 8 p q).le r;cases u;have g : ∀ k,k < W.heap.size→l.heap[k]? = W.heap[k]?:=fun k g=>a.keep k g (by rintro ⟨n,blk,o,h1,_⟩;simp [find] at h1);refine ⟨rfl,⟨⟨a.os,a.output,fun i hi=>?_⟩,a.frz,a.size⟩,⟨a.os,a.tape,a.output,a.size,g⟩⟩;rw [g i hi]
  cases hw : W.heap[i]? with
  | none=>simp
  | some o=>cases o <;> simp
theorem qjr (a : laidOutB P = true) {k : World} {l : Nat→Bool} : ∀ (b : List TypeId) (f : List Value) (ds : List (DataW H)) (p : List MemPlace),(∀ t∈b,P.readableRec t = true∧t < P.types.size)→DataW.TrodAll enc P W 0 (fun _=>true) true b f ds p→
    Below W.heap.size W k→(∀ x∈p,x.block < W.heap.size∧l x.block = true)→DataW.TrodAll enc P k 0 l true b f ds p
  | [],f,ds,p,_,h,_,_=>by obtain ⟨rfl,rfl,rfl⟩:=trodAll_nil h;exact trodAll_mk0
  | t::b,f,ds,p,ht,h,hb,hp=>by
    obtain ⟨v,j,d,g,q,m,rfl,rfl,rfl,r,n⟩:=trodAll_cons h
    refine trodAll_cons_mk (WideElems.Trod_stays a (ht t qg).1 (ht t qg).2 r (fun x c=>hb.same (hp x (by simp [c])).1) (fun x c=>(hp x (by simp [c])).2))
      (qjr a b j g m (fun u o=>ht u (by simp [o])) n hb (fun x c=>hp x (by simp [c])))
theorem contract {f : Func} {F : FuncId} {s : ChangeSpec} {tb : TypeId} {fuel : Nat} {ps : List (Bool × List CT)} (hT : Z8 P T) (hm : P.follows .mixedOrders = true) (n : laidOutB P = true)
    (a : s.vars = []) (c : f.resultTypes = #[tb]) (u : P.underlying tb = some .bool) (l : ∀ t∈f.params.toList,P.readableRec t = true∧t < P.types.size)
    (af : f.params.toList.map (fun t=>(aggT P t,tyL P fuel t)) = ps.map (fun x=>(x.1,some x.2)))
    (hs : ∀ ds : List (DataW H),ds.length = f.params.size→s.fn H ds = {results:=[.lit (.bool true)],args:=ds})
    (m : ∀ xs,Ju ps xs→Pure P T F xs (.bool true))
    {args : Array Value} {ds gs : List (DataW H)} {before : List MemPlace} (w : ∀ (j : Nat) t v,f.params[j]? = some t→args[j]? = some v→Value.okWide P W .any base t v)
    (hW : DataW.Whole enc P f.params.toList s.vars false W args.toList ds gs before) :
    Calls P F args W fun e W'=>∃ v,e = .returned v∧s.post enc P f false true false false W args v W':=by
  have g:=hW;obtain ⟨p,q,hA,hV,rfl,ax,am⟩:=hW;rw [a] at hV;obtain ⟨rfl,rfl⟩:=trodVars_none hV;have r:=g.lt;simp only [List.append_nil] at g r;obtain ⟨xs,g1,g2,g3⟩:=qjq (base:=base) f.params.toList ps args.toList ds p af (fun j t v ht hv=>w j t v (by simpa using ht) (by simpa using hv)) hA;refine (q16d hT hm (m xs g1) (by simpa using g2) (fun j x v hx hv=>g3 j x v hx (by simpa using hv))).mono ?_;rintro e W' ⟨rfl,hg,hb⟩
  have y : ds.length = f.params.size:=by
    have : ∀ (z : List TypeId) (vs : List Value) (ds : List (DataW H)) (p : List MemPlace),DataW.TrodAll enc P W 0 (fun _=>true) true z vs ds p→ds.length = z.length:=by
      intro z
      induction z with
      | nil=>intro vs ds p h;obtain ⟨_,rfl,_⟩:=trodAll_nil h;rfl
      | cons t z ih=>intro vs ds p h;obtain ⟨v,ar,d,av,q,q',rfl,rfl,rfl,_,h2⟩:=trodAll_cons h;simp [ih _ _ _ h2]
    simpa using this _ _ _ _ hA
  have k:=hs (ds ++ []) (by simpa using y);refine ⟨_,rfl,post_of_same (pa:=p) (pv:=[]) g ?_ ?_ ?_ qg (hg.frame _) hg.2.1 (ok_one c rfl (okWide_bool_mk u _))⟩
  · intro b sp hd;rw [c,k];exact trodAll_cons_mk (shut_bool u _) trodAll_mk0
  · intro sp o;rw [k];show DataW.TrodAll enc P W' 0 sp true f.params.toList args.toList (ds ++ []) p;rw [List.append_nil];exact qjr n _ _ _ _ l hA hb fun x hx=>⟨r x hx,o x hx⟩
  · intro sp o;rw [k,a];rfl
end
end Go.Am
namespace Go.Am
open Go
variable {P : Program} {T : Tab}
section
variable {base : Nat} {ops : Array Oper} {dr : Dr} {l : List Oper} {sl sl1 : List (Nat × V)} {hp hp1 : List (Nat × Blk)} {nx nx1 : Nat} {K : AS→Prop} {ty : TypeId} {pos : String} {af : Array Edge} {t : Tmp} {g : Option (Nat × Bool)} {v : V}
theorem quh {st : AS} {op : Op} (h : touch op = 0) : fp st op = (some [],[]):=by
  unfold touch at h;split at h <;> first | rfl | (simp at h;done) | (exact absurd h qz)
theorem qwj {dr : Dr} {k : Nat} {st st1 : AS} {t : TypeId} {p : Operand} (h : okF dr k (fp st (.load t p)) = true) : okO dr k st (.load t p) st1 = true:=by
  cases dr with
  | none=>rfl
  | some F=>simp only [okF] at h;simp only [okO,h,Bool.true_and,q45,touch]
theorem qna {dr : Dr} {k n es : Nat} {st st1 : AS} {op : Op} {xs : List (List DV)} {r : List (Nat × Blk)} (a : st1.hp = (n,.dat es xs)::r) (h : okF dr k (fp st op) = true) : okO dr k st op st1 = true:=by
  cases dr with
  | none=>rfl
  | some F=>
    simp only [okF] at h;simp only [okO,h,Bool.true_and,q45,a];split <;> rfl
theorem Jn {dr : Dr} {k : Nat} {st st1 : AS} {op : Op} (h : touch op = 0) : okO dr k st op st1 = true:=by
  cases dr with
  | none=>rfl
  | some F=>simp only [okO,quh h,qln,Bool.true_and,q45,h]
theorem fin {ex : Ex} {st : AS} {b : List ResultVar} {v : V} {r a : DV} (f : ex = .nor∨ex = .ret) (d : resV T st b = some v) (g : toD st.hp 8 v = some a) (c : a = r) : (ex = .nor∨ex = .ret)∧∃ v a,resV T st b = some v∧toD st.hp 8 v = some a∧DLe a r:=
  ⟨f,v,a,d,g,c ▸ .refl _⟩
theorem qwo {x y : Operand} {a : TypeId} {i : TI} {k : IntKind} {n : Int} {m es off len : Nat} (j : Qz ops ⟨sl,hp,nx⟩ ⟨some t,.indexAddr a x y,ty,pos,af,g⟩ = some true) (p : T a = some i)
    (q : AS.ev ⟨sl,hp,nx⟩ x = some (.hs m es off len)) (o : AS.ev ⟨sl,hp,nx⟩ y = some (.d (.int k n))) (b : i.kind = .slice) (f : es = i.esize) (c : 0≤n) (hi : n < len)
    (h : OpsK P T base ops dr l ⟨(t,.ref m es (off + n.toNat) 0)::sl,hp,nx⟩ K) : OpsK P T base ops dr (⟨some t,.indexAddr a x y,ty,pos,af,g⟩::l) ⟨sl,hp,nx⟩ K:=
  Yk j (v:=.ref m es (off + n.toNat) 0) (st1:=⟨sl,hp,nx⟩) (by simp [opFn,q,o,p,q4d,b,f,c,hi]) h (Jn rfl)
theorem qhl {p : Operand} {b : TypeId} {i : TI} {m es a j : Nat} {xs : List (List DV)} {cs r : List DV} {w : V} (f : Qz ops ⟨sl,hp,nx⟩ ⟨some t,.load b p,ty,pos,af,g⟩ = some true) (k : T b = some i)
    (o : AS.ev ⟨sl,hp,nx⟩ p = some (.ref m es a j)) (hb : find hp m = some (.dat es xs)) (hi : xs[a]? = some cs) (hs : sub cs j i.size = some r) (n : (q1e i.agg r).map .d = some w)
    (h : OpsK P T base ops dr l ⟨(t,w)::sl,hp,nx⟩ K) (c : okF dr l.length (fp ⟨sl,hp,nx⟩ (.load b p)) = true:=by rfl) : OpsK P T base ops dr (⟨some t,.load b p,ty,pos,af,g⟩::l) ⟨sl,hp,nx⟩ K:=
  Yk f (v:=w) (st1:=⟨sl,hp,nx⟩) (by simp only [opFn,o,k,U9,AS.blk,hb,Nat.beq_refl,hi,hs,n,Option.map_some]) h (qwj c)
end
end Go.Am
namespace Go.Am
open Go
variable {P : Program} {T : Tab}
section
variable {base : Nat} {ops : Array Oper} {dr : Dr} {l : List Oper} {sl : List (Nat × V)} {hp : List (Nat × Blk)} {nx : Nat} {K : AS→Prop} {ty : TypeId} {pos : String} {af : Array Edge} {t : Tmp} {g : Option (Nat × Bool)} {v : V}
theorem Qw {a : TypeId} {i : TI} (d : Qz ops ⟨sl,hp,nx⟩ ⟨some t,.alloc a,ty,pos,af,g⟩ = some true) (b : T a = some i)
    (h : OpsK P T base ops dr l ⟨(t,.ref nx i.size 0 0)::sl,(nx,.dat i.size [i.zero])::hp,nx + 1⟩ K) (c : okF dr l.length (fp ⟨sl,hp,nx⟩ (.alloc a)) = true:=by rfl) : OpsK P T base ops dr (⟨some t,.alloc a,ty,pos,af,g⟩::l) ⟨sl,hp,nx⟩ K:=
  Yk d (v:=.ref nx i.size 0 0) (st1:=⟨sl,(nx,.dat i.size [i.zero])::hp,nx + 1⟩) (by simp only [opFn,b,Option.map_some];rfl) h (qna rfl c)
theorem q158 {cs : List DV} : sub cs 0 cs.length = some cs:=by simp [sub]
theorem qwk {x y : Operand} {a b : TypeId} {i j : TI} {n es len : Nat} {xs ys : List (List DV)} {f : V} (r : Qz ops ⟨sl,hp,nx⟩ ⟨some t,.call {callee:=.builtin .append,args:=#[x,y],argTypes:=#[a,b]},ty,pos,af,g⟩ = some true)
    (u : T a = some i) (d : T b = some j) (z : AS.ev ⟨sl,hp,nx⟩ x = some (.hs n es 0 len)) (s : AS.ev ⟨sl,hp,nx⟩ y = some f) (hb : find hp n = some (.dat es xs)) (hl : len = xs.length) (w : Z5 ⟨sl,hp,nx⟩ f = some ys)
    (o : i.kind = .slice) (c : j.kind = .slice) (q : es = i.esize) (p : J7 i.esize f = true) (k : (len + ys.length) * (i.ebytes * 4)≤4294967296)
    (h : OpsK P T base ops dr l ⟨(t,.hs nx es 0 (len + ys.length))::sl,(nx,.dat es (xs ++ ys))::repl hp n .dead,nx + 1⟩ K) (m : okF dr l.length (fp ⟨sl,hp,nx⟩ (.call {callee:=.builtin .append,args:=#[x,y],argTypes:=#[a,b]})) = true:=by rfl) : OpsK P T base ops dr (⟨some t,.call {callee:=.builtin .append,args:=#[x,y],argTypes:=#[a,b]},ty,pos,af,g⟩::l) ⟨sl,hp,nx⟩ K:=by
  refine Yk r (v:=.hs nx es 0 (len + ys.length)) (st1:=⟨sl,(nx,.dat es (xs ++ ys))::repl hp n .dead,nx + 1⟩) ?_ h (qna rfl m);subst hl;have e : ((xs.drop 0).take xs.length ++ ys) = xs ++ ys:=by simp
  simp only [opFn,evL,z,s,Yh];simp only [List.getElem?_toArray,List.getElem?_cons_zero,List.getElem?_cons_succ,u,d];rw [qr ⟨o,c,p⟩];simp only [Z9,AS.blk,hb,w];rw [qr ⟨q6,trivial,k,q⟩,e];rfl
theorem qhm {x : Operand} (b : Qz ops ⟨sl,hp,nx⟩ ⟨some t,.move x,ty,pos,af,g⟩ = some true) (a : AS.ev ⟨sl,hp,nx⟩ x = some v)
    (h : OpsK P T base ops dr l ⟨(t,v)::sl,hp,nx⟩ K) : OpsK P T base ops dr (⟨some t,.move x,ty,pos,af,g⟩::l) ⟨sl,hp,nx⟩ K:=
  Yk b (v:=v) (st1:=⟨sl,hp,nx⟩) (by simp only [opFn,a,Option.map_some]) h (Jn rfl)
theorem qwl {x : Operand} (b : Qz ops ⟨sl,hp,nx⟩ ⟨some t,.assign x,ty,pos,af,g⟩ = some true) (a : AS.ev ⟨sl,hp,nx⟩ x = some v)
    (h : OpsK P T base ops dr l ⟨(t,v)::sl,hp,nx⟩ K) : OpsK P T base ops dr (⟨some t,.assign x,ty,pos,af,g⟩::l) ⟨sl,hp,nx⟩ K:=
  Yk b (v:=v) (st1:=⟨sl,hp,nx⟩) (by simp only [opFn,a,Option.map_some]) h (Jn rfl)
theorem qd {op : Op} {j : Nat} {w : Bool} (a : Qz ops ⟨sl,hp,nx⟩ ⟨some t,op,ty,pos,af,some (j,w)⟩ = some false) (h : OpsK P T base ops dr l ⟨(t,.d (.tup []))::sl,hp,nx⟩ K) : OpsK P T base ops dr (⟨some t,op,ty,pos,af,some (j,w)⟩::l) ⟨sl,hp,nx⟩ K:=
  qx2 a h
theorem qwu {x : Operand} {a : TypeId} {i : TI} {es : Nat} {xs : List (List DV)} {m : Nat} (b : Qz ops ⟨sl,hp,nx⟩ ⟨some t,.call {callee:=.builtin .len,args:=#[x],argTypes:=#[a]},ty,pos,af,g⟩ = some true) (f : T a = some i) (j : i.kind = .slice) (k : AS.ev ⟨sl,hp,nx⟩ x = some (.d (.sl es xs))) (c : xs.length = m)
    (h : OpsK P T base ops dr l ⟨(t,.d (.int .i64 m))::sl,hp,nx⟩ K) : OpsK P T base ops dr (⟨some t,.call {callee:=.builtin .len,args:=#[x],argTypes:=#[a]},ty,pos,af,g⟩::l) ⟨sl,hp,nx⟩ K:=by
  subst c;exact Yk b (v:=.d (.int .i64 xs.length)) (st1:=⟨sl,hp,nx⟩) (by simp only [opFn,evL,k,Yh];simp only [List.getElem?_toArray,List.getElem?_cons_zero,f,j]) h (Jn rfl)
end
end Go.Am
namespace Go.Am
open Go
def iter {α β : Type} (f : α→Option (α ⊕ β)) : Nat→α→Option β
  | 0,_=>none
  | n + 1,a=>match f a with
    | none=>none
    | some (.inl a')=>iter f n a'
    | some (.inr b)=>some b
theorem qgx {α β : Type} {f : α→Option (α ⊕ β)} : ∀ {n : Nat} {a : α} {b : β},iter f n a = some b→∀ m,n≤m→iter f m a = some b
  | 0,_,_,h,_,_=>by simp [iter] at h
  | n + 1,a,b,h,m,hm=>by
    obtain ⟨k,rfl⟩ : ∃ k,m = k + 1:=⟨m - 1,q6⟩
    simp only [iter] at h ⊢
    split at h
    · simp at h
    · rename_i a' c;exact qgx h k q6
    · exact h
theorem qva {α β : Type} {f : α→Option (α ⊕ β)} {n m : Nat} {a : α} {b c : β} (h : iter f n a = some b) (d : iter f m a = some c) : b = c:=by
  have j:=qgx h (max n m) q6;have g:=qgx d (max n m) q6;grind
open Classical in
noncomputable def loop {α β : Type} (f : α→Option (α ⊕ β)) (a : α) : Option β:=
  if h : ∃ b n,iter f n a = some b then some h.choose else none
theorem qa1 {α β : Type} {f : α→Option (α ⊕ β)} {a : α} {b : β} : loop f a = some b↔∃ n,iter f n a = some b:=by
  unfold loop;split
  · rename_i h;constructor
    · grind
    · rintro ⟨n,d⟩;obtain ⟨m,c⟩:=h.choose_spec;rw [qva c d]
  grind
theorem Kw {α β : Type} {f : α→Option (α ⊕ β)} {a a' : α} (h : f a = some (.inl a')) : loop f a = loop f a':=by
  apply Option.ext;intro b;rw [qa1,qa1];constructor
  · rintro ⟨n,c⟩
    cases n with
    | zero=>simp [iter] at c
    | succ n=>simp only [iter,h] at c;exact ⟨n,c⟩
  · rintro ⟨n,c⟩;exact ⟨n + 1,by simp only [iter,h];exact c⟩
theorem Kg {α β : Type} {f : α→Option (α ⊕ β)} {a : α} {b : β} (h : f a = some (.inr b)) : loop f a = some b:=
  qa1.2 ⟨1,by simp [iter,h]⟩
theorem qvv {α β : Type} {f : α→Option (α ⊕ β)} (I : α→Prop) (μ : α→Nat) (Q : β→Prop) (step : ∀ a,I a→(∃ a',f a = some (.inl a')∧I a'∧μ a' < μ a)∨∃ b,f a = some (.inr b)∧Q b) {a : α} (h : I a) : ∃ b,loop f a = some b∧Q b:=by
  generalize j : μ a = n
  induction n using Nat.strongRecOn generalizing a with
  | _ n ih=>
    rcases step a h with ⟨a',d,c,g⟩ | ⟨b,d,c⟩
    · rw [Kw d];exact ih _ (j ▸ g) c rfl
    · exact ⟨b,Kg d,c⟩
def w64 (x : Int) : Int:=IntKind.i64.wrap x
theorem Qg {x : Int} (h : -9223372036854775808≤x∧x≤9223372036854775807) : w64 x = x:=qj8 h
def idx {α : Type} (xs : List α) (i : Int) : Option α:=if 0≤i then xs[i.toNat]? else none
def app {α : Type} (c : Nat) (xs ys : List α) : Option (List α):=if (xs.length + ys.length) * (c * 4)≤4294967296 then some (xs ++ ys) else none
def sub2 (n : Nat) (a b : Int) : Option (Nat × Nat):=if 0≤a∧a≤b∧b≤n then some (a.toNat,b.toNat - a.toNat) else none
def cpyw {α : Type} (xs : List α) (w : Nat × Nat) (ys : List α) : List α:=splice xs w.1 (ys.take (min ys.length w.2))
theorem leb {n m : Nat} (h : Nat.ble n m = true) : n≤m:=by simpa using h
theorem qkv {α : Type} {xs ys : List α} {w : Nat × Nat} (h : w.1 + w.2≤xs.length) : (cpyw xs w ys).length = xs.length:=by
  simp [cpyw,splice];omega
theorem ltd {n m : Nat} (h : Nat.blt n m = true) : n < m:=by simpa [Nat.blt_eq] using h
def eI (k : IntKind) (x : Int) : List DV:=[.int k x]
def eB (b : Bool) : List DV:=[.bool b]
theorem qdc {α : Type} {xs : List α} {i : Int} {v : α} (h : idx xs i = some v) : 0≤i∧xs[i.toNat]? = some v∧i.toNat < xs.length:=by
  unfold idx at h;grind
theorem q16u {α β : Type} {o : Option α} {f : α→Option β} {x : β} (h : o.bind f = some x) : ∃ v,o = some v∧f v = some x:=by
  cases o with
  | none=>cases h
  | some v=>exact ⟨v,rfl,h⟩
theorem q170 {α : Type} {a b : α} (h : some a = some b) : a = b:=qf7 h
section
variable {P : Program} {T : Tab} {base : Nat} {cs : List Code} {st : AS} {K : Ex→AS→Prop}
theorem RunK.mono {a : Ex→AS→Prop} : ∀ {cs : List Code} {st : AS},RunK P T base cs st K→(∀ ex st,K ex st→a ex st)→RunK P T base cs st a
  | [],_,h,hk=>hk _ _ h
  | c::cs,st,h,hk=>q3z.mono h fun ex st h=>by
    cases ex with
    | nor=>exact RunK.mono (cs:=cs) h hk
    | exit i=>exact hk _ _ h
    | ret=>exact hk _ _ h
theorem qm {α : Type} {c : Operand} {a b : Code} {t : Bool} {X Y : Option α} {x : α} (f : st.ev c = some (.d (.bool t))) (h : cond t X Y = some x) (g : t = true→X = some x→RunK P T base (a::cs) st K) (j : t = false→Y = some x→RunK P T base (b::cs) st K) :
    RunK P T base (.cond c a b::cs) st K:=by
  cases t with
  | true=>exact Zk f (g rfl h)
  | false=>exact Zj f (j rfl h)
theorem Qi {α β : Type} {body : Code} (f : α→Option (α ⊕ β)) (S : α→AS) (j : α) (m : β) (p : loop f j = some m) (l : WkE base st (S j))
    (round : ∀ a y,f a = some y→RunK P T base [body] (S a) (fun ex st'=>match ex with
      | .nor=>∃ a',y = .inl a'∧WkE base st' (S a')
      | ex=>∃ b,y = .inr b∧(b = m→K ex st'))) : RunK P T base (.loop body::cs) st K:=by
  obtain ⟨n,q⟩:=qa1.1 p;refine qzt (fun x : Nat × α=>S x.2) (fun x=>iter f x.1 x.2 = some m) (fun x=>x.1) (n,j) l q ?_;rintro ⟨k,a⟩ c
  cases k with
  | zero=>simp [iter] at c
  | succ k=>
    simp only [iter] at c;split at c
    · cases c
    · rename_i a' g;refine (round a _ g).mono ?_;intro ex st' h
      cases ex with
      | nor=>
        obtain ⟨a'',d,o⟩:=h;cases d;exact ⟨(k,a'),c,qg,o⟩
      | exit i=>obtain ⟨b,d,_⟩:=h;cases d
      | ret=>obtain ⟨b,d,_⟩:=h;cases d
    · rename_i b g;cases c;refine (round a _ g).mono ?_;grind
theorem U3 {id : Nat} {N : AS→Prop} (h : N st) : q42 id N K (.exit id) st:=by simpa [q42] using h
theorem Qq {id : Nat} {N : AS→Prop} (h : N st) : q42 id N K .nor st:=h
theorem Yu {β : Type} {c : Code} (E : β→Prop) (S : β→AS) (d : cs≠[]) (j : RunK P T base [c] st (qc7 (fun st'=>∃ b,E b∧WkE base st' (S b)) K)) (a : ∀ b,E b→RunK P T base cs (S b) K) : RunK P T base (c::cs) st K:=by
  obtain ⟨ex,st1,g,f⟩:=q5r j;refine ⟨ex,st1,g,?_⟩
  cases ex with
  | nor=>obtain ⟨b,hb,h⟩:=f;exact Ye h (a b hb) d
  | exit i=>exact f
  | ret=>exact f
theorem Qm {β : Type} {id : Nat} {a : Code} (E : β→Prop) (S : β→AS) (d : cs≠[]) (g : RunK P T base [a] st (q42 id (fun st'=>∃ b,E b∧WkE base st' (S b)) K)) (c : ∀ b,E b→RunK P T base cs (S b) K) : RunK P T base (.block id a::cs) st K:=by
  refine Q7 (g.mono ?_);intro ex st' h
  cases ex with
  | nor=>obtain ⟨b,hb,f⟩:=h;exact Ye f (c b hb) d
  | ret=>exact h
  | exit i=>
    simp only [q42] at h ⊢;split
    · rename_i hi;rw [qr hi] at h;obtain ⟨b,hb,f⟩:=h;exact Ye f (c b hb) d
    grind
theorem q7e {β : Type} {c : Code} (E : β→Prop) (S : β→AS) (f : RunK P T base [c] st (qc7 (fun st'=>∃ b,E b∧WkE base st' (S b)) K)) (a : ∀ b st',E b→WkE base st' (S b)→K .nor st') : RunK P T base [c] st K:=by
  refine f.mono ?_;intro ex st' h
  cases ex with
  | nor=>obtain ⟨b,hb,d⟩:=h;exact a b st' hb d
  | exit i=>exact h
  | ret=>exact h
end
section
variable {P : Program} {T : Tab} {base : Nat} {ops : Array Oper} {dr : Dr} {l : List Oper} {sl : List (Nat × V)} {hp : List (Nat × Blk)} {nx : Nat} {K : AS→Prop} {ty : TypeId} {pos : String} {af : Array Edge} {t : Tmp} {g : Option (Nat × Bool)}
theorem qx4 {op : Op} (v : V) (c : Qz ops ⟨sl,hp,nx⟩ ⟨some t,op,ty,pos,af,g⟩ = some true) (b : opFn T ⟨sl,hp,nx⟩ op = some (v,⟨sl,hp,nx⟩)) (h : OpsK P T base ops dr l ⟨(t,v)::sl,hp,nx⟩ K) (a : okO dr l.length ⟨sl,hp,nx⟩ (op) ⟨sl,hp,nx⟩ = true:=by rfl) : OpsK P T base ops dr (⟨some t,op,ty,pos,af,g⟩::l) ⟨sl,hp,nx⟩ K:=
  Yk c b h a
theorem qwy {op : Op} (v : V) (b : Blk) (d : Qz ops ⟨sl,hp,nx⟩ ⟨some t,op,ty,pos,af,g⟩ = some true) (c : opFn T ⟨sl,hp,nx⟩ op = some (v,⟨sl,(nx,b)::hp,nx + 1⟩)) (h : OpsK P T base ops dr l ⟨(t,v)::sl,(nx,b)::hp,nx + 1⟩ K) (a : okO dr l.length ⟨sl,hp,nx⟩ (op) ⟨sl,(nx,b)::hp,nx + 1⟩ = true:=by rfl) : OpsK P T base ops dr (⟨some t,op,ty,pos,af,g⟩::l) ⟨sl,hp,nx⟩ K:=
  Yk d c h a
theorem q4f {op : Op} {es len : Nat} (xs : List (List DV)) (a : Qz ops ⟨sl,hp,nx⟩ ⟨some t,op,ty,pos,af,g⟩ = some true) (b : opFn T ⟨sl,hp,nx⟩ op = some (.hs nx es 0 len,⟨sl,(nx,.dat es xs)::hp,nx + 1⟩)) (f : len = xs.length) (j : touch op = 2) (k : find hp nx = none) (h : OpsK P T base ops dr l ⟨(t,.d (.sl es xs))::sl,hp,nx + 1⟩ K) (c : okF dr l.length (fp ⟨sl,hp,nx⟩ op) = true:=by rfl) : OpsK P T base ops dr (⟨some t,op,ty,pos,af,g⟩::l) ⟨sl,hp,nx⟩ K:=by
  subst f;exact qwz (n:=nx) (hp2:=hp) (st1:=⟨sl,(nx,.dat es xs)::hp,nx + 1⟩) a b j ⟨rfl,rfl⟩ rfl k h c
theorem qx3 {op : Op} (n : Nat) (b : Blk) (c : Qz ops ⟨sl,hp,nx⟩ ⟨none,op,ty,pos,af,g⟩ = some true) (d : opFn T ⟨sl,hp,nx⟩ op = some (.dead,⟨sl,repl hp n b,nx⟩)) (h : OpsK P T base ops dr l ⟨sl,repl hp n b,nx⟩ K) (a : okO dr l.length ⟨sl,hp,nx⟩ (op) ⟨sl,repl hp n b,nx⟩ = true:=by rfl) : OpsK P T base ops dr (⟨none,op,ty,pos,af,g⟩::l) ⟨sl,hp,nx⟩ K:=
  Yk c d h a
theorem Qa {α : Type} {x : Operand} {b : Bool} {X Y : Option α} {m : α} (a : Qz ops ⟨sl,hp,nx⟩ ⟨some t,.move x,ty,pos,af,g⟩ = some true) (c : AS.ev ⟨sl,hp,nx⟩ x = some (.d (.bool b))) (h : cond b X Y = some m)
    (f : X = some m→OpsK P T base ops dr l ⟨(t,.d (.bool true))::sl,hp,nx⟩ K) (j : Y = some m→OpsK P T base ops dr l ⟨(t,.d (.bool false))::sl,hp,nx⟩ K) : OpsK P T base ops dr (⟨some t,.move x,ty,pos,af,g⟩::l) ⟨sl,hp,nx⟩ K:=by
  cases b with
  | true=>exact qhm a c (f h)
  | false=>exact qhm a c (j h)
theorem q1r {dr : Dr} (hd : dr = none) {n m : List Oper} {st st1 st2 : AS} : Kt P T base ops dr n st st1→Kt P T base ops dr m st1 st2→Kt P T base ops dr (n ++ m) st st2
  | .nil,h2=>h2
  | .skip a b,h2=>.skip a (q1r hd b h2)
  | .op a b _ c,h2=>.op a b (by subst hd;rfl) (q1r hd c h2)
  | .opF a b c d e f _ g,h2=>.opF a b c d e f (by subst hd;rfl) (q1r hd g h2)
  | .callP a b c d e f g h _ i,h2=>.callP a b c d e f g h (by subst hd;rfl) (q1r hd i h2)
  | .callS a b c d e,h2=>.callS a b c d (q1r hd e h2)
  | .callF a b c d e f g h i,h2=>.callF a b c d e f g h (q1r hd i h2)
  | .callY a b c d e f g h i j k l,h2=>.callY a b c d e f g h i j k (q1r hd l h2)
  | .wk a b,h2=>.wk a (q1r hd b h2)
  | .piv _ _ _,_=>by cases hd
theorem qgg {F : List Fp} {m k : Nat} : fpAt (F.drop m) k = fpAt F (k + m):=by
  unfold fpAt;grind
theorem qwi {F : List Fp} {l a : List Oper} {dr : Dr} (hd : dr = some (F.drop a.length)) {st st1 : AS} {op : Op} (h : okO dr l.length st op st1 = true) : okO (some F) (l ++ a).length st op st1 = true:=by
  subst hd;simp only [okO,qgg] at h;simpa only [okO,List.length_append] using h
theorem qn9 {F : List Fp} {l a : List Oper} {dr : Dr} (hd : dr = some (F.drop a.length)) {x : Fp} (h : okF dr l.length x = true) : okF (some F) (l ++ a).length x = true:=by
  subst hd;simp only [okF,qgg] at h;simpa only [okF,List.length_append] using h
theorem qu5 {F : List Fp} {m : List Oper} {dr : Dr} {k : Dr} (r : k = some F) (hd : dr = some (F.drop m.length)) {n : List Oper} {st st1 st2 : AS} (p : Kt P T base ops dr n st st1) (q : Kt P T base ops k m st1 st2) : Kt P T base ops k (n ++ m) st st2:=by
  subst r
  induction n generalizing st with
  | nil=>cases p with
    | nil=>exact q
    | wk _ _=>cases hd
  | cons o l ih=>
    cases p with
    | skip a b=>exact .skip a (ih b)
    | op a b c d=>exact .op a b (qwi hd c) (ih d)
    | opF a b c d e f g h=>exact .opF a b c d e f (qn9 hd g) (ih h)
    | callP a b c d e f g h i j=>exact .callP a b c d e f g h (qn9 hd i) (ih j)
    | callS _ _ _ _ _=>cases hd
    | callF _ _ _ _ _ _ _ _ _=>cases hd
    | callY _ _ _ _ _ _ _ _ _ _ _ _=>cases hd
    | wk _ _=>cases hd
    | piv a b c=>
      cases hd;rw [qgg] at a;exact .piv (by show Up (fpAt F (l ++ m).length) = true;rw [List.length_append];exact a) b (ih c)
def qkx (dr : Dr) (k : Nat) : Dr:=match dr with
  | none=>none
  | some F=>some (F.drop k)
theorem qu4 {dr : Dr} {c a : List Oper} {st st1 st2 : AS} (d : Kt P T base ops (qkx dr a.length) c st st1) (b : Kt P T base ops dr a st1 st2) : Kt P T base ops dr (c ++ a) st st2:=by
  cases dr with
  | none=>exact q1r rfl d b
  | some F=>exact qu5 rfl rfl d b
theorem Qd (n : Nat) (Q : (List (Nat × V)→AS)→AS→Prop) (f : OpsK P T base ops (qkx dr (l.drop n).length) (l.take n) ⟨sl,hp,nx⟩ (Q fun p=>⟨p ++ sl,hp,nx⟩)) (b : ∀ st',Q (fun p=>⟨p ++ sl,hp,nx⟩) st'→OpsK P T base ops dr (l.drop n) st' K) : OpsK P T base ops dr l ⟨sl,hp,nx⟩ K:=by
  obtain ⟨st1,c,d⟩:=f;obtain ⟨st2,g,a⟩:=b st1 d;refine ⟨st2,?_,a⟩;have:=qu4 c g;simp_all
theorem qwq {α : Type} {x y : Operand} {a : TypeId} {i : TI} {k : IntKind} {n : Int} {es : Nat} {xs : List α} {enc : α→List DV} {v : α} (p : idx xs n = some v) (j : Qz ops ⟨sl,hp,nx⟩ ⟨some t,.indexAddr a x y,ty,pos,af,g⟩ = some true) (o : T a = some i)
    (q : AS.ev ⟨sl,hp,nx⟩ x = some (.d (.sl es (xs.map enc)))) (m : AS.ev ⟨sl,hp,nx⟩ y = some (.d (.int k n))) (b : i.kind = .slice) (f : es = i.esize)
    (h : OpsK P T base ops dr l ⟨(t,.dref (enc v) 0)::sl,hp,nx⟩ K) : OpsK P T base ops dr (⟨some t,.indexAddr a x y,ty,pos,af,g⟩::l) ⟨sl,hp,nx⟩ K:=by
  obtain ⟨c,r,_⟩:=qdc p;exact Yk j (v:=.dref (enc v) 0) (st1:=⟨sl,hp,nx⟩) (by simp [opFn,q,m,o,q4d,b,f,c,r]) h (Jn rfl)
theorem qwp {α : Type} {x y : Operand} {a : TypeId} {i : TI} {k : IntKind} {n : Int} {m es len : Nat} {xs : List α} {v : α} (q : idx xs n = some v) (r : len = xs.length) (j : Qz ops ⟨sl,hp,nx⟩ ⟨some t,.indexAddr a x y,ty,pos,af,g⟩ = some true) (p : T a = some i)
    (s : AS.ev ⟨sl,hp,nx⟩ x = some (.hs m es 0 len)) (o : AS.ev ⟨sl,hp,nx⟩ y = some (.d (.int k n))) (b : i.kind = .slice) (f : es = i.esize)
    (h : OpsK P T base ops dr l ⟨(t,.ref m es n.toNat 0)::sl,hp,nx⟩ K) : OpsK P T base ops dr (⟨some t,.indexAddr a x y,ty,pos,af,g⟩::l) ⟨sl,hp,nx⟩ K:=by
  subst r;obtain ⟨c,_,u⟩:=qdc q;exact Yk j (v:=.ref m es n.toNat 0) (st1:=⟨sl,hp,nx⟩) (by simp [opFn,s,o,p,q4d,b,f,c];omega) h (Jn rfl)
theorem qwv {α : Type} {p : Operand} {a : TypeId} {i : TI} {m es j : Nat} {n : Int} {xs : List α} {enc : α→List DV} {r : List DV} {v : α} (w : V) (k : idx xs n = some v) (c : Qz ops ⟨sl,hp,nx⟩ ⟨some t,.load a p,ty,pos,af,g⟩ = some true) (f : T a = some i)
    (q : AS.ev ⟨sl,hp,nx⟩ p = some (.ref m es n.toNat j)) (hb : find hp m = some (.dat es (xs.map enc))) (hs : sub (enc v) j i.size = some r) (o : (q1e i.agg r).map .d = some w)
    (h : OpsK P T base ops dr l ⟨(t,w)::sl,hp,nx⟩ K) (b : okF dr l.length (fp ⟨sl,hp,nx⟩ (.load a p)) = true:=by rfl) : OpsK P T base ops dr (⟨some t,.load a p,ty,pos,af,g⟩::l) ⟨sl,hp,nx⟩ K:=
  qhl c f q hb (by rw [List.getElem?_map,(qdc k).2.1];rfl) hs o h b
theorem K7 {α : Type} {p x : Operand} {k : TypeId} {i : TI} {m es j : Nat} {n : Int} {xs : List α} {enc : α→List DV} {v : α} (f : α) {u : V} {ds : List DV} (w : idx xs n = some v) (s : Qz ops ⟨sl,hp,nx⟩ ⟨none,.store k p x,ty,pos,af,g⟩ = some true) (t : T k = some i)
    (hp' : AS.ev ⟨sl,hp,nx⟩ p = some (.ref m es n.toNat j)) (y : AS.ev ⟨sl,hp,nx⟩ x = some u) (hb : find hp m = some (.dat es (xs.map enc))) (o : cellsOf u = ds.map .d) (z : ds.length = i.size) (r : ds.all Ym = true) (hj : j + i.size≤(enc v).length) (hs : splice (enc v) j ds = enc f)
    (h : OpsK P T base ops dr l ⟨sl,repl hp m (.dat es ((xs.set n.toNat f).map enc)),nx⟩ K) (q : okO dr l.length ⟨sl,hp,nx⟩ (.store k p x) ⟨sl,repl hp m (.dat es ((xs.set n.toNat f).map enc)),nx⟩ = true:=by rfl) : OpsK P T base ops dr (⟨none,.store k p x,ty,pos,af,g⟩::l) ⟨sl,hp,nx⟩ K:=by
  refine Yk s (v:=.dead) (st1:=⟨sl,repl hp m (.dat es ((xs.set n.toNat f).map enc)),nx⟩) ?_ h q;have a : (cellsOf u).all Ko = true:=by rw [o,List.all_map];exact r
  have b : (cellsOf u).length = i.size:=by rw [o];simpa using z
  have c : (xs.map enc)[n.toNat]? = some (enc v):=by rw [List.getElem?_map,(qdc w).2.1];rfl
  simp only [opFn,t,hp',y,Js,AS.blk,hb,Nat.beq_refl,c];rw [qp (by simp [a,b]),qr hj,o,qfd];simp only [hs,List.map_set,AS.setBlk];rfl
theorem qnc {α : Type} {x : Operand} {a : TypeId} {i : TI} {es : Nat} {xs : List α} {enc : α→List DV} (b : Qz ops ⟨sl,hp,nx⟩ ⟨some t,.call {callee:=.builtin .len,args:=#[x],argTypes:=#[a]},ty,pos,af,g⟩ = some true) (c : T a = some i) (f : i.kind = .slice) (j : AS.ev ⟨sl,hp,nx⟩ x = some (.d (.sl es (xs.map enc))))
    (h : OpsK P T base ops dr l ⟨(t,.d (.int .i64 (xs.length : Int)))::sl,hp,nx⟩ K) : OpsK P T base ops dr (⟨some t,.call {callee:=.builtin .len,args:=#[x],argTypes:=#[a]},ty,pos,af,g⟩::l) ⟨sl,hp,nx⟩ K:=
  qwu b c f j qg h
theorem Ks {α : Type} {x y : Operand} {a d : TypeId} {i j : TI} {n es len : Nat} {xs ys zs : List α} {enc : α→List DV} (m : V) (c : app i.ebytes xs ys = some zs) (b : len = xs.length) (u : Qz ops ⟨sl,hp,nx⟩ ⟨some t,.call {callee:=.builtin .append,args:=#[x,y],argTypes:=#[a,d]},ty,pos,af,g⟩ = some true)
    (w : T a = some i) (k : T d = some j) (hx : AS.ev ⟨sl,hp,nx⟩ x = some (.hs n es 0 len)) (v : AS.ev ⟨sl,hp,nx⟩ y = some m) (hb : find hp n = some (.dat es (xs.map enc))) (z : Z5 ⟨sl,hp,nx⟩ m = some (ys.map enc))
    (q : i.kind = .slice) (f : j.kind = .slice) (s : es = i.esize) (r : J7 i.esize m = true)
    (h : OpsK P T base ops dr l ⟨(t,.hs nx es 0 zs.length)::sl,(nx,.dat es (zs.map enc))::repl hp n .dead,nx + 1⟩ K) (p : okF dr l.length (fp ⟨sl,hp,nx⟩ (.call {callee:=.builtin .append,args:=#[x,y],argTypes:=#[a,d]})) = true:=by rfl) : OpsK P T base ops dr (⟨some t,.call {callee:=.builtin .append,args:=#[x,y],argTypes:=#[a,d]},ty,pos,af,g⟩::l) ⟨sl,hp,nx⟩ K:=by
  subst b;unfold app at c;split at c
  · rename_i o;cases c;refine qwk u w k hx v hb qg z q f s r (by simpa [Nat.mul_assoc] using o) ?_ p;grind
  · cases c
theorem Kq {α : Type} {n es len : Nat} {ys : List α} {enc : α→List DV} (a : len = ys.length) (hb : find hp n = some (.dat es (ys.map enc))) : Z5 ⟨sl,hp,nx⟩ (.hs n es 0 len) = some (ys.map enc):=by
  subst a;simp only [Z5,AS.blk,hb];grind
theorem q9g {o : Operand} {k : IntKind} {a : Int} {d : Nat} {st : AS} (h : st.ev o = some (.d (.int k a))) (b : 0≤a) : bound st d (some o) = some a.toNat:=by
  simp [bound,h,b]
theorem qa5 {x : Operand} {f : TypeId} {lo hi : Option Operand} {i : TI} {n es len : Nat} {a b : Int} {w : Nat × Nat} (c : sub2 len a b = some w) (o : Qz ops ⟨sl,hp,nx⟩ ⟨some t,.slice f x lo hi none,ty,pos,af,g⟩ = some true) (p : T f = some i) (m : i.kind = .slice) (r : es = i.esize)
    (q : AS.ev ⟨sl,hp,nx⟩ x = some (.hs n es 0 len)) (d : 0≤a→bound ⟨sl,hp,nx⟩ 0 lo = some a.toNat) (j : 0≤b→bound ⟨sl,hp,nx⟩ len hi = some b.toNat)
    (h : OpsK P T base ops dr l ⟨(t,.hs n es w.1 w.2)::sl,hp,nx⟩ K) : OpsK P T base ops dr (⟨some t,.slice f x lo hi none,ty,pos,af,g⟩::l) ⟨sl,hp,nx⟩ K:=by
  unfold sub2 at c;split at c
  · rename_i k;cases c;refine Yk o (v:=.hs n es a.toNat (b.toNat - a.toNat)) (st1:=⟨sl,hp,nx⟩) ?_ h (Jn rfl);simp only [opFn,p,q,m,lenV,d k.1,j q6,qe8];grind
  · cases c
theorem qby {n : Nat} {a b : Int} {w : Nat × Nat} (h : sub2 n a b = some w) : w.1 + w.2≤n:=by
  unfold sub2 at h;grind
theorem q14x {α β : Type} (f : α→β) (xs ys : List α) (j : Nat) : splice (xs.map f) j (ys.map f) = (splice xs j ys).map f:=by
  simp [splice,List.map_take,List.map_drop]
theorem qwn {α : Type} {x y : Operand} {a b : TypeId} {i j : TI} {n es : Nat} {w : Nat × Nat} {xs ys : List α} {enc : α→List DV} (k : V) (z : w.1 + w.2≤xs.length) (r : Qz ops ⟨sl,hp,nx⟩ ⟨some t,.call {callee:=.builtin .copy,args:=#[x,y],argTypes:=#[a,b]},ty,pos,af,g⟩ = some true)
    (u : T a = some i) (f : T b = some j) (hx : AS.ev ⟨sl,hp,nx⟩ x = some (.hs n es w.1 w.2)) (s : AS.ev ⟨sl,hp,nx⟩ y = some k) (hb : find hp n = some (.dat es (xs.map enc))) (hc : Z5 ⟨sl,hp,nx⟩ k = some (ys.map enc))
    (o : i.kind = .slice) (c : j.kind = .slice) (q : es = i.esize) (p : J7 i.esize k = true)
    (h : OpsK P T base ops dr l ⟨(t,.d (.int .i64 (min ys.length w.2 : Nat)))::sl,repl hp n (.dat es ((cpyw xs w ys).map enc)),nx⟩ K) (m : okO dr l.length ⟨sl,hp,nx⟩ (.call {callee:=.builtin .copy,args:=#[x,y],argTypes:=#[a,b]}) ⟨sl,repl hp n (.dat es ((cpyw xs w ys).map enc)),nx⟩ = true:=by rfl) : OpsK P T base ops dr (⟨some t,.call {callee:=.builtin .copy,args:=#[x,y],argTypes:=#[a,b]},ty,pos,af,g⟩::l) ⟨sl,hp,nx⟩ K:=by
  refine Yk r (v:=.d (.int .i64 (min ys.length w.2 : Nat))) (st1:=⟨sl,repl hp n (.dat es ((cpyw xs w ys).map enc)),nx⟩) ?_ h m;simp only [opFn,evL,hx,s,Yh];simp only [List.getElem?_toArray,List.getElem?_cons_zero,List.getElem?_cons_succ,u,f];rw [qr ⟨o,c,by simp [J7,q],p⟩];simp only [copyV,AS.blk,hb,hc];rw [qr ⟨by simpa using z,trivial⟩];simp only [List.length_map,cpyw,← List.map_take,q14x,AS.setBlk]
theorem qtj {α : Type} {n es : Nat} {w : Nat × Nat} {ys : List α} {enc : α→List DV} (a : w.1 + w.2≤ys.length) (hb : find hp n = some (.dat es (ys.map enc))) : Z5 ⟨sl,hp,nx⟩ (.hs n es w.1 w.2) = some (((ys.drop w.1).take w.2).map enc):=by
  simp only [Z5,AS.blk,hb];simp_all
theorem Us {k c : IntKind} {a b : Int} {r : List V} : minI false (.d (.int k a)) (.d (.int c b)::r) = minI false (.d (.int k (min a b))) r:=by
  simp only [minI];grind
theorem Jb {k c : IntKind} {a b : Int} {r : List V} : minI true (.d (.int k a)) (.d (.int c b)::r) = minI true (.d (.int k (max a b))) r:=by
  simp only [minI];grind
theorem Uu {xs : Array Operand} {ats : Array TypeId} {b : List V} {k : IntKind} {a : Int} {r : Int} (c : Qz ops ⟨sl,hp,nx⟩ ⟨some t,.call {callee:=.builtin .min,args:=xs,argTypes:=ats},ty,pos,af,g⟩ = some true) (j : evL (AS.ev ⟨sl,hp,nx⟩) xs.toList = some (.d (.int k a)::b)) (f : minI false (.d (.int k a)) b = some (.d (.int k r)))
    (h : OpsK P T base ops dr l ⟨(t,.d (.int k r))::sl,hp,nx⟩ K) : OpsK P T base ops dr (⟨some t,.call {callee:=.builtin .min,args:=xs,argTypes:=ats},ty,pos,af,g⟩::l) ⟨sl,hp,nx⟩ K:=
  Yk c (v:=.d (.int k r)) (st1:=⟨sl,hp,nx⟩) (by simp [opFn,j,Yh,f]) h (Jn rfl)
theorem Jc {xs : Array Operand} {ats : Array TypeId} {b : List V} {k : IntKind} {a : Int} {r : Int} (c : Qz ops ⟨sl,hp,nx⟩ ⟨some t,.call {callee:=.builtin .max,args:=xs,argTypes:=ats},ty,pos,af,g⟩ = some true) (j : evL (AS.ev ⟨sl,hp,nx⟩) xs.toList = some (.d (.int k a)::b)) (f : minI true (.d (.int k a)) b = some (.d (.int k r)))
    (h : OpsK P T base ops dr l ⟨(t,.d (.int k r))::sl,hp,nx⟩ K) : OpsK P T base ops dr (⟨some t,.call {callee:=.builtin .max,args:=xs,argTypes:=ats},ty,pos,af,g⟩::l) ⟨sl,hp,nx⟩ K:=
  Yk c (v:=.d (.int k r)) (st1:=⟨sl,hp,nx⟩) (by simp [opFn,j,Yh,f]) h (Jn rfl)
theorem q3d {c : Call} {f : FuncId} {ds : List DV} {r : DV} (a : List V) (b : Pure P T f ds r) (j : Qz ops ⟨sl,hp,nx⟩ ⟨some t,.call c,ty,pos,af,g⟩ = some true) (k : callee ⟨sl,hp,nx⟩ c = some (f,a)) (hd : Kx hp a = some ds)
    (hs : (a.all V.isD = true∨r.scalar = true)) (h : OpsK P T base ops dr l ⟨(t,.d r)::sl,hp,nx⟩ K) (m : okF dr l.length (fpC a) = true:=by rfl) : OpsK P T base ops dr (⟨some t,.call c,ty,pos,af,g⟩::l) ⟨sl,hp,nx⟩ K:=
  qnb j rfl k hd hs b h m
theorem Zu {hp : List (Nat × Blk)} {v : V} {d : DV} {a : List V} {ds : List DV} (h : toD hp 8 v = some d) (b : Kx hp a = some ds) : Kx hp (v::a) = some (d::ds):=by
  simp [Kx,h,b]
theorem Z6 {α : Type} {k n es len : Nat} {ys : List α} {enc : α→List DV} (a : len = ys.length) (hb : find hp n = some (.dat es (ys.map enc))) : toD hp (k + 1) (.hs n es 0 len) = some (.sl es (ys.map enc)):=by
  subst a;simp only [toD,hb];grind
theorem q3y {k : Nat} {a : List V} {ds : List DV} (h : Zi (toD hp k) a = some ds) : toD hp (k + 1) (.tup a) = some (.tup ds):=by simp [toD,h]
theorem qqk {k : Nat} {a : List V} {ds : List DV} (h : Zi (toD hp k) a = some ds) : toD hp (k + 1) (.agg a) = some (.agg ds):=by simp [toD,h]
theorem qql {k : Nat} {f : FuncId} {a : List V} {ds : List DV} (h : Zi (toD hp k) a = some ds) : toD hp (k + 1) (.fn f a) = some (.fn f ds):=by simp [toD,h]
theorem Y2 {k : Nat} {v : V} {d : DV} {a : List V} {ds : List DV} (h : toD hp k v = some d) (b : Zi (toD hp k) a = some ds) : Zi (toD hp k) (v::a) = some (d::ds):=by simp [Zi,h,b]
inductive DLeL : List DV→List DV→Prop
  | nil : DLeL [] []
  | cons {x y : DV} {xs ys : List DV} : DLe x y→DLeL xs ys→DLeL (x::xs) (y::ys)
theorem DLeL.len {xs ys : List DV} (h : DLeL xs ys) : xs.length = ys.length:=by
  induction h with
  | nil=>rfl
  | cons _ _ ih=>simp [ih]
theorem DLeL.get {xs ys : List DV} (h : DLeL xs ys) : ∀ (i : Nat) (x y : DV),xs[i]? = some x→ys[i]? = some y→DLe x y:=by
  induction h with
  | nil=>intro i x y h;simp at h
  | cons h1 _ ih=>grind
theorem Ku {xs ys : List DV} (h : DLeL xs ys) : DLe (.tup xs) (.tup ys):=.tup h.len h.get
theorem q2s {xs ys : List DV} (h : DLeL xs ys) : DLe (.agg xs) (.agg ys):=.agg h.len h.get
theorem finD {ex : Ex} {st : AS} {b : List ResultVar} {v : V} {r a : DV} (f : ex = .nor∨ex = .ret) (d : resV T st b = some v) (g : toD st.hp 8 v = some a) (c : DLe a r) : (ex = .nor∨ex = .ret)∧∃ v a,resV T st b = some v∧toD st.hp 8 v = some a∧DLe a r:=
  ⟨f,v,a,d,g,c⟩
end
theorem qr4 {α : Type} {st : AS} {ρ : Nat→Nat} {fz ph : List Nat} {nx n es len : Nat} {ys : List α} {enc : α→List DV} (a : len = ys.length) (hb : st.blk n = some (.dat es (ys.map enc))) (b : n∈fz) : Wv st ρ fz ph nx (.hs n es 0 len) (.d (.sl es (ys.map enc))):=by
  subst a;exact .frz hb b qg (by rw [List.drop_zero,List.take_of_length_le qg]) rfl
theorem K8 {st : AS} {ρ : Nat→Nat} {fz ph : List Nat} {nx n m es o l l' : Nat} (c : l = l') (d : ρ m = n) (a : m ∉ ph) (b : m < nx) : Wv st ρ fz ph nx (.hs n es o l) (.hs m es o l'):=c ▸ .hs d a b
inductive WvC (st : AS) (ρ : Nat→Nat) (fz ph : List Nat) (nx : Nat) : List V→List V→Prop
  | nil : WvC st ρ fz ph nx [] []
  | cons {c d : V} {cs ds : List V} : Wv st ρ fz ph nx c d→Ko d = true→WvC st ρ fz ph nx cs ds→WvC st ρ fz ph nx (c::cs) (d::ds)
theorem WvC.len {st : AS} {ρ : Nat→Nat} {fz ph : List Nat} {nx : Nat} {cs ds : List V} (h : WvC st ρ fz ph nx cs ds) : cs.length = ds.length:=by
  induction h with
  | nil=>rfl
  | cons _ _ _ ih=>simp [ih]
theorem WvC.get {st : AS} {ρ : Nat→Nat} {fz ph : List Nat} {nx : Nat} {cs ds : List V} (h : WvC st ρ fz ph nx cs ds) : ∀ (j : Nat) (c d : V),cs[j]? = some c→ds[j]? = some d→Wv st ρ fz ph nx c d∧Ko d = true:=by
  induction h with
  | nil=>intro i x y h;simp at h
  | cons h1 h2 _ ih=>grind
theorem Jt {st : AS} {ρ : Nat→Nat} {fz ph : List Nat} {nx es : Nat} {cs ds : List V} (h : WvC st ρ fz ph nx cs ds) : Wb st ρ fz ph nx (.cel es [cs]) (.cel es [ds]):=by
  refine .cel rfl fun i x y a b=>?_
  cases i with
  | zero=>simp at a b;subst a b;exact ⟨h.len,h.get⟩
  | succ i=>simp at a
theorem qj7 {st : AS} {ρ : Nat→Nat} {fz ph : List Nat} {nx es : Nat} {cs : List DV} {ds : List V} (h : WvC st ρ fz ph nx (cs.map .d) ds) : Wb st ρ fz ph nx (.dat es [cs]) (.cel es [ds]):=by
  refine .datcel rfl fun i x y a b=>?_
  cases i with
  | zero=>
    simp at a b;subst a b;exact ⟨by simpa using h.len,fun j c d f hd=>h.get j (.d c) d (by simp [f]) hd⟩
  | succ i=>simp at a
inductive WvL (st : AS) (ρ : Nat→Nat) (fz ph : List Nat) (nx : Nat) : List V→List V→Prop
  | nil : WvL st ρ fz ph nx [] []
  | cons {c d : V} {cs ds : List V} : Wv st ρ fz ph nx c d→WvL st ρ fz ph nx cs ds→WvL st ρ fz ph nx (c::cs) (d::ds)
theorem WvL.len {st : AS} {ρ : Nat→Nat} {fz ph : List Nat} {nx : Nat} {cs ds : List V} (h : WvL st ρ fz ph nx cs ds) : cs.length = ds.length:=by
  induction h with
  | nil=>rfl
  | cons _ _ ih=>simp [ih]
theorem WvL.get {st : AS} {ρ : Nat→Nat} {fz ph : List Nat} {nx : Nat} {cs ds : List V} (h : WvL st ρ fz ph nx cs ds) : ∀ (j : Nat) (c d : V),cs[j]? = some c→ds[j]? = some d→Wv st ρ fz ph nx c d:=by
  induction h with
  | nil=>intro i x y h;simp at h
  | cons h1 _ ih=>grind
theorem q2k {st : AS} {ρ : Nat→Nat} {fz ph : List Nat} {nx : Nat} {f : FuncId} {cs ds : List V} (h : WvL st ρ fz ph nx cs ds) : Wv st ρ fz ph nx (.fn f cs) (.fn f ds):=.fn h.len h.get
theorem qja {st : AS} {ρ : Nat→Nat} {fz ph : List Nat} {nx : Nat} {cs ds : List V} (h : WvL st ρ fz ph nx cs ds) : Wv st ρ fz ph nx (.tup cs) (.tup ds):=.tup h.len h.get
theorem q16n {st : AS} {ρ : Nat→Nat} {fz ph : List Nat} {nx : Nat} {cs : List DV} {ds : List V} (h : WvL st ρ fz ph nx (cs.map .d) ds) : Wv st ρ fz ph nx (.d (.tup cs)) (.tup ds):=
  .dtup (by have:=h.len;simpa using this) fun i c d a hd=>h.get i _ d (by simp [a]) hd
theorem q16m {st : AS} {ρ : Nat→Nat} {fz ph : List Nat} {nx : Nat} {cs : List DV} {ds : List V} (h : WvL st ρ fz ph nx (cs.map .d) ds) : Wv st ρ fz ph nx (.d (.agg cs)) (.agg ds):=
  .dagg (by have:=h.len;simpa using this) fun i c d a hd=>h.get i _ d (by simp [a]) hd
theorem qf4 {st : AS} {ρ : Nat→Nat} {fz ph : List Nat} {nx : Nat} {cs ds : List V} (h : WvL st ρ fz ph nx cs ds) : Wv st ρ fz ph nx (.agg cs) (.agg ds):=.agg h.len h.get
theorem qlb {P : Program} {T : Tab} {f : FuncId} {ds a : List DV} (j : DLeL a ds) {k : List V} {hp hp' : List (Nat × Blk)} {nx nx' : Nat} {v : V} : Ka P T f k hp nx v hp' nx'→k = ds.map .d→hp = []→nx = 0→Ka P T f (a.map .d) [] 0 v hp' nx'
  | .wk e w,g,hh,hn=>by
    have h:=qlb j e g hh hn
    subst hh hn
    exact .wk h w
  | .mk h1 h2 h3 h4 h5 h6 h7 h8,g,hh,hn=>by
    subst g hh hn
    refine .mk h1 h2 h3 h4 (by simpa [j.len] using h5) (.wk (ρ:=fun n=>n) (fz:=[]) (ph:=[]) ⟨?_,?_,?_,?_,?_,?_,?_,?_⟩ h6) h7 h8
    · intro t p g
      simp only [AS.get,qck] at g ⊢
      simp only [Nat.zero_le,if_true,Nat.sub_zero,List.getElem?_map,Yc] at g ⊢
      obtain ⟨y,l,rfl⟩:=g
      obtain ⟨x,o⟩:=Zw (xs:=a) (i:=t) (by rw [j.len];exact Kh l)
      exact ⟨_,⟨x,o,rfl⟩,.d (j.get t x y o l)⟩
    · intro n b h;simp [AS.blk,find] at h
    · intro n m b c h;simp [AS.blk,find] at h
    · intro n b h;simp [AS.blk,find] at h
    · intro n h;rfl
    · exact Nat.le_refl _
    · intro n h;cases h
    · intro n h;cases h
theorem q4h {P : Program} {T : Tab} {f : FuncId} {ds a : List DV} {r : DV} (c : DLeL a ds) (h : Pure P T f ds r) : Pure P T f a r:=by
  obtain ⟨v,hp,nx,g,e,d,b⟩:=h;exact ⟨v,hp,nx,g,qlb c e rfl rfl rfl,d,b⟩
end Go.Am
namespace Go.Sh
open Go Go.Am
theorem Qv {α : Type} {xs : List α} {k : Nat} (h : k < xs.length) : idx xs (k : Int) = some xs[k]:=by simp [idx,h]
theorem Zy {α : Type} {xs : List α} {i : Int} {k : Nat} (hi : i = k) (h : k < xs.length) : idx xs i = some xs[k]:=by subst hi;exact Qv h
theorem Y7 {α : Type} {c : Nat} {xs ys : List α} (h : (xs.length + ys.length) * (c * 4)≤4294967296) : app c xs ys = some (xs ++ ys):=by simp [app,h]
theorem qte {α : Type} {c : Bool} {a b : α} : (cond c (some a) (some b)) = some (cond c a b):=by cases c <;> rfl
theorem J2 {α β σ : Type} {f : α→Option (α ⊕ β)} (mk : Nat→σ→α) (n : Nat) (I : Nat→σ→Prop) (Q : β→Prop)
    (step : ∀ k c,k < n→I k c→(∃ g,f (mk k c) = some (.inl (mk (k + 1) g))∧I (k + 1) g)∨∃ b,f (mk k c) = some (.inr b)∧Q b)
    (done : ∀ c,I n c→∃ b,f (mk n c) = some (.inr b)∧Q b) {k0 : Nat} {c0 : σ} (h : k0≤n) (j : I k0 c0) : ∃ b,loop f (mk k0 c0) = some b∧Q b:=by
  have key : ∀ m k c,n - k = m→k≤n→I k c→∃ b,loop f (mk k c) = some b∧Q b:=by
    intro m
    induction m with
    | zero=>
      intro k c l h hi;obtain rfl : k = n:=by omega
      obtain ⟨b,d,a⟩:=done c hi;exact ⟨b,Kg d,a⟩
    | succ m ih=>
      intro k c l h hi;rcases step k c q6 hi with ⟨g,d,a⟩ | ⟨b,d,a⟩
      · rw [Kw d];exact ih (k + 1) g q6 q6 a
      · exact ⟨b,Kg d,a⟩
  exact key _ k0 c0 rfl h j
def I64 (x : Int) : Prop:=-9223372036854775808≤x∧x≤9223372036854775807
end Go.Sh
namespace Go.Am
open Go
theorem q173 {k : IntKind} {d : DV} (h : Ty (.int k) d) : ∃ n : Int,d = .int k n∧(Lit.int k n).wf = true:=by
  cases h with | int hw=>exact ⟨_,rfl,hw⟩
def q2l (l : List CT) (x : List DV) : Prop:=x.length = l.length∧∀ (j : Nat) (c : CT) (d : DV),l[j]? = some c→x[j]? = some d→Ty c d
theorem q16y {x : List DV} (h : q2l [] x) : x = []:=List.length_eq_zero_iff.1 h.1
theorem q16x {c : CT} {l : List CT} {x : List DV} (h : q2l (c::l) x) : ∃ d r,x = d::r∧Ty c d∧q2l l r:=by
  obtain ⟨b,a⟩:=h
  cases x with
  | nil=>simp at b
  | cons d r=>exact ⟨d,r,rfl,a 0 c d rfl rfl,by simpa using b,fun j g f k hd=>a (j + 1) g f (by simpa using k) (by simpa using hd)⟩
theorem q174 {α : Type} {l : List CT} {enc : α→List DV} {wf : α→Prop} (row : ∀ x,q2l l x→∃ a,x = enc a∧wf a) {d : DV} (h : Ty (.sl l) d) : ∃ xs : List α,DLe d (.sl l.length (xs.map enc))∧(∀ x∈xs,wf x)∧xs.length≤maxLen:=by
  cases h with
  | nil=>exact ⟨[],.nil _,qg,qg⟩
  | @sl _ xs hl h1 h2=>
    have key : ∀ ys : List (List DV),(∀ y∈ys,q2l l y)→∃ zs : List α,ys = zs.map enc∧∀ z∈zs,wf z:=by
      intro ys
      induction ys with
      | nil=>intro _;exact ⟨[],rfl,qg⟩
      | cons y ys ih=>
        intro f;obtain ⟨a,rfl,k⟩:=row y (f y qg);obtain ⟨zs,rfl,b⟩:=ih fun z b=>f z (by simp [b]);exact ⟨a::zs,rfl,by simpa using ⟨k,b⟩⟩
    obtain ⟨zs,rfl,b⟩:=key xs fun y f=>by
      obtain ⟨i,hi⟩:=List.getElem?_of_mem f;exact ⟨h1 i y hi,fun j c d g hd=>h2 i y j c d hi g hd⟩
    exact ⟨zs,.refl _,b,by simpa using hl⟩
theorem qtp {α : Type} {es : Nat} {enc : α→List DV} {xs : List (List DV)} {zs : List α} (k : xs.length = zs.length) (h : ∀ (i : Nat) (x : List DV) (z : α),xs[i]? = some x→zs[i]? = some z→DLeL x (enc z)) : DLe (.sl es xs) (.sl es (zs.map enc)):=by
  have key : ∀ (i : Nat) (x y : List DV),xs[i]? = some x→(zs.map enc)[i]? = some y→DLeL x y:=fun i x y b a=>by
    rw [List.getElem?_map,Yc] at a;obtain ⟨z,f,rfl⟩:=a;exact h i x z b f
  exact .sl (by simpa using k) (fun i x y b a=>(key i x y b a).len) fun i x y j c d b a g hd=>(key i x y b a).get j c d g hd
theorem q175 {α : Type} {l : List CT} {enc : α→List DV} {wf : α→Prop} (row : ∀ x,q2l l x→∃ a,DLeL x (enc a)∧wf a) {d : DV} (h : Ty (.sl l) d) : ∃ xs : List α,DLe d (.sl l.length (xs.map enc))∧(∀ x∈xs,wf x)∧xs.length≤maxLen:=by
  cases h with
  | nil=>exact ⟨[],.nil _,qg,qg⟩
  | @sl _ xs hl h1 h2=>
    have key : ∀ ys : List (List DV),(∀ y∈ys,q2l l y)→∃ zs : List α,ys.length = zs.length∧(∀ (i : Nat) (x : List DV) (z : α),ys[i]? = some x→zs[i]? = some z→DLeL x (enc z))∧∀ z∈zs,wf z:=by
      intro ys
      induction ys with
      | nil=>intro _;exact ⟨[],rfl,qg,qg⟩
      | cons y ys ih=>
        intro m;obtain ⟨a,q,o⟩:=row y (m y qg);obtain ⟨zs,g,k,f⟩:=ih fun z k=>m z (by simp [k]);refine ⟨a::zs,by simp [g],fun i x z n b=>?_,by simpa using ⟨o,f⟩⟩
        cases i with
        | zero=>simp only [List.getElem?_cons_zero,Option.some.injEq] at n b;subst n b;exact q
        | succ i=>exact k i x z (by simpa using n) (by simpa using b)
    obtain ⟨zs,g,k,f⟩:=key xs fun y m=>by
      obtain ⟨i,hi⟩:=List.getElem?_of_mem m;exact ⟨h1 i y hi,fun j c d p hd=>h2 i y j c d hi p hd⟩
    exact ⟨zs,qtp g k,f,q6⟩
theorem q177 {n : Int} (h : (Lit.int .i64 n).wf = true) : -9223372036854775808≤n∧n≤9223372036854775807:=by
  simp [Lit.wf,IntKind.min,IntKind.max,IntKind.signed,IntKind.bits] at h;omega
theorem q16s {xs : List DV} (h : Ju [] xs) : xs = []:=by cases h;rfl
theorem q16t {c : CT} {a : List (Bool × List CT)} {xs : List DV} (h : Ju ((false,[c])::a) xs) : ∃ d r,xs = d::r∧Ty c d∧Ju a r:=by
  cases h with | one h1 h2=>exact ⟨_,_,rfl,h1,h2⟩
theorem q16r {l : List CT} {a : List (Bool × List CT)} {xs : List DV} (h : Ju ((true,l)::a) xs) : ∃ x r,xs = .agg x::r∧q2l l x∧Ju a r:=by
  cases h with | agg h1 h2 h3=>exact ⟨_,_,rfl,⟨h1,h2⟩,h3⟩
end Go.Am
