/- Am26 Am27 Am28 Am29 Am30 Am31 Lf1 Pl0 Lf2 -/
import Derived.Test.YtbknppciefodiaaGreatK5
import Derived.ProofKit
import Derived.OpenShut
import Derived.Deep.Slices
namespace Go.Am
open Go
variable {P : Program} {T : Tab}
def wpL (F : Fence) (P : Program) (c : Code) (Q : Exit→Act→World→Prop) (a : Act) (w : World) : Prop:=
  ∀ (b : Frame) (k : List Item) (cs : List Frame),b.roundOf = F.round→F.fn b.fn→F.room (cs.length + 1 + 0)→
    ∃ e a' w',Q e a' w'∧ArrivesIn (Machine.fenced P F) P (lone (b.atR a (.code c::.inLoop c::k)) cs w) b k cs e a' w'
theorem qp4 {F : Fence} {c : Code} {Q : Exit→Act→World→Prop} {a : Act} {w : World} (h : c.wpIn F 0 P (Exit.then (wpL F P c Q) Q) a w) : wpL F P c Q a w:=by
  intro b k cs m hb o;obtain ⟨e,j,n,g,d⟩:=h b (.inLoop c::k) cs m hb o
  cases e with
  | normal=>
    obtain ⟨q,r,s,p,f⟩:=g b k cs m hb o;exact ⟨q,r,s,p,.of_steps (StepsIn.trans d (.one (fenced_calm hb o rfl) stepR_inLoop)) f⟩
  | exit id=>exact ⟨_,j,n,g,.pass (x:=.inLoop c) rfl (fun _ _=>.inl qe) d⟩
  | goto l=>exact ⟨_,j,n,g,.pass (x:=.inLoop c) rfl (fun _ _=>.inl qe) d⟩
  | ret=>exact ⟨_,j,n,g,.pass (x:=.inLoop c) rfl (fun _ _=>.inl qe) d⟩
  | panic ch=>exact ⟨_,j,n,g,.pass (x:=.inLoop c) rfl (fun _ _=>.inl qe) d⟩
  | outgrown=>exact ⟨_,j,n,g,.pass (x:=.inLoop c) rfl (fun _ _=>.inl qe) d⟩
theorem q14h {F : Fence} {c : Code} {Q : Exit→Act→World→Prop} {a : Act} {w : World} (h : wpL F P c Q a w) : (Code.loop c).wpIn F 0 P Q a w:=by
  intro b k cs f hb g;obtain ⟨e,a',w',j,d⟩:=h b k cs f hb g;exact ⟨e,a',w',j,.of_steps (.one (fenced_calm hb g rfl) stepR_loop) d⟩
theorem qp3 {F : Fence} {c : Code} {Q d : Exit→Act→World→Prop} {a : Act} {w : World} (h : wpL F P c Q a w) (l : ∀ e a w,Q e a w→d e a w) : wpL F P c d a w:=
  fun b k cs f j g=>let ⟨e,a',w',q,r⟩:=h b k cs f j g;⟨e,a',w',l _ _ _ q,r⟩
def CP (base : Nat) (w : World) (Z : Nat→Prop) (inj : Inj) (st : AS) (a : Act) (Ds : List Nat) (ex : Ex) (st' : AS) (e : Exit) (a' : Act) (w' : World) : Prop:=e = toE ex∧Kw base w Z inj st a Ds st' a' w'
def Ky (P : Program) (base : Nat) (c : Code) (st : AS) (ex : Ex) (st' : AS) : Prop:=
  ∀ (ro : Option Nat) (w : World) (Z : Nat→Prop) (inj : Inj) (a : Act) (Ds : List Nat),RelS w Z inj st a Ds→codeOk a.tmps.size c = true→base≤st.nx→Yl ro w→
    c.wpIn (Fw ro) 0 P (CP base w Z inj st a Ds ex st') a w∧∀ d,c = .loop d→wpL (Fw ro) P d (CP base w Z inj st a Ds ex st') a w
section
variable {base : Nat} {st st1 st2 : AS} {ex : Ex}
theorem Ub {c : Code} (g : ∀ d,c≠.loop d) (h : ∀ (ro : Option Nat) (w : World) (Z : Nat→Prop) (inj : Inj) (a : Act) (Ds : List Nat),RelS w Z inj st a Ds→codeOk a.tmps.size c = true→base≤st.nx→Yl ro w→
    c.wpIn (Fw ro) 0 P (CP base w Z inj st a Ds ex st1) a w) : Ky P base c st ex st1:=
  fun ro w Z inj a Ds b j k f=>⟨h ro w Z inj a Ds b j k f,fun d hd=>absurd hd (g d)⟩
theorem Kw.round {w : World} {Z : Nat→Prop} {inj : Inj} {a : Act} {Ds : List Nat} {a' : Act} {w' : World} {ro : Option Nat} (h : Kw base w Z inj st a Ds st1 a' w') (b : Yl ro w) : Yl ro w':=by
  obtain ⟨_,_,_,_,e,_⟩:=h;exact b.ext e
theorem qqm : Ky P base .skip st .nor st:=
  Ub qe fun ro w Z inj a Ds h _ hb _=>wpIn_skip ⟨rfl,Kw.refl h hb⟩
theorem qqd {id : Nat} : Ky P base (.exit id) st (.exit id) st:=
  Ub qe fun ro w Z inj a Ds h _ hb _=>wpIn_exit ⟨rfl,Kw.refl h hb⟩
theorem qqj : Ky P base .ret st .ret st:=
  Ub qe fun ro w Z inj a Ds h _ hb _=>wpIn_ret ⟨rfl,Kw.refl h hb⟩
theorem qqk {a b : Code} (m : Ky P base a st .nor st1) (n : Ky P base b st1 ex st2) : Ky P base (.seq a b) st ex st2:=by
  refine Ub qe fun ro w Z inj act Ds h c hb k=>wpIn_seq (wpIn_mono (m ro w Z inj act Ds h ?_ hb k).1 ?_)
  · simp only [codeOk,Bool.and_eq_true] at c;exact c.1
  · rintro e a' w' ⟨rfl,hp⟩;refine hp.bind fun Z' inj' l j f d _ g=>?_;refine wpIn_mono (n ro w' Z' inj' a' l j ?_ d (hp.round k)).1 ?_
    · simp only [codeOk,Bool.and_eq_true] at c;rw [f];exact c.2
    · rintro e p o ⟨rfl,hp2⟩;exact ⟨rfl,g _ _ _ hp2⟩
theorem qql {a b : Code} (f : Ky P base a st ex st1) (g : ex≠.nor) : Ky P base (.seq a b) st ex st1:=by
  refine Ub qe fun ro w Z inj act Ds h c hb d=>wpIn_seq (wpIn_mono (f ro w Z inj act Ds h ?_ hb d).1 ?_)
  · simp only [codeOk,Bool.and_eq_true] at c;exact c.1
  · rintro e a' w' ⟨rfl,hp⟩
    cases ex with
    | nor=>exact absurd rfl g
    | exit id=>exact ⟨rfl,hp⟩
    | ret=>exact ⟨rfl,hp⟩
theorem qqc {c : Operand} {a b : Code} (k : st.ev c = some (.d (.bool true))) (j : Ky P base a st ex st1) : Ky P base (.cond c a b) st ex st1:=by
  refine Ub qe fun ro w Z inj act Ds h f hb g=>wpIn_cond_true ?_ (j ro w Z inj act Ds h ?_ hb g).1
  · have:=Kb h k;generalize act.eval c = x at this
    cases this with | d this=>cases this;rfl
  · simp only [codeOk,Bool.and_eq_true] at f;exact f.1
theorem qqb {c : Operand} {a b : Code} (k : st.ev c = some (.d (.bool false))) (j : Ky P base b st ex st1) : Ky P base (.cond c a b) st ex st1:=by
  refine Ub qe fun ro w Z inj act Ds h f hb g=>wpIn_cond_false ?_ (j ro w Z inj act Ds h ?_ hb g).1
  · have:=Kb h k;generalize act.eval c = x at this
    cases this with | d this=>cases this;rfl
  · simp only [codeOk,Bool.and_eq_true] at f;exact f.2
theorem qqa {id : Nat} {a : Code} (d : Ky P base a st ex st1) : Ky P base (.block id a) st (ex.block id) st1:=by
  refine Ub qe fun ro w Z inj act Ds h c hb b=>wpIn_block (wpIn_mono (d ro w Z inj act Ds h c hb b).1 ?_);rintro e a' w' ⟨rfl,hp⟩
  cases ex with
  | nor=>exact ⟨rfl,hp⟩
  | ret=>exact ⟨rfl,hp⟩
  | exit i=>
    by_cases hi : i = id
    · simp only [toE,Exit.inBlock,hi,if_true,Ex.block];exact ⟨rfl,hp⟩
    · simp only [toE,Exit.inBlock,hi,if_false,Ex.block];exact ⟨rfl,hp⟩
theorem qiq {a : Code} (h : ∀ (ro : Option Nat) (w : World) (Z : Nat→Prop) (inj : Inj) (act : Act) (Ds : List Nat),RelS w Z inj st act Ds→codeOk act.tmps.size (.loop a) = true→base≤st.nx→Yl ro w→
    wpL (Fw ro) P a (CP base w Z inj st act Ds ex st1) act w) : Ky P base (.loop a) st ex st1:=
  fun ro w Z inj act Ds b f g c=>⟨q14h (h ro w Z inj act Ds b f g c),fun d hd=>by cases hd;exact h ro w Z inj act Ds b f g c⟩
theorem qqe {a : Code} (l : Ky P base a st .nor st1) (m : Ky P base (.loop a) st1 ex st2) : Ky P base (.loop a) st ex st2:=by
  refine qiq fun ro w Z inj act Ds h j hb g=>qp4 (wpIn_mono (l ro w Z inj act Ds h j hb g).1 ?_);rintro e a' w' ⟨rfl,hp⟩;refine hp.bind fun Z' inj' k f c b _ d=>?_;refine qp3 ((m ro w' Z' inj' a' k f (by rw [c];exact j) b (hp.round g)).2 a rfl) ?_;rintro e o n ⟨rfl,hp2⟩;exact ⟨rfl,d _ _ _ hp2⟩
theorem qqf {a : Code} (f : Ky P base a st ex st1) (d : ex≠.nor) : Ky P base (.loop a) st ex st1:=by
  refine qiq fun ro w Z inj act Ds h b hb c=>qp4 (wpIn_mono (f ro w Z inj act Ds h b hb c).1 ?_);rintro e a' w' ⟨rfl,hp⟩
  cases ex with
  | nor=>exact absurd rfl d
  | exit id=>exact ⟨rfl,hp⟩
  | ret=>exact ⟨rfl,hp⟩
theorem qqn {ρ : Nat→Nat} {fz ph : List Nat} {c : Code} (k : Wk base ρ fz ph st st1) (o : Ky P base c st1 ex st2) : Ky P base c st ex st2:=by
  intro ro w Z inj a Ds h j hb g;obtain ⟨f,m⟩:=q27 h k
  have b : ∀ e a' w',CP base w (wkZ Z inj st fz) (wkI inj ρ ph) st1 a Ds ex st2 e a' w'→CP base w Z inj st a Ds ex st2 e a' w':=by
    rintro e a' w' ⟨rfl,n,t,v,s,u,x,p,l⟩;exact ⟨rfl,n,t,v,s,m.trans u (Nat.le_refl _),x,p,l⟩
  obtain ⟨r,q⟩:=o ro w _ _ a Ds f j k.bs g;exact ⟨wpIn_mono r b,fun d hd=>qp3 (q d hd) b⟩
theorem qqq {ops : Array Oper} {ro : Option Nat} {w0 : World} {Z0 : Nat→Prop} {inj0 : Inj} {d : AS} {m : Act} {Ds0 : List Nat} {Q : Exit→Act→World→Prop} {l : List Oper} {st st' : AS} (s : Zo P base ops l st st')
    (hd : ∀ o∈ops,J9 m.tmps.size o.dst = true) (q : ∀ a' w',Kw base w0 Z0 inj0 d m Ds0 st' a' w'→Q .normal a' w') : ∀ (pre : List Oper) (a : Act) (w : World),ops.toList = pre ++ l→Kw base w0 Z0 inj0 d m Ds0 st a w→Yl ro w→
    wpOpsIn (Fw ro) 0 P ops Q (List.range' pre.length l.length) a w:=by
  have one : ∀ {o : Oper} {l : List Oper} {st st1 st2 : AS},Jq P base ops o st st1→(∀ (pre : List Oper) (a : Act) (w : World),ops.toList = pre ++ l→Kw base w0 Z0 inj0 d m Ds0 st1 a w→Yl ro w→wpOpsIn (Fw ro) 0 P ops Q (List.range' pre.length l.length) a w)→
      ∀ (pre : List Oper) (a : Act) (w : World),ops.toList = pre ++ o::l→Kw base w0 Z0 inj0 d m Ds0 st a w→Yl ro w→wpOpsIn (Fw ro) 0 P ops Q (List.range' pre.length (o::l).length) a w:=by
    intro o l st st1 st2 hs k pre a w p hp c
    have r : ops[pre.length]? = some o:=by rw [← Array.getElem?_toList,p];simp
    rw [List.length_cons,List.range'_succ,wpOpsIn_cons]
    refine qhc r ?_
    refine hp.bind fun Z' inj' g b h f _ j=>?_
    refine hs ro Q w Z' inj' a g _ b (by rw [h];exact hd o (Array.mem_of_getElem? r)) f c fun a' w' hp'=>?_
    have:=k (pre ++ [o]) a' w' (by rw [p];simp) (j _ _ _ hp') (hp'.round c)
    simpa using this
  induction s with
  | nil=>intro pre a w _ hp _;simpa [wpOpsIn] using q _ _ hp
  | cons hs _ k=>exact one (st2:=st) hs (k q)
  | wk hw _ k=>
    intro pre a w p hp c;refine k q pre a w p ?_ c;obtain ⟨Z',inj',g,t,u,x,y,v⟩:=hp;obtain ⟨b,n⟩:=q27 t hw;exact ⟨_,_,g,b,u.trans n (Nat.le_refl _),x,hw.bs,v⟩
theorem qqh {id : Nat} {ops : Array Oper} (d : Zo P base ops ops.toList st st1) : Ky P base (.region id ops false) st .nor st1:=by
  refine Ub qe fun ro w Z inj a Ds h b hb c=>wpIn_region ?_
  have hd : ∀ o∈ops,J9 a.tmps.size o.dst = true:=by
    intro o f;simp only [codeOk,List.all_eq_true] at b;exact b o (by simpa using f)
  have:=qqq (Q:=CP base w Z inj st a Ds .nor st1) d hd (fun a' w' hp=>⟨rfl,hp⟩) [] a w rfl (Kw.refl h hb) c;rw [List.range_eq_range'];simpa using this
theorem qqi {id : Nat} {ops : Array Oper} {F : List Fp} (f : P.follows .mixedOrders = true) (d : Jp P base ops F ops.toList st st1) (hd : q8r F ops = true) : Ky P base (.region id ops true) st .nor st1:=
  Ub qe fun ro w Z inj a Ds h c hb b=>qx1 f (qrd hd) d h c hb b fun a' w' hp=>⟨rfl,hp⟩
theorem qsd {ops : Array Oper} {o : Oper} {c : Call} {g : Operand} {n : Nat} {vs : List V} {s s1 s2 : List (Nat × V)} {k : List Tmp} {assign body : Code}
    (hg : Qw ops st o = some true) (ho : o.op = .call c) (v : c.callee = .value g) (ax : st.ev g = some (.yld n)) (bh : evL st.ev c.args.toList = some vs)
    (u : st.blk n = some (.loop s k assign body .ready none)) (am : k.length = vs.length)
    (h1 : Ky P st.nx assign {sl:=q1y s k vs,hp:=st.hp,nx:=st.nx} .nor st1) (bm : st1.blk n = some (.loop s1 k assign body .ready none))
    (h2 : Ky P st.nx body (st1.setBlk n (.loop s1 k assign body .busy none)) ex st2) (bo : st2.blk n = some (.loop s2 k assign body .busy none)) :
    Jq P base ops o st ({sl:=st.sl,hp:=repl st2.hp n (.loop s2 k assign body (if ex = .nor then .ready else .done) ex.code),nx:=st2.nx : AS}.putD o.dst (.d (.bool (decide (ex = .nor))))):=by
  intro ro Q w Z inj a Ds K h hd hb cz hK;unfold Uo;rw [q3l h hg];simp only [if_true];refine ⟨fun _ _=>trivial,?_⟩;have hr:=Kb h ax;obtain ⟨b,r,hi,hw,es,ep,ai,be,ay,ac,bl,_⟩:=qgv (ls':=.ready) (pe':=none) (pin:=0) h.heap u;generalize bf : a.eval g = gv at hr
  cases hr with | @yld _ b' o' hlt hi'=>
  rw [hi] at hi';cases hi';have hl:=q8x h bh;have e2 : (c.args.toList.map a.eval).toArray = c.args.map a.eval:=by apply Array.ext';simp
  rw [e2] at hl;have bk : (c.args.map a.eval).size = r.params.size:=by rw [← hl.1,ai];simp [am]
  have ah : (execOp a.eval o).run P w = .ok (.round b r.fn ((r.params.zip (c.args.map a.eval)).foldl (fun tmps (t,a)=>tmps.setIfInBounds t a) r.tmps) r.assign r.body) w:=by
    have:=run_yield (P:=P) hw bk;obtain ⟨dst,op,type,pos,after,guard⟩:=o;simp only at ho;subst ho;obtain ⟨cq,args,argTypes⟩:=c;simp only at v;subst v;simp only [execOp,resolve,Sem.run_bind,bf,Deferred.ofValue,Sem.run_pure,Result.andThen_ok,invoke];simpa using this
  rw [show (Fw ro).round = ro from rfl,Oper.semAt_eq ro _ o (by rintro c' h';rw [ho] at h';cases h'),ah,Oper.uponIn_round];refine ⟨fun h=>by simp [Fw] at h,?_⟩;refine roundIn_of_wpIn trivial ?_
  have ad : (r.params.zip (c.args.map a.eval)).foldl (fun tmps (t,a)=>tmps.setIfInBounds t a) r.tmps = (k.zip (c.args.map a.eval).toList).foldl (fun tmps (x : Tmp × Value)=>tmps.setIfInBounds x.1 x.2) r.tmps:=by
    rw [ai,← Array.foldl_toList,Array.toList_zip]
  obtain ⟨z,f⟩:=qmy k vs (c.args.map a.eval).toList s r.tmps (by rw [Array.length_toList];exact hl.1) (fun i d c h1 h2=>hl.2 i d c h1 (by rw [← Array.getElem?_toList];exact h2)) ac.2.2 bl;rw [ad,be,ay];generalize (k.zip (c.args.map a.eval).toList).foldl (fun tmps (x : Tmp × Value)=>tmps.setIfInBounds x.1 x.2) r.tmps = tm at z f;have ae : RelS w Z inj {sl:=q1y s k vs,hp:=st.hp,nx:=st.nx} {tmps:=tm,defers:=[]} []:=⟨z,h.heap,rfl,qe,qe⟩
  have y : Yl (some b) w:=fun l hl=>by cases hl;exact ⟨r,hw⟩
  refine wpIn_mono (h1 (some b) w Z inj _ [] ae (by show codeOk tm.size assign = true;rw [f];exact ac.1) (Nat.le_refl _) y).1 ?_;rintro e a1 w1 ⟨rfl,Z1,q,ao,g1,g2,g3,g4,g5⟩;have ab : n < st.nx:=(h.heap.blk n _ u).1;obtain ⟨b1,r1,i1,bn,ba,ap,cj,ce,bp,bs,cg,bi,j⟩:=qgv (ls':=.busy) (pe':=none) (pin:=st.nx) g1.heap bm;rw [g2.pinj n ab,hi] at i1;cases i1;refine ⟨_,run_beginRound bn ba,?_⟩;have e5 : ({r1 with state:=.busy} : Loop) = {r1 with state:=.busy,pending:=none}:=by cases r1;simp only at ap;subst ap;rfl
  rw [e5]
  have af : RelS (w1.putObj b (.loop {r1 with state:=.busy,pending:=none})) Z1 q (st1.setBlk n (.loop s1 k assign body .busy none)) a1 ao:=
    ⟨g1.slots.mono (j.zkeep g1.heap) j.zin j.big (fun _ _=>rfl) (Nat.le_refl _),bi,g1.defs,g1.nodup,fun D hD=>j.marks g1.heap (g1.marks D hD)⟩
  have aj : Yl (some b) (w1.putObj b (.loop {r1 with state:=.busy,pending:=none})):=(y.ext g2).ext j;refine wpIn_mono (h2 (some b) _ Z1 q a1 ao af (by rw [g3];show codeOk tm.size body = true;rw [f];exact ac.2.1) g4 aj).1 ?_;rintro e a3 w3 ⟨rfl,Z3,an,cx,k1,k2,k3,k4,k5⟩;obtain ⟨b3,r3,i3,aw,dc,da,bu,ck,cm,bt,bz,au,bj⟩:=qgv (ls':=if ex = .nor then .ready else .done) (pe':=ex.code) (pin:=st.nx) k1.heap bo;have av : q n = some (b,0):=(g2.pinj n ab).trans hi;rw [k2.pinj n ab,av] at i3;cases i3
  have p : K (a.put o.dst (.bool (decide (ex = .nor)))) (w3.putObj b (.loop {r3 with state:=if ex = .nor then .ready else .done,pending:=ex.code})):=by
    have ak : Ext w Z inj st.hp (w3.putObj b (.loop {r3 with state:=if ex = .nor then .ready else .done,pending:=ex.code})) Z3 an (repl st2.hp n (.loop s2 k assign body (if ex = .nor then .ready else .done) ex.code)) st.nx:=
      ((g2.trans j (Nat.le_refl _)).trans k2 (Nat.le_refl _)).trans bj (Nat.le_refl _)
    exact hK _ _ (q3r h hb ak au k4 (.d (.bool _)) hd)
  have m:=run_endRound (P:=P) ex.code aw
  cases ex with
  | nor=>exact ⟨_,_,m,p⟩
  | ret=>exact ⟨_,_,m,p⟩
  | exit id=>exact ⟨_,_,m,p⟩
end
end Go.Am
namespace Go.Am
open Go
variable {P : Program} {T : Tab}
section
variable {base : Nat} {st st1 st2 : AS} {ex : Ex}
theorem qpz {ro : Option Nat} {f : FuncId} {xs : Array Value} {w : World} {R : Ending→World→Prop} (h : CallsIn (Fw none) 0 P f xs w R) : CallsIn (Fw ro) 0 P f xs w R:=by
  cases ro <;> exact h
theorem qtw {w : World} {Ds : List Nat} (h : Ds.Nodup) (b : ∀ D∈Ds,w.heap[D]? = some (.deferred (some []))) : (w.heap.size::Ds).Nodup:=
  List.nodup_cons.2 ⟨fun a=>by have:=J8 (b _ a);omega,h⟩
theorem qqg {g : Operand} {k : Array Tmp} {assign body : Code} {f : FuncId} {u : List V} {v : V} {hp : List (Nat × Blk)} {nx : Nat} {pe : Option Code} {s : List (Nat × V)} {ls : LoopState}
    (hg : st.ev g = some (.fn f u)∨∃ ds,st.ev g = some (.d (.fn f ds))∧u = ds.map .d)
    (y : Jo P f (.yld st.nx::u) ((st.nx,.loop st.sl k.toList assign body .ready none)::st.hp) (st.nx + 1) v hp nx)
    (ae : find hp st.nx = some (.loop s k.toList assign body ls pe)) (br : ls≠.busy) (bb : pe = ex.code) : Ky P base (.rangeFunc g k assign body) st ex {sl:=st.sl,hp:=repl hp st.nx .dead,nx:=nx}:=by
  refine Ub qe fun ro w Z inj a Ds h aa hb bo=>wpIn_rangeFunc fun fn _=>?_;simp only [codeOk,Bool.and_eq_true,List.all_eq_true,Nat.blt_eq] at aa
  have az : ∃ cs : Array Value,a.eval g = .func (.func f) #[] cs∧LRel w Z inj st.nx u cs:=by
    rcases hg with hg | ⟨ds,hg,rfl⟩
    · have hr:=Kb h hg;generalize a.eval g = gv at hr ⊢
      cases hr with | @fn _ _ cs h1 h2=>
      exact ⟨cs,rfl,h1,h2⟩
    · have hr:=Kb h hg;generalize a.eval g = gv at hr ⊢
      cases hr with | d hr=>
      cases hr with | @fn _ _ cs h1 h2=>
      refine ⟨cs,rfl,by simpa using h1,fun i d c hd hc=>?_⟩;simp only [List.getElem?_map,Y5] at hd;obtain ⟨d',hd,rfl⟩:=hd;exact .d (h2 i d' c hd hc)
  obtain ⟨cs,bm,ax⟩:=az
  have rest : ∀ (n : World) (l : Nat) (mark : List Deferred) (r : Loop) (Dn : List Nat),(Instr.enterLoop fn a.tmps k assign body (Fw ro).round).run P w = .ok (l,mark) n→
      n.heap[l]? = some (.loop r)→r.state = .ready→r.pending = none→
      RelH n Z (upd inj st.nx (some (l,0))) ((st.nx,.loop st.sl k.toList assign body .ready none)::st.hp) (st.nx + 1)→
      Ext w Z inj st.hp n Z (upd inj st.nx (some (l,0))) ((st.nx,.loop st.sl k.toList assign body .ready none)::st.hp) st.nx→
      mark = Dn.map (fun D=>{target:=.collected D,args:=#[]})→(Dn ++ Ds).Nodup→(∀ D∈Dn,n.heap[D]? = some (.deferred (some []))∧w.heap.size≤D)→
      ∃ (l : Nat) (mark : List Deferred) (w₁ : World) (d : Deferred) (ag : World) (f : FuncId) (args : Array Value) (w₂ : World),
      (Instr.enterLoop fn a.tmps k assign body (Fw ro).round).run P w = .ok (l,mark) w₁∧
      (resolve a.eval (rangeCall g l) 0).run P w₁ = .ok d ag∧
      (∀ f',Target.leads P ag d.target d.args = some f'→(Fw ro).fn f')∧
      (invoke d.target d.args).run P ag = .ok (.enter f args) w₂∧
      ((Fw ro).depth.isSome = true→1≤0)∧
      CallsIn (Fw ro) (0 - 1) P f args w₂ (rangePost (Fw ro) 0 P l (CP base w Z inj st a Ds ex {sl:=st.sl,hp:=repl hp st.nx .dead,nx:=nx}) {a with defers:=mark ++ a.defers}):=by
    intro n l mark r Dn ab cp cj ca av z aj bi ao
    refine ⟨l,mark,n,{target:=.fn (.func f) cs,args:=#[.func (.yield l) #[] #[]]},n,f,#[.func (.yield l) #[] #[]] ++ cs,n,ab,?_,fun _ _=>trivial,?_,fun h=>by simp [Fw] at h,?_⟩
    · simp only [resolve,bm];simp [Deferred.ofValue,Act.eval]
    · simp [invoke,y.1]
    · refine qpz (CallsIn.mono (y.2 n Z _ _ av ?_) ?_)
      · refine ⟨by simp [ax.1];omega,fun i d c hd hc=>?_⟩
        cases i with
        | zero=>
          rw [Array.getElem?_append_left qe] at hc;simp at hd hc;subst hd hc;exact .yld q6 (Y4 _ _ _)
        | succ i=>
          rw [Array.getElem?_append_right qe] at hc;simp at hd hc;exact (ax.2 i d c hd hc).mono (fun b hz=>z.keep b (h.heap.zs b hz) (h.heap.z_im hz)) (fun _ h=>h) z.big (fun m hm=>z.pinj m hm) q6
      · rintro e w3 ⟨x,Z',inj',rfl,bg,ai,ci,co⟩
        obtain ⟨b3,r3,i3,an,bq,ba,af⟩:=qx7 (pin:=st.nx) bg ae
        obtain ⟨bk,bh⟩:=af {r3 with state:=.exhausted} rfl
        have bj : b3 = l:=by
          have:=ai.pinj st.nx q6;rw [Y4,i3] at this;cases this;rfl
        subst bj
        refine ⟨r3.pending,_,run_endLoop an (by rw [bq];exact br),?_⟩
        have hE : Ext w Z inj st.hp (w3.putObj b3 (.loop {r3 with state:=.exhausted})) Z' inj' (repl hp st.nx .dead) st.nx:=(z.trans ai q6).trans bh (Nat.le_refl _)
        have t : Kw base w Z inj st a Ds {sl:=st.sl,hp:=repl hp st.nx .dead,nx:=nx} {a with defers:=mark ++ a.defers} (w3.putObj b3 (.loop {r3 with state:=.exhausted})):=by
          refine ⟨Z',inj',Dn ++ Ds,⟨?_,bk,?_,bi,?_⟩,hE.pin_le hb,rfl,by show base≤nx;omega,?_⟩
          · exact h.slots.mono (hE.zkeep h.heap) hE.zin hE.big hE.pinj (by show st.nx≤nx;omega)
          · simp [aj,h.defs]
          · intro D q;rcases List.mem_append.1 q with q | q
            · obtain ⟨h5,h6⟩:=ao D q;have h7:=ai.marks av h5;rw [World.putObj_heap_other (fun e=>by rw [e] at h7;rw [an] at h7;cases h7)];exact h7
            · exact hE.marks h.heap (h.marks D q)
          · intro D q;rcases List.mem_append.1 q with q | q
            · exact .inr (ao D q).2
            · exact .inl q
        rw [ba,bb] at t
        rw [ba,bb]
        cases ex with
        | nor=>exact ⟨rfl,t⟩
        | exit id=>exact wpIn_exit ⟨rfl,t⟩
        | ret=>exact wpIn_ret ⟨rfl,t⟩
  have ac : ∀ (n : World) (l : Nat) (r : Loop),r.state = .ready→r.pending = none→r.tmps = a.tmps→r.params = k→r.assign = assign→r.body = body→Yw n Z (upd inj st.nx (some (l,0))) (st.nx + 1) st.sl a.tmps→
      n.heap[l]? = some (.loop r)→RelB n Z (upd inj st.nx (some (l,0))) (st.nx + 1) st.nx (.loop st.sl k.toList assign body .ready none):=by
    rintro n l r e1 e2 e3 e4 e5 e6 hs hl
    obtain ⟨f1,f2,f3,f4,f5,f6,f7,f8⟩:=r
    simp only at e1 e2 e3 e4 e5 e6
    subst e1 e2 e3 e4 e5 e6
    exact ⟨l,_,_,_,Y4 _ _ _,hl,⟨aa.1.2,aa.2,fun p hp=>aa.1.1 p hp⟩,hs⟩
  cases ro with
  | none=>
    have aw : RelH (w.alloc (.deferred (some []))) Z inj st.hp st.nx:=h.heap.grow fun b hb=>Zy w _ hb
    have ak : ∀ o,Yw ((w.alloc (.deferred (some []))).alloc o) Z (upd inj st.nx (some (w.heap.size + 1,0))) (st.nx + 1) st.sl a.tmps:=fun o=>
      h.slots.mono (fun b hz=>by have:=h.heap.zs b hz;rw [Zy _ _ (by simp;omega),Zy _ _ this]) (fun _ h=>h)
        (fun b c e f hb=>by obtain ⟨c1,e1,f1,h1,s1⟩:=q2r w (.deferred (some [])) b c e f hb;obtain ⟨c2,e2,f2,h2,s2⟩:=q2r _ o b c1 e1 f1 h1;exact ⟨c2,e2,f2,h2,s2.trans s1⟩) (fun _ hm=>Yf _ _ hm) q6
    have j:=Jv (w.alloc (.deferred (some []))) (.loop {state:=.ready,pending:=none,fn,tmps:=a.tmps,params:=k,assign,body,defers:=w.heap.size});rw [World.size_alloc] at j;have hB:=ac _ (w.heap.size + 1) {state:=.ready,pending:=none,fn,tmps:=a.tmps,params:=k,assign,body,defers:=w.heap.size} rfl rfl rfl rfl rfl rfl (ak _) j;have hn:=aw.new (.loop {state:=.ready,pending:=none,fn,tmps:=a.tmps,params:=k,assign,body,defers:=w.heap.size}) (.loop st.sl k.toList assign body .ready none) 0 (by rw [World.size_alloc];exact hB);have he:=Ext.new aw (.loop {state:=.ready,pending:=none,fn,tmps:=a.tmps,params:=k,assign,body,defers:=w.heap.size}) (.loop st.sl k.toList assign body .ready none) 0;rw [World.size_alloc] at hn he;refine rest _ (w.heap.size + 1) _ _ [w.heap.size] (run_enterLoop_outer fn a.tmps k assign body) j rfl rfl hn ((Ext.alloc _).trans he (Nat.le_refl _)) rfl (qtw h.nodup h.marks) ?_;intro D q;simp at q;subst q;exact ⟨by rw [Zy _ _ qe];exact Jv _ _,Nat.le_refl _⟩
  | some l0=>
    obtain ⟨r0,bn⟩:=bo l0 rfl
    have ak : ∀ o,Yw (w.alloc o) Z (upd inj st.nx (some (w.heap.size,0))) (st.nx + 1) st.sl a.tmps:=fun o=>
      h.slots.mono (fun b hz=>Zy _ _ (h.heap.zs b hz)) (fun _ h=>h) (q2r w o) (fun _ hm=>Yf _ _ hm) q6
    have j:=Jv w (.loop {state:=.ready,pending:=none,fn,tmps:=a.tmps,params:=k,assign,body,defers:=r0.defers});have hB:=ac _ w.heap.size {state:=.ready,pending:=none,fn,tmps:=a.tmps,params:=k,assign,body,defers:=r0.defers} rfl rfl rfl rfl rfl rfl (ak _) j;exact rest _ w.heap.size _ _ [] (run_enterLoop_inner bn fn a.tmps k assign body) j rfl rfl (h.heap.new _ _ 0 hB) (Ext.new h.heap _ _ 0) rfl (by simpa using h.nodup) qe
theorem qq1 {f : FuncId} {fn : Func} {c : Code} {j : List V} {hp : List (Nat × Blk)} {nx : Nat} {v : V} (s : Z5 P T) (r : P.funcs[f]? = some fn) (hb : fn.body = some c) (a : (fn.name == "runtime.NumGoroutine") = false) (k : codeOk fn.ntmps c = true) (t : j.length ≤ fn.ntmps)
    (hc : Ky P nx c {sl:=Y8 0 j,hp:=hp,nx:=nx} ex st) (y : ex = .nor∨ex = .ret) (d : resV T st fn.results.toList = some v) : Jo P f j hp nx v st.hp st.nx:=by
  refine ⟨fun args w=>?_,fun w Z inj xs h g=>?_⟩
  · unfold callFunc
    have n : ¬ fn.name = "runtime.NumGoroutine" := by simpa using a
    simp [r,n,hb]
  · refine callsIn_of_wp_marks r hb trivial ?_
    have m : (xs ++ Array.replicate (fn.ntmps - xs.size) undef).size = fn.ntmps:=by
      have:=g.1;simp;omega
    have h0 : RelS w Z inj {sl:=Y8 0 j,hp:=hp,nx:=nx} {tmps:=xs ++ Array.replicate (fn.ntmps - xs.size) undef,defers:=[]} []:=⟨qxa _ g,h,rfl,qe,qe⟩
    refine wpIn_mono (hc none w Z inj _ [] h0 (by show codeOk (xs ++ Array.replicate (fn.ntmps - xs.size) undef).size c = true;rw [m];exact k) (Nat.le_refl _) (fun l g=>by cases g)).1 ?_;rintro e a' w' ⟨rfl,Z',inj',o,b,g2,g3,g4,g5⟩
    have q:=ql2 (P:=P) (fn:=fn) (pin:=nx) (w0:=w) (Z0:=Z) (inj0:=inj) (hp0:=hp) s d
      (R:=fun e w'=>∃ x Z' inj',e = .returned x∧RelH w' Z' inj' st.hp st.nx∧Ext w Z inj hp w' Z' inj' st.hp nx∧RelV w' Z' inj' st.nx v x∧nx≤st.nx)
      (fun x w' Z' inj' u z k3=>⟨x,Z',inj',rfl,u,z,k3,g4⟩) o w' Z' inj' a' b.slots b.heap g2 b.nodup (fun D p=>⟨b.marks D p,(g5 D p).resolve_left qe⟩)
    rcases y with rfl | rfl
    · show LeavesInM (Fw none) 0 P fn a'.tmps _ a'.defers .returning w';rw [b.defs];exact q
    · show LeavesInM (Fw none) 0 P fn a'.tmps _ a'.defers .returning w';rw [b.defs];exact q
end
theorem qq0 {f : FuncId} {l : List V} {hp hp' hp1 : List (Nat × Blk)} {nx nx' nx1 : Nat} {v g : V} {ρ : Nat→Nat} {fz ph : List Nat} (h : Jo P f l hp nx v hp' nx') (m : Wk nx ρ fz ph {sl:=[(0,v)],hp:=hp',nx:=nx'} {sl:=[(0,g)],hp:=hp1,nx:=nx1}) : Jo P f l hp nx g hp1 nx1:=by
  refine ⟨h.1,fun w Z inj xs r n=>(h.2 w Z inj xs r n).mono ?_⟩;rintro e w' ⟨x,Z',inj',rfl,j,p,q,s⟩
  have b : RelS w' Z' inj' {sl:=[(0,v)],hp:=hp',nx:=nx'} {tmps:=#[x],defers:=[]} []:=by
    refine ⟨fun t u c=>?_,j,rfl,List.nodup_nil,qe⟩;rw [Ku] at c;split at c
    · rename_i e;subst e;cases c;exact ⟨x,rfl,q⟩
    · simp [find] at c
  obtain ⟨a,d⟩:=q27 b m;obtain ⟨y,k,o⟩:=a.slots 0 g (by simp [find]);simp at k;subst k;exact ⟨x,_,_,rfl,a.heap,p.trans d (Nat.le_refl _),o,m.bs⟩
theorem qq2 (x : Z5 P T) (hm : P.follows .mixedOrders = true) {f : FuncId} {u : List V} {hp : List (Nat × Blk)} {nx : Nat} {v : V} {hp' : List (Nat × Blk)} {nx' : Nat} (h : K9 P T f u hp nx v hp' nx') : Jo P f u hp nx v hp' nx':=by
  refine K9.rec (motive_1:=fun base c st ex st' _=>Ky P base c st ex st') (motive_2:=fun base ops dr l st st' _=>q18 P base ops dr l st st') (motive_3:=fun f u hp nx v hp' nx' _=>Jo P f u hp nx v hp' nx')
    ?_ ?_ ?_ ?_ ?_ ?_ ?_ ?_ ?_ ?_ ?_ ?_ ?_ ?_ ?_ ?_ ?_ ?_ ?_ ?_ ?_ ?_ ?_ ?_ ?_ ?_ h
  · exact qqm
  · exact fun _ _ a d=>qqk a d
  · exact fun _ q a=>qql a q
  · exact fun k _ a=>qqc k a
  · exact fun k _ a=>qqb k a
  · exact fun _ a=>qqa a
  · exact qqd
  · exact qqj
  · exact fun _ _ a d=>qqe a d
  · exact fun _ q a=>qqf a q
  · exact fun _ a=>qqh a
  · exact fun _ hd a=>qqi hm a hd
  · exact fun t _ a=>qqn t a
  · exact fun b _ n ai ag a=>qqg b a n ai ag
  · exact fun {_ _ dr _}=>by cases dr <;> exact .nil
  · exact fun b _ a=>qq8 b a
  · exact fun b g n _ a=>qq6 x b g n a
  · exact fun b g _ hn hh n hF _ a=>qq7 x b g hn hh n hF a
  · exact fun b g k z _ ae w hs hF _ a d=>qq5 b g k z a ae w hs hF d
  · exact fun b g k _ _ a d=>Zo.cons (q12y b g k a) d
  · exact fun b g k j ad _ y hb _ a d=>Zo.cons (qsa b g k j ad a y hb) d
  · exact fun b g r ab m p j _ af _ ah _ a d h3=>Zo.cons (qsd b g r ab m p j a af d ah) h3
  · exact fun t _ a=>Zo.wk t a
  · exact fun hp _ _ a d=>Jp.piv hp a d
  · exact fun n hb o aa m _ q s a=>qq1 x n hb o aa m a q s
  · exact fun _ t a=>qq0 a t
end Go.Am
namespace Go.Am
open Go
open Go.ChangeShapes Go.WideShapes Go.ChangeAt Go.RowKit Go.Deep
inductive CT where
  | int (k : IntKind)
  | bool
  | str
  | sl (l : List CT)
def qbj (P : Program) (f : TypeId→Option (List CT)) : Nat→List Field→Option (List CT)
  | _,[]=>some []
  | o,x::r=>match f x.type with
    | some a=>if x.offset = o∧P.cellsOf x.type = a.length then
        match qbj P f (o + a.length) r with
        | some b=>some (a ++ b)
        | none=>none
      else none
    | none=>none
def tyL (P : Program) : Nat→TypeId→Option (List CT)
  | 0,_=>none
  | f + 1,t=>match P.underlying t with
    | some .bool=>some [.bool]
    | some (.int k)=>some [.int k]
    | some .string=>some [.str]
    | some (.slice e)=>match tyL P f e with
      | some l=>if l.length = P.cellsOf e∧l.length≠0 then some [.sl l] else none
      | none=>none
    | some (.struct fs)=>match qbj P (tyL P f) 0 fs.toList with
      | some l=>if l.length = P.cellsOf t then some l else none
      | none=>none
    | _=>none
inductive Ty : CT→DV→Prop
  | int {k : IntKind} {n : Int} : (Lit.int k n).wf = true→Ty (.int k) (.int k n)
  | bool (b : Bool) : Ty .bool (.bool b)
  | str {s : ByteArray} : s.size≤maxLen→Ty .str (.str s)
  | nil (l : List CT) : Ty (.sl l) .nilsl
  | sl {l : List CT} {xs : List (List DV)} : xs.length≤maxLen→(∀ (i : Nat) (x : List DV),xs[i]? = some x→x.length = l.length)→
      (∀ (i : Nat) (x : List DV) (j : Nat) (c : CT) (d : DV),xs[i]? = some x→l[j]? = some c→x[j]? = some d→Ty c d)→Ty (.sl l) (.sl l.length xs)
section
variable {H : Type} {enc : TypeId × Value→H} {P : Program} {w : World} {base : Nat} {held : Bool}
def ZC (w : World) (b : Nat) : Prop:=∃ c e f,w.heap[b]? = some (.cells c e f)
theorem Ty.cell {c : CT} {d : DV} (h : Ty c d) : Yi d = true:=by cases h <;> rfl
def Reads (w : World) (l : List CT) (cs : List Value) : Prop:=
  cs.length = l.length∧∃ ds : List DV,ds.length = l.length∧∀ (j : Nat) (c : CT) (v : Value),l[j]? = some c→cs[j]? = some v→∃ d,ds[j]? = some d∧Ty c d∧RelD w (ZC w) d v
theorem q6b {c : CT} {v : Value} {d : DV} (g : Ty c d) (f : RelD w (ZC w) d v) : Reads w [c] [v]:=by
  refine ⟨rfl,[d],rfl,fun j k h a b=>?_⟩
  cases j with
  | zero=>simp at a b;subst a b;exact ⟨d,rfl,g,f⟩
  | succ j=>simp at a
theorem qwr {l l' : List CT} {cs a : List Value} (h : Reads w l cs) (p : Reads w l' a) : Reads w (l ++ l') (cs ++ a):=by
  obtain ⟨o,ds,n,s⟩:=h;obtain ⟨b1,g,q,t⟩:=p;refine ⟨by simp [o,b1],ds ++ g,by simp [n,q],fun j c v f b=>?_⟩;by_cases r : j < l.length
  · rw [List.getElem?_append_left r] at f;rw [List.getElem?_append_left q6] at b;obtain ⟨d,k,m⟩:=s j c v f b;exact ⟨d,by rw [List.getElem?_append_left q6];exact k,m⟩
  · rw [List.getElem?_append_right q6] at f;rw [List.getElem?_append_right q6,o] at b;obtain ⟨d,k,m⟩:=t _ c v f b;exact ⟨d,by rw [List.getElem?_append_right q6,n];exact k,m⟩
theorem qot {f : TypeId→Option (List CT)} {g : Field→List Value→Prop} (j : ∀ (x : Field) (l : List CT) (cs : List Value),f x.type = some l→g x cs→Reads w l cs) :
    ∀ (c : List Field) (o : Nat) (l : List CT) (cs : List Value),qbj P f o c = some l→o + l.length = cs.length→(∀ x∈c,g x ((cs.drop x.offset).take (P.cellsOf x.type)))→Reads w l (cs.drop o)
  | [],o,l,cs,h,hl,_=>by
    simp [qbj] at h;subst h
    simp at hl
    rw [hl]
    exact ⟨qe,[],rfl,qe⟩
  | x::r,o,l,cs,h,hl,hx=>by
    simp only [qbj] at h
    split at h <;> try simp at h
    rename_i a q
    obtain ⟨⟨k,m⟩,h⟩:=h
    split at h <;> simp at h
    rename_i b hb
    subst h
    have d:=j x a _ q (hx x qe)
    rw [k,m] at d
    have n:=qot j r (o + a.length) b cs hb (by simp at hl;omega) (fun y p=>hx y (by simp [p]))
    have:=qwr d n
    rw [← List.drop_drop] at this
    rwa [List.take_append_drop] at this
theorem qe3 : ∀ (f : Nat) (t : TypeId) (l : List CT) (fuel : Nat) (cs : List Value) (x : DataW H × List MemPlace),tyL P f t = some l→DataW.trod enc P w base (fun _=>true) held fuel t cs = some x→Reads w l cs
  | 0,t,l,fuel,cs,x,hl,h=>by simp [tyL] at hl
  | f + 1,t,l,fuel,cs,x,hl,h=>by
    simp only [tyL] at hl
    split at hl <;> try simp at hl
    · rename_i ht
      subst hl
      cases fuel with
      | zero=>simp [DataW.trod] at h
      | succ n=>
        unfold DataW.trod at h
        rw [ht] at h
        split at h <;> simp_all
        exact q6b (.bool _) (.bool _)
    · rename_i k ht
      subst hl
      obtain ⟨n,rfl,_,hw⟩:=DataW.trod_int ht h
      exact q6b (.int hw) (.int _ _)
    · rename_i ht
      subst hl
      cases fuel with
      | zero=>simp [DataW.trod] at h
      | succ n=>
        unfold DataW.trod at h
        rw [ht] at h
        split at h <;> simp_all
        exact q6b (.str q6) (.str _)
    · rename_i e ht
      split at hl <;> simp at hl
      rename_i le ar
      obtain ⟨⟨u,av⟩,rfl⟩:=hl
      rcases open_slice ht h with ⟨rfl,_⟩ | ⟨a,len,cap,m,n,D,Pl,rfl,_,au,bf,hm,_,am⟩
      · exact q6b (.nil _) .nilsl
      · obtain rfl : cap = m:=by simpa using hm.symm
        have elem : ∀ i,i < cap→∃ p,w.cells? base (a.add (i * P.cellsOf e)) (P.cellsOf e) = some p∧Reads w le p:=by
          intro i hi;obtain ⟨p,h1,h2⟩:=am i hi;exact ⟨p,h1,qe3 f e le n p _ ar h2⟩
        have ax : 0 < P.cellsOf e:=by rw [← u];exact List.length_pos_iff.2 av
        by_cases ap : cap = 0
        · subst ap
          have : len = 0:=by omega
          subst this
          exact q6b (.sl (xs:=[]) qe qe qe) (.slemp _ _)
        · have ac : a.spot = none∧ZC w a.block:=by
            obtain ⟨p,h1,_⟩:=elem 0 q6;obtain ⟨_,h2,h3⟩:=World.cells?_some h1;have:=h3 0 q6;obtain ⟨v,hv⟩:=Zq (xs:=p) (i:=0) q6;rw [hv] at this;simp [World.cell?,Addr.add] at this;split at this <;> try simp at this
            rename_i c e' f' hc;exact ⟨this.1,c,e',f',hc⟩
          obtain ⟨b,o,sp⟩:=a
          obtain ⟨al,hz⟩:=ac
          simp only at al hz;subst al
          have ad : ∀ i,i < len→∃ ds : List DV,ds.length = le.length∧∀ (j : Nat) (c : CT),le[j]? = some c→∃ d v,ds[j]? = some d∧Ty c d∧w.cell? ⟨b,o + (i * le.length + j),none⟩ = some v∧RelD w (ZC w) d v:=by
            intro i hi;obtain ⟨p,h1,h4,ds,h5,h6⟩:=elem i q6;obtain ⟨_,h2,h3⟩:=World.cells?_some h1;refine ⟨ds,h5,fun j c hj=>?_⟩;have bg:=Kd hj;obtain ⟨v,hv⟩:=Zq (xs:=p) (i:=j) q6;obtain ⟨d,z,g2,g3⟩:=h6 j c v hj hv;have:=h3 j q6;rw [hv,Ju,Ju,← u,Nat.add_assoc] at this;exact ⟨d,v,z,g2,this,g3⟩
          obtain ⟨F,hF⟩:=choose_lt ad
          have q : ∀ (i : Nat) (x : List DV),((List.range len).map F)[i]? = some x→i < len∧x = F i:=by
            intro i x s;simp only [List.getElem?_map,Y5] at s;obtain ⟨k,hk,rfl⟩:=s;have hi : i < len:=by simpa using Kd hk
            rw [List.getElem?_range hi] at hk;cases hk;exact ⟨hi,rfl⟩
          have r : ((List.range len).map F).length = len:=by simp
          have ab : RelD w (ZC w) (.sl le.length ((List.range len).map F)) (.slice (some ⟨b,o,none⟩) ((List.range len).map F).length cap):=by
            refine .sl (by rw [r];exact au) (fun _=>hz) ?_ ?_ ?_
            · intro i x s;obtain ⟨hi,rfl⟩:=q i x s;exact (hF i hi).1
            · intro i x j d s hd;obtain ⟨hi,rfl⟩:=q i x s;obtain ⟨c,hc⟩:=Zq (xs:=le) (i:=j) (by rw [← (hF i hi).1];exact Kd hd);obtain ⟨d',v,z,g2,g3,g4⟩:=(hF i hi).2 j c hc;rw [hd] at z;cases z;exact ⟨g2.cell,v,g3⟩
            · intro i x j d v s hd hv;obtain ⟨hi,rfl⟩:=q i x s;obtain ⟨c,hc⟩:=Zq (xs:=le) (i:=j) (by rw [← (hF i hi).1];exact Kd hd);obtain ⟨d',v',z,g2,g3,g4⟩:=(hF i hi).2 j c hc;rw [hd] at z;cases z;rw [hv] at g3;cases g3;exact g4
          rw [r] at ab
          refine q6b (.sl (by rw [r];omega) ?_ ?_) ab
          · intro i x s
            obtain ⟨hi,rfl⟩:=q i x s
            exact (hF i hi).1
          · intro i x j c d s hc hd
            obtain ⟨hi,rfl⟩:=q i x s
            obtain ⟨d',v,z,g2,_⟩:=(hF i hi).2 j c hc
            rw [hd] at z;cases z
            exact g2
    · rename_i fs ht
      split at hl <;> simp at hl
      rename_i l' aq
      obtain ⟨u,rfl⟩:=hl
      obtain ⟨xs,n,_,_,bm,bc,hf⟩:=DataW.trod_struct ht h
      have:=qot (P:=P) (w:=w) (f:=tyL P f) (g:=fun x cs=>∃ y,DataW.trod enc P w base (fun _=>true) held n x.type cs = some y) (fun x l cs h1 ⟨y,h2⟩=>qe3 f x.type l n cs y h1 h2) fs.toList 0 l' cs aq q6 ?_
      · simpa using this
      · intro x s
        obtain ⟨i,hi⟩:=List.getElem?_of_mem s
        have:=hf i x (by simpa using hi)
        obtain ⟨y,hy⟩:=Zq (xs:=xs) (i:=i) (by have:=Kd hi;simp at this;omega)
        exact ⟨y,by rw [this];exact hy⟩
end
end Go.Am
namespace Go.Am
open Go
open Go.ChangeShapes Go.WideShapes Go.ChangeAt Go.RowKit Go.Deep
theorem q13m {P : Program} {l : List (Nat × TI)} (h : l.map (fun x=>tiOf P x.1) = l.map (fun x=>some x.2)) : Z5 P (qoq l):=by
  intro t i c;have b:=J2 (show find l t = some i from c);obtain ⟨k,a⟩:=List.getElem?_of_mem b;have:=congrArg (fun r=>r[k]?) h;simp only [List.getElem?_map,a,Option.map_some] at this;exact qe9 this
def aggT (P : Program) (t : TypeId) : Bool:=match P.underlying t with
  | some (.struct _) | some (.array _ _)=>true
  | _=>false
inductive Jn : List (Bool × List CT)→List DV→Prop
  | nil : Jn [] []
  | one {c : CT} {d : DV} {ps : List (Bool × List CT)} {ds : List DV} : Ty c d→Jn ps ds→Jn ((false,[c])::ps) (d::ds)
  | agg {l : List CT} {xs : List DV} {ps : List (Bool × List CT)} {ds : List DV} : xs.length = l.length→(∀ (j : Nat) (c : CT) (d : DV),l[j]? = some c→xs[j]? = some d→Ty c d)→Jn ps ds→Jn ((true,l)::ps) (.agg xs::ds)
section
variable {H : Type} {enc : TypeId × Value→H} {P : Program} {T : Tab} {W : World} {base : Nat}
theorem qpk {t : TypeId} {f : Nat} {l : List CT} {v : Value} {d : DataW H} {p : List MemPlace} (r : aggT P t = false) (o : tyL P f t = some l) (a : Value.okWide P W .any base t v) (h : DataW.Trod enc P W 0 (fun _=>true) true t v d p) :
    ∃ c x,l = [c]∧Ty c x∧RelD W (ZC W) x v:=by
  obtain ⟨fuel,hf⟩:=h;have m:=qe3 f t l fuel _ _ o hf
  have key : v.cells = #[v]→∃ c,l = [c]→∃ x,Ty c x∧RelD W (ZC W) x v:=by
    intro u;rw [u] at m;obtain ⟨z,ds,h2,y⟩:=m
    match l,z with
    | [c],_=>
      obtain ⟨x,_,w,q⟩:=y 0 c v rfl rfl;exact ⟨c,fun _=>⟨x,w,q⟩⟩
  have fin : v.cells = #[v]→∃ c x,l = [c]∧Ty c x∧RelD W (ZC W) x v:=by
    intro u;have j:=m.1;rw [u] at j m
    match l,j,m with
    | [c],_,m=>
      obtain ⟨_,ds,h2,y⟩:=m;obtain ⟨x,_,w,q⟩:=y 0 c v rfl rfl;exact ⟨c,x,rfl,w,q⟩
  cases f with
  | zero=>simp [tyL] at o
  | succ f=>
    simp only [tyL] at o;split at o <;> try simp at o
    · rename_i g;obtain ⟨b,rfl⟩:=okWide_bool g a;exact fin rfl
    · rename_i k g;obtain ⟨n,rfl⟩:=okWide_int g a;exact fin rfl
    · rename_i g;obtain ⟨s,rfl⟩:=okWide_string g a;exact fin rfl
    · rename_i e g;obtain ⟨a0,len,cap,rfl⟩:=okWide_slice g a;exact fin rfl
    · rename_i fs g;simp [aggT,g] at r
theorem qpj {t : TypeId} {f : Nat} {l : List CT} {v : Value} {d : DataW H} {p : List MemPlace} (b : aggT P t = true) (w : tyL P f t = some l) (a : Value.okWide P W .any base t v) (h : DataW.Trod enc P W 0 (fun _=>true) true t v d p) :
    ∃ xs : List DV,xs.length = l.length∧(∀ (j : Nat) (c : CT) (d : DV),l[j]? = some c→xs[j]? = some d→Ty c d)∧RelD W (ZC W) (.agg xs) v:=by
  obtain ⟨fuel,y⟩:=h
  have o : ∃ cs,v = .agg cs:=by
    unfold aggT at b;unfold Value.okWide at a;split at b
    · rename_i s;simp only [s] at a;obtain ⟨cs,h,_⟩:=a;exact ⟨cs,h⟩
    · rename_i s;simp only [s] at a;obtain ⟨cs,h,_⟩:=a;exact ⟨cs,h⟩
    · simp at b
  obtain ⟨cs,rfl⟩:=o;obtain ⟨m,ds,n,q⟩:=qe3 f t l fuel _ _ w y;simp only [Value.cells] at m q;refine ⟨ds,n,fun j c d k hd=>?_,.agg (by simpa [n] using m.symm) fun j d c hd k=>?_⟩
  · obtain ⟨v,o⟩:=Zq (xs:=cs.toList) (i:=j) (by rw [m];exact Kd k);obtain ⟨z,g,x,_⟩:=q j c v k o;rw [hd] at g;cases g;exact x
  · obtain ⟨ct,r⟩:=Zq (xs:=l) (i:=j) (by rw [← n];exact Kd hd);obtain ⟨z,g,_,u⟩:=q j ct c r (by simpa using k);rw [hd] at g;cases g;exact u
theorem qi8 {f : Nat} : ∀ (n : List TypeId) (b : List (Bool × List CT)) (m : List Value) (ds : List (DataW H)) (p : List MemPlace),n.map (fun t=>(aggT P t,tyL P f t)) = b.map (fun x=>(x.1,some x.2))→
    (∀ (j : Nat) t v,n[j]? = some t→m[j]? = some v→Value.okWide P W .any base t v)→DataW.TrodAll enc P W 0 (fun _=>true) true n m ds p→
    ∃ xs : List DV,Jn b xs∧xs.length = m.length∧∀ (j : Nat) (x : DV) (v : Value),xs[j]? = some x→m[j]? = some v→RelD W (ZC W) x v
  | [],b,m,ds,p,hp,hok,h=>by
    obtain ⟨rfl,rfl,rfl⟩:=trodAll_nil h
    cases b with
    | nil=>exact ⟨[],.nil,rfl,qe⟩
    | cons _ _=>simp at hp
  | t::n,b,m,ds,p,hp,hok,h=>by
    obtain ⟨v,z,d,r,q,q',rfl,rfl,rfl,h1,h2⟩:=trodAll_cons h
    cases b with
    | nil=>simp at hp
    | cons pr b=>
      obtain ⟨ag,l⟩:=pr
      simp only [List.map_cons,List.cons.injEq,Prod.mk.injEq] at hp
      obtain ⟨⟨o,hl⟩,hp⟩:=hp
      obtain ⟨xs,g1,g2,g3⟩:=qi8 n b z r q' hp (fun j t v ht hv=>hok (j + 1) t v (by simpa using ht) (by simpa using hv)) h2
      have a:=hok 0 t v rfl rfl
      cases ag with
      | false=>
        obtain ⟨c,x,rfl,s,w⟩:=qpk o hl a h1
        refine ⟨x::xs,.one s g1,by simp [g2],fun j y u g k=>?_⟩
        cases j with
        | zero=>simp at g k;subst g k;exact w
        | succ j=>exact g3 j y u (by simpa using g) (by simpa using k)
      | true=>
        obtain ⟨zs,k0,s,w⟩:=qpj o hl a h1
        refine ⟨.agg zs::xs,.agg k0 s g1,by simp [g2],fun j y u g k=>?_⟩
        cases j with
        | zero=>simp at g k;subst g k;exact w
        | succ j=>exact g3 j y u (by simpa using g) (by simpa using k)
theorem q14b {F : FuncId} {m : Array Value} {xs : List DV} (t : Z5 P T) (hm : P.follows .mixedOrders = true) (hp : Pure P T F xs (.bool true)) (u : xs.length = m.size) (hr : ∀ (j : Nat) (x : DV) (v : Value),xs[j]? = some x→m[j]? = some v→RelD W (ZC W) x v) :
    Calls P F m W fun e g=>e = .returned (.bool true)∧Grown W g∧Below W.heap.size W g:=by
  obtain ⟨v,hp',nx',r',he,p,r⟩:=hp;have z:=qq2 t hm he
  have h0 : RelH W (ZC W) (fun _=>none) [] 0:=⟨fun _ _ h=>by simp [find] at h,fun _ _ _ _ _ _ h=>by simp [find] at h,fun _ _ _ h=>by simp [find] at h,
    fun b ⟨c,e,f,h⟩=>J8 h,fun b h=>h⟩
  have hc:=z.2 W (ZC W) (fun _=>none) m h0 ⟨by simpa using u,fun j x v s q=>by
    simp only [List.getElem?_map,Y5] at s;obtain ⟨y,hy,rfl⟩:=s
    exact .d (hr j y v hy q)⟩
  refine (callsIn_wide (n:=0).1 hc).mono ?_;rintro e g ⟨x,Z',inj',rfl,hh,a,q,hn⟩;have w:=(qbk hh 8 p q).le r;cases w;have l : ∀ k,k < W.heap.size→g.heap[k]? = W.heap[k]?:=fun k l=>a.keep k l (by rintro ⟨n,blk,o,h1,_⟩;simp [find] at h1);refine ⟨rfl,⟨⟨a.os,a.output,fun i hi=>?_⟩,a.frz,a.size⟩,⟨a.os,a.tape,a.output,a.size,l⟩⟩;rw [l i hi]
  cases hw : W.heap[i]? with
  | none=>simp
  | some o=>cases o <;> simp
theorem qi9 (a : laidOutB P = true) {k : World} {l : Nat→Bool} : ∀ (b : List TypeId) (f : List Value) (ds : List (DataW H)) (p : List MemPlace),(∀ t∈b,P.readableRec t = true∧t < P.types.size)→DataW.TrodAll enc P W 0 (fun _=>true) true b f ds p→
    Below W.heap.size W k→(∀ x∈p,x.block < W.heap.size∧l x.block = true)→DataW.TrodAll enc P k 0 l true b f ds p
  | [],f,ds,p,_,h,_,_=>by obtain ⟨rfl,rfl,rfl⟩:=trodAll_nil h;exact trodAll_mk0
  | t::b,f,ds,p,ht,h,hb,hp=>by
    obtain ⟨v,j,d,g,q,r,rfl,rfl,rfl,m,n⟩:=trodAll_cons h
    refine trodAll_cons_mk (WideElems.Trod_stays a (ht t qe).1 (ht t qe).2 m (fun x c=>hb.same (hp x (by simp [c])).1) (fun x c=>(hp x (by simp [c])).2))
      (qi9 a b j g r (fun u o=>ht u (by simp [o])) n hb (fun x c=>hp x (by simp [c])))
theorem contract {f : Func} {F : FuncId} {s : ChangeSpec} {tb : TypeId} {fuel : Nat} {ps : List (Bool × List CT)} (hT : Z5 P T) (hm : P.follows .mixedOrders = true) (r : laidOutB P = true)
    (a : s.vars = []) (c : f.resultTypes = #[tb]) (w : P.underlying tb = some .bool) (l : ∀ t∈f.params.toList,P.readableRec t = true∧t < P.types.size)
    (ab : f.params.toList.map (fun t=>(aggT P t,tyL P fuel t)) = ps.map (fun x=>(x.1,some x.2)))
    (hs : ∀ ds : List (DataW H),ds.length = f.params.size→s.fn H ds = {results:=[.lit (.bool true)],args:=ds})
    (k : ∀ xs,Jn ps xs→Pure P T F xs (.bool true))
    {args : Array Value} {ds gs : List (DataW H)} {before : List MemPlace} (u : ∀ (j : Nat) t v,f.params[j]? = some t→args[j]? = some v→Value.okWide P W .any base t v)
    (hW : DataW.Whole enc P f.params.toList s.vars false W args.toList ds gs before) :
    Calls P F args W fun e W'=>∃ v,e = .returned v∧s.post enc P f false true false false W args v W':=by
  have g:=hW;obtain ⟨p,q,hA,hV,rfl,ap,aw⟩:=hW;rw [a] at hV;obtain ⟨rfl,rfl⟩:=trodVars_none hV;have n:=g.lt;simp only [List.append_nil] at g n;obtain ⟨xs,g1,g2,g3⟩:=qi8 (base:=base) f.params.toList ps args.toList ds p ab (fun j t v ht hv=>u j t v (by simpa using ht) (by simpa using hv)) hA;refine (q14b hT hm (k xs g1) (by simpa using g2) (fun j x v hx hv=>g3 j x v hx (by simpa using hv))).mono ?_;rintro e W' ⟨rfl,hg,hb⟩
  have y : ds.length = f.params.size:=by
    have : ∀ (o : List TypeId) (vs : List Value) (ds : List (DataW H)) (p : List MemPlace),DataW.TrodAll enc P W 0 (fun _=>true) true o vs ds p→ds.length = o.length:=by
      intro o
      induction o with
      | nil=>intro vs ds p h;obtain ⟨_,rfl,_⟩:=trodAll_nil h;rfl
      | cons t o ih=>intro vs ds p h;obtain ⟨v,aq,d,al,q,q',rfl,rfl,rfl,_,h2⟩:=trodAll_cons h;simp [ih _ _ _ h2]
    simpa using this _ _ _ _ hA
  have m:=hs (ds ++ []) (by simpa using y);refine ⟨_,rfl,post_of_same (pa:=p) (pv:=[]) g ?_ ?_ ?_ qe (hg.frame _) hg.2.1 (ok_one c rfl (okWide_bool_mk w _))⟩
  · intro b sp hd;rw [c,m];exact trodAll_cons_mk (shut_bool w _) trodAll_mk0
  · intro sp z;rw [m];show DataW.TrodAll enc P W' 0 sp true f.params.toList args.toList (ds ++ []) p;rw [List.append_nil];exact qi9 r _ _ _ _ l hA hb fun x hx=>⟨n x hx,z x hx⟩
  · intro sp z;rw [m,a];rfl
end
end Go.Am
namespace Go.Am
open Go
variable {P : Program} {T : Tab}
section
variable {base : Nat} {ops : Array Oper} {dr : Dr} {l : List Oper} {sl sl1 : List (Nat × V)} {hp hp1 : List (Nat × Blk)} {nx nx1 : Nat} {K : AS→Prop} {ty : TypeId} {pos : String} {af : Array Edge} {t : Tmp} {g : Option (Nat × Bool)} {v : V}
theorem qs4 {st : AS} {op : Op} (h : touch op = 0) : fp st op = (some [],[]):=by
  unfold touch at h;split at h <;> first | rfl | (simp at h;done) | (exact absurd h qx)
theorem qty {dr : Dr} {k : Nat} {st st1 : AS} {t : TypeId} {p : Operand} (h : okF dr k (fp st (.load t p)) = true) : okO dr k st (.load t p) st1 = true:=by
  cases dr with
  | none=>rfl
  | some F=>simp only [okF] at h;simp only [okO,h,Bool.true_and,q3h,touch]
theorem qlp {dr : Dr} {k n es : Nat} {st st1 : AS} {op : Op} {xs : List (List DV)} {r : List (Nat × Blk)} (a : st1.hp = (n,.dat es xs)::r) (h : okF dr k (fp st op) = true) : okO dr k st op st1 = true:=by
  cases dr with
  | none=>rfl
  | some F=>
    simp only [okF] at h;simp only [okO,h,Bool.true_and,q3h,a];split <;> rfl
theorem Jf {dr : Dr} {k : Nat} {st st1 : AS} {op : Op} (h : touch op = 0) : okO dr k st op st1 = true:=by
  cases dr with
  | none=>rfl
  | some F=>simp only [okO,qs4 h,qk3,Bool.true_and,q3h,h]
theorem fin {ex : Ex} {st : AS} {b : List ResultVar} {v : V} {r a : DV} (c : ex = .nor∨ex = .ret) (d : resV T st b = some v) (g : toD st.hp 8 v = some a) (f : a = r) : (ex = .nor∨ex = .ret)∧∃ v a,resV T st b = some v∧toD st.hp 8 v = some a∧DLe a r:=
  ⟨c,v,a,d,g,f ▸ .refl _⟩
theorem qu3 {x y : Operand} {a : TypeId} {i : TI} {k : IntKind} {n : Int} {m es off len : Nat} (j : Qw ops ⟨sl,hp,nx⟩ ⟨some t,.indexAddr a x y,ty,pos,af,g⟩ = some true) (c : T a = some i)
    (f : AS.ev ⟨sl,hp,nx⟩ x = some (.hs m es off len)) (p : AS.ev ⟨sl,hp,nx⟩ y = some (.d (.int k n))) (o : i.kind = .slice) (b : es = i.esize) (q : 0≤n) (hi : n < len)
    (h : OpsK P T base ops dr l ⟨(t,.ref m es (off + n.toNat) 0)::sl,hp,nx⟩ K) : OpsK P T base ops dr (⟨some t,.indexAddr a x y,ty,pos,af,g⟩::l) ⟨sl,hp,nx⟩ K:=
  Ye j (v:=.ref m es (off + n.toNat) 0) (st1:=⟨sl,hp,nx⟩) (by simp [opFn,f,p,c,q3o,o,b,q,hi]) h (Jf rfl)
theorem qlr {p : Operand} {b : TypeId} {i : TI} {m es a j : Nat} {xs : List (List DV)} {cs r : List DV} {w : V} (n : Qw ops ⟨sl,hp,nx⟩ ⟨some t,.load b p,ty,pos,af,g⟩ = some true) (c : T b = some i)
    (k : AS.ev ⟨sl,hp,nx⟩ p = some (.ref m es a j)) (hb : find hp m = some (.dat es xs)) (hi : xs[a]? = some cs) (hs : sub cs j i.size = some r) (o : (q1u i.agg r).map .d = some w)
    (h : OpsK P T base ops dr l ⟨(t,w)::sl,hp,nx⟩ K) (f : okF dr l.length (fp ⟨sl,hp,nx⟩ (.load b p)) = true:=by rfl) : OpsK P T base ops dr (⟨some t,.load b p,ty,pos,af,g⟩::l) ⟨sl,hp,nx⟩ K:=
  Ye n (v:=w) (st1:=⟨sl,hp,nx⟩) (by simp only [opFn,k,c,U1,AS.blk,hb,Nat.beq_refl,hi,hs,o,Option.map_some]) h (qty f)
end
end Go.Am
namespace Go.Am
open Go
variable {P : Program} {T : Tab}
section
variable {base : Nat} {ops : Array Oper} {dr : Dr} {l : List Oper} {sl : List (Nat × V)} {hp : List (Nat × Blk)} {nx : Nat} {K : AS→Prop} {ty : TypeId} {pos : String} {af : Array Edge} {t : Tmp} {g : Option (Nat × Bool)} {v : V}
theorem K2 {a : TypeId} {i : TI} (b : Qw ops ⟨sl,hp,nx⟩ ⟨some t,.alloc a,ty,pos,af,g⟩ = some true) (c : T a = some i)
    (h : OpsK P T base ops dr l ⟨(t,.ref nx i.size 0 0)::sl,(nx,.dat i.size [i.zero])::hp,nx + 1⟩ K) (d : okF dr l.length (fp ⟨sl,hp,nx⟩ (.alloc a)) = true:=by rfl) : OpsK P T base ops dr (⟨some t,.alloc a,ty,pos,af,g⟩::l) ⟨sl,hp,nx⟩ K:=
  Ye b (v:=.ref nx i.size 0 0) (st1:=⟨sl,(nx,.dat i.size [i.zero])::hp,nx + 1⟩) (by simp only [opFn,c,Option.map_some];rfl) h (qlp rfl d)
theorem qtz {x y : Operand} {a b : TypeId} {i j : TI} {n es len : Nat} {xs ys : List (List DV)} {f : V} (s : Qw ops ⟨sl,hp,nx⟩ ⟨some t,.call {callee:=.builtin .append,args:=#[x,y],argTypes:=#[a,b]},ty,pos,af,g⟩ = some true)
    (m : T a = some i) (d : T b = some j) (r : AS.ev ⟨sl,hp,nx⟩ x = some (.hs n es 0 len)) (z : AS.ev ⟨sl,hp,nx⟩ y = some f) (hb : find hp n = some (.dat es xs)) (p : len = xs.length) (hc : Yz ⟨sl,hp,nx⟩ f = some ys)
    (w : i.kind = .slice) (c : j.kind = .slice) (k : es = i.esize) (q : J1 i.esize f = true) (u : (len + ys.length) * (i.ebytes * 4)≤4294967296)
    (h : OpsK P T base ops dr l ⟨(t,.hs nx es 0 (len + ys.length))::sl,(nx,.dat es (xs ++ ys))::repl hp n .dead,nx + 1⟩ K) (o : okF dr l.length (fp ⟨sl,hp,nx⟩ (.call {callee:=.builtin .append,args:=#[x,y],argTypes:=#[a,b]})) = true:=by rfl) : OpsK P T base ops dr (⟨some t,.call {callee:=.builtin .append,args:=#[x,y],argTypes:=#[a,b]},ty,pos,af,g⟩::l) ⟨sl,hp,nx⟩ K:=by
  refine Ye s (v:=.hs nx es 0 (len + ys.length)) (st1:=⟨sl,(nx,.dat es (xs ++ ys))::repl hp n .dead,nx + 1⟩) ?_ h (qlp rfl o);subst p;have e : ((xs.drop 0).take xs.length ++ ys) = xs ++ ys:=by simp
  simp only [opFn,evL,r,z,Y9];simp only [List.getElem?_toArray,List.getElem?_cons_zero,List.getElem?_cons_succ,m,d];rw [qr ⟨w,c,q⟩];simp only [Z6,AS.blk,hb,hc];rw [qr ⟨q6,trivial,u,k⟩,e];rfl
theorem qgi {x : Operand} (b : Qw ops ⟨sl,hp,nx⟩ ⟨some t,.move x,ty,pos,af,g⟩ = some true) (a : AS.ev ⟨sl,hp,nx⟩ x = some v)
    (h : OpsK P T base ops dr l ⟨(t,v)::sl,hp,nx⟩ K) : OpsK P T base ops dr (⟨some t,.move x,ty,pos,af,g⟩::l) ⟨sl,hp,nx⟩ K:=
  Ye b (v:=v) (st1:=⟨sl,hp,nx⟩) (by simp only [opFn,a,Option.map_some]) h (Jf rfl)
theorem qu0 {x : Operand} (b : Qw ops ⟨sl,hp,nx⟩ ⟨some t,.assign x,ty,pos,af,g⟩ = some true) (a : AS.ev ⟨sl,hp,nx⟩ x = some v)
    (h : OpsK P T base ops dr l ⟨(t,v)::sl,hp,nx⟩ K) : OpsK P T base ops dr (⟨some t,.assign x,ty,pos,af,g⟩::l) ⟨sl,hp,nx⟩ K:=
  Ye b (v:=v) (st1:=⟨sl,hp,nx⟩) (by simp only [opFn,a,Option.map_some]) h (Jf rfl)
theorem qb {op : Op} {j : Nat} {w : Bool} (a : Qw ops ⟨sl,hp,nx⟩ ⟨some t,op,ty,pos,af,some (j,w)⟩ = some false) (h : OpsK P T base ops dr l ⟨(t,.d (.tup []))::sl,hp,nx⟩ K) : OpsK P T base ops dr (⟨some t,op,ty,pos,af,some (j,w)⟩::l) ⟨sl,hp,nx⟩ K:=
  qug a h
theorem qu8 {x : Operand} {a : TypeId} {i : TI} {es : Nat} {xs : List (List DV)} {m : Nat} (c : Qw ops ⟨sl,hp,nx⟩ ⟨some t,.call {callee:=.builtin .len,args:=#[x],argTypes:=#[a]},ty,pos,af,g⟩ = some true) (f : T a = some i) (j : i.kind = .slice) (b : AS.ev ⟨sl,hp,nx⟩ x = some (.d (.sl es xs))) (k : xs.length = m)
    (h : OpsK P T base ops dr l ⟨(t,.d (.int .i64 m))::sl,hp,nx⟩ K) : OpsK P T base ops dr (⟨some t,.call {callee:=.builtin .len,args:=#[x],argTypes:=#[a]},ty,pos,af,g⟩::l) ⟨sl,hp,nx⟩ K:=by
  subst k;exact Ye c (v:=.d (.int .i64 xs.length)) (st1:=⟨sl,hp,nx⟩) (by simp only [opFn,evL,b,Y9];simp only [List.getElem?_toArray,List.getElem?_cons_zero,f,j]) h (Jf rfl)
end
end Go.Am
namespace Go.Am
open Go
def iter {α β : Type} (f : α→Option (α ⊕ β)) : Nat→α→Option β
  | 0,_=>none
  | n + 1,a=>match f a with
    | none=>none
    | some (.inl a')=>iter f n a'
    | some (.inr b)=>some b
theorem qft {α β : Type} {f : α→Option (α ⊕ β)} : ∀ {n : Nat} {a : α} {b : β},iter f n a = some b→∀ m,n≤m→iter f m a = some b
  | 0,_,_,h,_,_=>by simp [iter] at h
  | n + 1,a,b,h,m,hm=>by
    obtain ⟨k,rfl⟩ : ∃ k,m = k + 1:=⟨m - 1,q6⟩
    simp only [iter] at h ⊢
    split at h
    · simp at h
    · rename_i a' c;exact qft h k q6
    · exact h
theorem qst {α β : Type} {f : α→Option (α ⊕ β)} {n m : Nat} {a : α} {b c : β} (h : iter f n a = some b) (d : iter f m a = some c) : b = c:=by
  have g:=qft h (max n m) q6;have j:=qft d (max n m) q6;grind
open Classical in
noncomputable def loop {α β : Type} (f : α→Option (α ⊕ β)) (a : α) : Option β:=
  if h : ∃ b n,iter f n a = some b then some h.choose else none
theorem q92 {α β : Type} {f : α→Option (α ⊕ β)} {a : α} {b : β} : loop f a = some b↔∃ n,iter f n a = some b:=by
  unfold loop;split
  · rename_i h;constructor
    · grind
    · rintro ⟨n,d⟩;obtain ⟨m,c⟩:=h.choose_spec;rw [qst c d]
  grind
theorem Y3 {α β : Type} {f : α→Option (α ⊕ β)} {a a' : α} (h : f a = some (.inl a')) : loop f a = loop f a':=by
  apply Option.ext;intro b;rw [q92,q92];constructor
  · rintro ⟨n,c⟩
    cases n with
    | zero=>simp [iter] at c
    | succ n=>simp only [iter,h] at c;exact ⟨n,c⟩
  · rintro ⟨n,c⟩;exact ⟨n + 1,by simp only [iter,h];exact c⟩
theorem Kh {α β : Type} {f : α→Option (α ⊕ β)} {a : α} {b : β} (h : f a = some (.inr b)) : loop f a = some b:=
  q92.2 ⟨1,by simp [iter,h]⟩
theorem qte {α β : Type} {f : α→Option (α ⊕ β)} (I : α→Prop) (μ : α→Nat) (Q : β→Prop) (step : ∀ a,I a→(∃ a',f a = some (.inl a')∧I a'∧μ a' < μ a)∨∃ b,f a = some (.inr b)∧Q b) {a : α} (h : I a) : ∃ b,loop f a = some b∧Q b:=by
  generalize g : μ a = n
  induction n using Nat.strongRecOn generalizing a with
  | _ n ih=>
    rcases step a h with ⟨a',c,d,j⟩ | ⟨b,c,d⟩
    · rw [Y3 c];exact ih _ (g ▸ j) d rfl
    · exact ⟨b,Kh c,d⟩
def w64 (x : Int) : Int:=IntKind.i64.wrap x
theorem Qg {x : Int} (h : -9223372036854775808≤x∧x≤9223372036854775807) : w64 x = x:=qhq h
def idx {α : Type} (xs : List α) (i : Int) : Option α:=if 0≤i then xs[i.toNat]? else none
def app {α : Type} (c : Nat) (xs ys : List α) : Option (List α):=if (xs.length + ys.length) * (c * 4)≤4294967296 then some (xs ++ ys) else none
def sub2 (n : Nat) (a b : Int) : Option (Nat × Nat):=if 0≤a∧a≤b∧b≤n then some (a.toNat,b.toNat - a.toNat) else none
def cpyw {α : Type} (xs : List α) (w : Nat × Nat) (ys : List α) : List α:=splice xs w.1 (ys.take (min ys.length w.2))
theorem leb {n m : Nat} (h : Nat.ble n m = true) : n≤m:=by simpa using h
theorem qjd {α : Type} {xs ys : List α} {w : Nat × Nat} (h : w.1 + w.2≤xs.length) : (cpyw xs w ys).length = xs.length:=by
  simp [cpyw,splice];omega
theorem ltd {n m : Nat} (h : Nat.blt n m = true) : n < m:=by simpa [Nat.blt_eq] using h
def eI (k : IntKind) (x : Int) : List DV:=[.int k x]
def eB (b : Bool) : List DV:=[.bool b]
theorem qcj {α : Type} {xs : List α} {i : Int} {v : α} (h : idx xs i = some v) : 0≤i∧xs[i.toNat]? = some v∧i.toNat < xs.length:=by
  unfold idx at h;grind
theorem q14r {α β : Type} {o : Option α} {f : α→Option β} {x : β} (h : o.bind f = some x) : ∃ v,o = some v∧f v = some x:=by
  cases o with
  | none=>cases h
  | some v=>exact ⟨v,rfl,h⟩
theorem q14x {α : Type} {a b : α} (h : some a = some b) : a = b:=qe9 h
section
variable {P : Program} {T : Tab} {base : Nat} {cs : List Code} {st : AS} {K : Ex→AS→Prop}
theorem RunK.mono {a : Ex→AS→Prop} : ∀ {cs : List Code} {st : AS},RunK P T base cs st K→(∀ ex st,K ex st→a ex st)→RunK P T base cs st a
  | [],_,h,hk=>hk _ _ h
  | c::cs,st,h,hk=>q3c.mono h fun ex st h=>by
    cases ex with
    | nor=>exact RunK.mono (cs:=cs) h hk
    | exit i=>exact hk _ _ h
    | ret=>exact hk _ _ h
theorem qo {α : Type} {c : Operand} {a b : Code} {t : Bool} {X Y : Option α} {x : α} (f : st.ev c = some (.d (.bool t))) (h : cond t X Y = some x) (j : t = true→X = some x→RunK P T base (a::cs) st K) (g : t = false→Y = some x→RunK P T base (b::cs) st K) :
    RunK P T base (.cond c a b::cs) st K:=by
  cases t with
  | true=>exact Zg f (j rfl h)
  | false=>exact Zf f (g rfl h)
theorem Qf {α β : Type} {body : Code} (f : α→Option (α ⊕ β)) (S : α→AS) (j : α) (m : β) (q : loop f j = some m) (p : WkE base st (S j))
    (round : ∀ a y,f a = some y→RunK P T base [body] (S a) (fun ex st'=>match ex with
      | .nor=>∃ a',y = .inl a'∧WkE base st' (S a')
      | ex=>∃ b,y = .inr b∧(b = m→K ex st'))) : RunK P T base (.loop body::cs) st K:=by
  obtain ⟨n,o⟩:=q92.1 q;refine qxh (fun x : Nat × α=>S x.2) (fun x=>iter f x.1 x.2 = some m) (fun x=>x.1) (n,j) p o ?_;rintro ⟨k,a⟩ c
  cases k with
  | zero=>simp [iter] at c
  | succ k=>
    simp only [iter] at c;split at c
    · cases c
    · rename_i a' g;refine (round a _ g).mono ?_;intro ex st' h
      cases ex with
      | nor=>
        obtain ⟨a'',d,l⟩:=h;cases d;exact ⟨(k,a'),c,qe,l⟩
      | exit i=>obtain ⟨b,d,_⟩:=h;cases d
      | ret=>obtain ⟨b,d,_⟩:=h;cases d
    · rename_i b g;cases c;refine (round a _ g).mono ?_;grind
theorem Jx {id : Nat} {N : AS→Prop} (h : N st) : q3f id N K (.exit id) st:=by simpa [q3f] using h
theorem Qp {id : Nat} {N : AS→Prop} (h : N st) : q3f id N K .nor st:=h
theorem Yu {β : Type} {c : Code} (E : β→Prop) (S : β→AS) (f : cs≠[]) (j : RunK P T base [c] st (qbi (fun st'=>∃ b,E b∧WkE base st' (S b)) K)) (a : ∀ b,E b→RunK P T base cs (S b) K) : RunK P T base (c::cs) st K:=by
  obtain ⟨ex,st1,h,d⟩:=q53 j;refine ⟨ex,st1,h,?_⟩
  cases ex with
  | nor=>obtain ⟨b,hb,g⟩:=d;exact Yc g (a b hb) f
  | exit i=>exact d
  | ret=>exact d
theorem Qj {β : Type} {id : Nat} {a : Code} (E : β→Prop) (S : β→AS) (d : cs≠[]) (g : RunK P T base [a] st (q3f id (fun st'=>∃ b,E b∧WkE base st' (S b)) K)) (c : ∀ b,E b→RunK P T base cs (S b) K) : RunK P T base (.block id a::cs) st K:=by
  refine Q4 (g.mono ?_);intro ex st' h
  cases ex with
  | nor=>obtain ⟨b,hb,f⟩:=h;exact Yc f (c b hb) d
  | ret=>exact h
  | exit i=>
    simp only [q3f] at h ⊢;split
    · rename_i hi;rw [qr hi] at h;obtain ⟨b,hb,f⟩:=h;exact Yc f (c b hb) d
    grind
theorem q6l {β : Type} {c : Code} (E : β→Prop) (S : β→AS) (f : RunK P T base [c] st (qbi (fun st'=>∃ b,E b∧WkE base st' (S b)) K)) (a : ∀ b st',E b→WkE base st' (S b)→K .nor st') : RunK P T base [c] st K:=by
  refine f.mono ?_;intro ex st' h
  cases ex with
  | nor=>obtain ⟨b,hb,d⟩:=h;exact a b st' hb d
  | exit i=>exact h
  | ret=>exact h
end
section
variable {P : Program} {T : Tab} {base : Nat} {ops : Array Oper} {dr : Dr} {l : List Oper} {sl : List (Nat × V)} {hp : List (Nat × Blk)} {nx : Nat} {K : AS→Prop} {ty : TypeId} {pos : String} {af : Array Edge} {t : Tmp} {g : Option (Nat × Bool)}
theorem quj {op : Op} (v : V) (a : Qw ops ⟨sl,hp,nx⟩ ⟨some t,op,ty,pos,af,g⟩ = some true) (b : opFn T ⟨sl,hp,nx⟩ op = some (v,⟨sl,hp,nx⟩)) (h : OpsK P T base ops dr l ⟨(t,v)::sl,hp,nx⟩ K) (c : okO dr l.length ⟨sl,hp,nx⟩ (op) ⟨sl,hp,nx⟩ = true:=by rfl) : OpsK P T base ops dr (⟨some t,op,ty,pos,af,g⟩::l) ⟨sl,hp,nx⟩ K:=
  Ye a b h c
theorem quc {op : Op} (v : V) (b : Blk) (a : Qw ops ⟨sl,hp,nx⟩ ⟨some t,op,ty,pos,af,g⟩ = some true) (c : opFn T ⟨sl,hp,nx⟩ op = some (v,⟨sl,(nx,b)::hp,nx + 1⟩)) (h : OpsK P T base ops dr l ⟨(t,v)::sl,(nx,b)::hp,nx + 1⟩ K) (d : okO dr l.length ⟨sl,hp,nx⟩ (op) ⟨sl,(nx,b)::hp,nx + 1⟩ = true:=by rfl) : OpsK P T base ops dr (⟨some t,op,ty,pos,af,g⟩::l) ⟨sl,hp,nx⟩ K:=
  Ye a c h d
theorem q3q {op : Op} {es len : Nat} (xs : List (List DV)) (a : Qw ops ⟨sl,hp,nx⟩ ⟨some t,op,ty,pos,af,g⟩ = some true) (f : opFn T ⟨sl,hp,nx⟩ op = some (.hs nx es 0 len,⟨sl,(nx,.dat es xs)::hp,nx + 1⟩)) (c : len = xs.length) (k : touch op = 2) (j : find hp nx = none) (h : OpsK P T base ops dr l ⟨(t,.d (.sl es xs))::sl,hp,nx + 1⟩ K) (b : okF dr l.length (fp ⟨sl,hp,nx⟩ op) = true:=by rfl) : OpsK P T base ops dr (⟨some t,op,ty,pos,af,g⟩::l) ⟨sl,hp,nx⟩ K:=by
  subst c;exact qud (n:=nx) (hp2:=hp) (st1:=⟨sl,(nx,.dat es xs)::hp,nx + 1⟩) a f k ⟨rfl,rfl⟩ rfl j h b
theorem qui {op : Op} (n : Nat) (b : Blk) (a : Qw ops ⟨sl,hp,nx⟩ ⟨none,op,ty,pos,af,g⟩ = some true) (c : opFn T ⟨sl,hp,nx⟩ op = some (.dead,⟨sl,repl hp n b,nx⟩)) (h : OpsK P T base ops dr l ⟨sl,repl hp n b,nx⟩ K) (d : okO dr l.length ⟨sl,hp,nx⟩ (op) ⟨sl,repl hp n b,nx⟩ = true:=by rfl) : OpsK P T base ops dr (⟨none,op,ty,pos,af,g⟩::l) ⟨sl,hp,nx⟩ K:=
  Ye a c h d
theorem Q9 {α : Type} {x : Operand} {b : Bool} {X Y : Option α} {m : α} (c : Qw ops ⟨sl,hp,nx⟩ ⟨some t,.move x,ty,pos,af,g⟩ = some true) (a : AS.ev ⟨sl,hp,nx⟩ x = some (.d (.bool b))) (h : cond b X Y = some m)
    (j : X = some m→OpsK P T base ops dr l ⟨(t,.d (.bool true))::sl,hp,nx⟩ K) (f : Y = some m→OpsK P T base ops dr l ⟨(t,.d (.bool false))::sl,hp,nx⟩ K) : OpsK P T base ops dr (⟨some t,.move x,ty,pos,af,g⟩::l) ⟨sl,hp,nx⟩ K:=by
  cases b with
  | true=>exact qgi c a (j h)
  | false=>exact qgi c a (f h)
theorem q1c {dr : Dr} (hd : dr = none) {n m : List Oper} {st st1 st2 : AS} : Ko P T base ops dr n st st1→Ko P T base ops dr m st1 st2→Ko P T base ops dr (n ++ m) st st2
  | .nil,h2=>h2
  | .skip a b,h2=>.skip a (q1c hd b h2)
  | .op a b _ c,h2=>.op a b (by subst hd;rfl) (q1c hd c h2)
  | .opF a b c d e f _ g,h2=>.opF a b c d e f (by subst hd;rfl) (q1c hd g h2)
  | .callP a b c d e f g h _ i,h2=>.callP a b c d e f g h (by subst hd;rfl) (q1c hd i h2)
  | .callS a b c d e,h2=>.callS a b c d (q1c hd e h2)
  | .callF a b c d e f g h i,h2=>.callF a b c d e f g h (q1c hd i h2)
  | .callY a b c d e f g h i j k l,h2=>.callY a b c d e f g h i j k (q1c hd l h2)
  | .wk a b,h2=>.wk a (q1c hd b h2)
  | .piv _ _ _,_=>by cases hd
theorem qfi {F : List Fp} {m k : Nat} : fpAt (F.drop m) k = fpAt F (k + m):=by
  unfold fpAt;grind
theorem qtx {F : List Fp} {l a : List Oper} {dr : Dr} (hd : dr = some (F.drop a.length)) {st st1 : AS} {op : Op} (h : okO dr l.length st op st1 = true) : okO (some F) (l ++ a).length st op st1 = true:=by
  subst hd;simp only [okO,qfi] at h;simpa only [okO,List.length_append] using h
theorem qlo {F : List Fp} {l a : List Oper} {dr : Dr} (hd : dr = some (F.drop a.length)) {x : Fp} (h : okF dr l.length x = true) : okF (some F) (l ++ a).length x = true:=by
  subst hd;simp only [okF,qfi] at h;simpa only [okF,List.length_append] using h
theorem qrs {F : List Fp} {m : List Oper} {dr : Dr} {k : Dr} (q : k = some F) (hd : dr = some (F.drop m.length)) {n : List Oper} {st st1 st2 : AS} (p : Ko P T base ops dr n st st1) (r : Ko P T base ops k m st1 st2) : Ko P T base ops k (n ++ m) st st2:=by
  subst q
  induction n generalizing st with
  | nil=>cases p with
    | nil=>exact r
    | wk _ _=>cases hd
  | cons o l ih=>
    cases p with
    | skip a b=>exact .skip a (ih b)
    | op a b c d=>exact .op a b (qtx hd c) (ih d)
    | opF a b c d e f g h=>exact .opF a b c d e f (qlo hd g) (ih h)
    | callP a b c d e f g h i j=>exact .callP a b c d e f g h (qlo hd i) (ih j)
    | callS _ _ _ _ _=>cases hd
    | callF _ _ _ _ _ _ _ _ _=>cases hd
    | callY _ _ _ _ _ _ _ _ _ _ _ _=>cases hd
    | wk _ _=>cases hd
    | piv a b c=>
      cases hd;rw [qfi] at a;exact .piv (by show Ui (fpAt F (l ++ m).length) = true;rw [List.length_append];exact a) b (ih c)
def qje (dr : Dr) (k : Nat) : Dr:=match dr with
  | none=>none
  | some F=>some (F.drop k)
theorem qrr {dr : Dr} {d a : List Oper} {st st1 st2 : AS} (c : Ko P T base ops (qje dr a.length) d st st1) (b : Ko P T base ops dr a st1 st2) : Ko P T base ops dr (d ++ a) st st2:=by
  cases dr with
  | none=>exact q1c rfl c b
  | some F=>exact qrs rfl rfl c b
theorem Qb (n : Nat) (Q : (List (Nat × V)→AS)→AS→Prop) (b : OpsK P T base ops (qje dr (l.drop n).length) (l.take n) ⟨sl,hp,nx⟩ (Q fun p=>⟨p ++ sl,hp,nx⟩)) (f : ∀ st',Q (fun p=>⟨p ++ sl,hp,nx⟩) st'→OpsK P T base ops dr (l.drop n) st' K) : OpsK P T base ops dr l ⟨sl,hp,nx⟩ K:=by
  obtain ⟨st1,c,a⟩:=b;obtain ⟨st2,g,d⟩:=f st1 a;refine ⟨st2,?_,d⟩;have:=qrr c g;simp_all
theorem qu5 {α : Type} {x y : Operand} {a : TypeId} {i : TI} {k : IntKind} {n : Int} {es : Nat} {xs : List α} {enc : α→List DV} {v : α} (m : idx xs n = some v) (o : Qw ops ⟨sl,hp,nx⟩ ⟨some t,.indexAddr a x y,ty,pos,af,g⟩ = some true) (f : T a = some i)
    (j : AS.ev ⟨sl,hp,nx⟩ x = some (.d (.sl es (xs.map enc)))) (q : AS.ev ⟨sl,hp,nx⟩ y = some (.d (.int k n))) (p : i.kind = .slice) (b : es = i.esize)
    (h : OpsK P T base ops dr l ⟨(t,.dref (enc v) 0)::sl,hp,nx⟩ K) : OpsK P T base ops dr (⟨some t,.indexAddr a x y,ty,pos,af,g⟩::l) ⟨sl,hp,nx⟩ K:=by
  obtain ⟨r,c,_⟩:=qcj m;exact Ye o (v:=.dref (enc v) 0) (st1:=⟨sl,hp,nx⟩) (by simp [opFn,j,q,f,q3o,p,b,r,c]) h (Jf rfl)
theorem qu4 {α : Type} {x y : Operand} {a : TypeId} {i : TI} {k : IntKind} {n : Int} {m es len : Nat} {xs : List α} {v : α} (o : idx xs n = some v) (f : len = xs.length) (p : Qw ops ⟨sl,hp,nx⟩ ⟨some t,.indexAddr a x y,ty,pos,af,g⟩ = some true) (c : T a = some i)
    (j : AS.ev ⟨sl,hp,nx⟩ x = some (.hs m es 0 len)) (r : AS.ev ⟨sl,hp,nx⟩ y = some (.d (.int k n))) (q : i.kind = .slice) (b : es = i.esize)
    (h : OpsK P T base ops dr l ⟨(t,.ref m es n.toNat 0)::sl,hp,nx⟩ K) : OpsK P T base ops dr (⟨some t,.indexAddr a x y,ty,pos,af,g⟩::l) ⟨sl,hp,nx⟩ K:=by
  subst f;obtain ⟨s,_,u⟩:=qcj o;exact Ye p (v:=.ref m es n.toNat 0) (st1:=⟨sl,hp,nx⟩) (by simp [opFn,j,r,c,q3o,q,b,s];omega) h (Jf rfl)
theorem qu9 {α : Type} {p : Operand} {a : TypeId} {i : TI} {m es j : Nat} {n : Int} {xs : List α} {enc : α→List DV} {r : List DV} {v : α} (w : V) (k : idx xs n = some v) (o : Qw ops ⟨sl,hp,nx⟩ ⟨some t,.load a p,ty,pos,af,g⟩ = some true) (b : T a = some i)
    (f : AS.ev ⟨sl,hp,nx⟩ p = some (.ref m es n.toNat j)) (hb : find hp m = some (.dat es (xs.map enc))) (hs : sub (enc v) j i.size = some r) (q : (q1u i.agg r).map .d = some w)
    (h : OpsK P T base ops dr l ⟨(t,w)::sl,hp,nx⟩ K) (c : okF dr l.length (fp ⟨sl,hp,nx⟩ (.load a p)) = true:=by rfl) : OpsK P T base ops dr (⟨some t,.load a p,ty,pos,af,g⟩::l) ⟨sl,hp,nx⟩ K:=
  qlr o b f hb (by rw [List.getElem?_map,(qcj k).2.1];rfl) hs q h c
theorem K5 {α : Type} {p x : Operand} {f : TypeId} {i : TI} {m es j : Nat} {n : Int} {xs : List α} {enc : α→List DV} {v : α} (k : α) {u : V} {ds : List DV} (t : idx xs n = some v) (w : Qw ops ⟨sl,hp,nx⟩ ⟨none,.store f p x,ty,pos,af,g⟩ = some true) (q : T f = some i)
    (hp' : AS.ev ⟨sl,hp,nx⟩ p = some (.ref m es n.toNat j)) (y : AS.ev ⟨sl,hp,nx⟩ x = some u) (hb : find hp m = some (.dat es (xs.map enc))) (o : cellsOf u = ds.map .d) (s : ds.length = i.size) (hk : ds.all Yi = true) (z : j + i.size≤(enc v).length) (hs : splice (enc v) j ds = enc k)
    (h : OpsK P T base ops dr l ⟨sl,repl hp m (.dat es ((xs.set n.toNat k).map enc)),nx⟩ K) (r : okO dr l.length ⟨sl,hp,nx⟩ (.store f p x) ⟨sl,repl hp m (.dat es ((xs.set n.toNat k).map enc)),nx⟩ = true:=by rfl) : OpsK P T base ops dr (⟨none,.store f p x,ty,pos,af,g⟩::l) ⟨sl,hp,nx⟩ K:=by
  refine Ye w (v:=.dead) (st1:=⟨sl,repl hp m (.dat es ((xs.set n.toNat k).map enc)),nx⟩) ?_ h r;have a : (cellsOf u).all Kl = true:=by rw [o,List.all_map];exact hk
  have b : (cellsOf u).length = i.size:=by rw [o];simpa using s
  have c : (xs.map enc)[n.toNat]? = some (enc v):=by rw [List.getElem?_map,(qcj t).2.1];rfl
  simp only [opFn,q,hp',y,Jl,AS.blk,hb,Nat.beq_refl,c];rw [qp (by simp [a,b]),qr z,o,qef];simp only [hs,List.map_set,AS.setBlk];rfl
theorem qls {α : Type} {x : Operand} {a : TypeId} {i : TI} {es : Nat} {xs : List α} {enc : α→List DV} (c : Qw ops ⟨sl,hp,nx⟩ ⟨some t,.call {callee:=.builtin .len,args:=#[x],argTypes:=#[a]},ty,pos,af,g⟩ = some true) (f : T a = some i) (j : i.kind = .slice) (b : AS.ev ⟨sl,hp,nx⟩ x = some (.d (.sl es (xs.map enc))))
    (h : OpsK P T base ops dr l ⟨(t,.d (.int .i64 (xs.length : Int)))::sl,hp,nx⟩ K) : OpsK P T base ops dr (⟨some t,.call {callee:=.builtin .len,args:=#[x],argTypes:=#[a]},ty,pos,af,g⟩::l) ⟨sl,hp,nx⟩ K:=
  qu8 c f j b qe h
theorem Kv {α : Type} {x y : Operand} {a c : TypeId} {i j : TI} {n es len : Nat} {xs ys zs : List α} {enc : α→List DV} (m : V) (d : app i.ebytes xs ys = some zs) (b : len = xs.length) (u : Qw ops ⟨sl,hp,nx⟩ ⟨some t,.call {callee:=.builtin .append,args:=#[x,y],argTypes:=#[a,c]},ty,pos,af,g⟩ = some true)
    (p : T a = some i) (k : T c = some j) (s : AS.ev ⟨sl,hp,nx⟩ x = some (.hs n es 0 len)) (w : AS.ev ⟨sl,hp,nx⟩ y = some m) (hb : find hp n = some (.dat es (xs.map enc))) (hc : Yz ⟨sl,hp,nx⟩ m = some (ys.map enc))
    (z : i.kind = .slice) (f : j.kind = .slice) (o : es = i.esize) (r : J1 i.esize m = true)
    (h : OpsK P T base ops dr l ⟨(t,.hs nx es 0 zs.length)::sl,(nx,.dat es (zs.map enc))::repl hp n .dead,nx + 1⟩ K) (q : okF dr l.length (fp ⟨sl,hp,nx⟩ (.call {callee:=.builtin .append,args:=#[x,y],argTypes:=#[a,c]})) = true:=by rfl) : OpsK P T base ops dr (⟨some t,.call {callee:=.builtin .append,args:=#[x,y],argTypes:=#[a,c]},ty,pos,af,g⟩::l) ⟨sl,hp,nx⟩ K:=by
  subst b;unfold app at d;split at d
  · rename_i v;cases d;refine qtz u p k s w hb qe hc z f o r (by simpa [Nat.mul_assoc] using v) ?_ q;grind
  · cases d
theorem Kt {α : Type} {n es len : Nat} {ys : List α} {enc : α→List DV} (a : len = ys.length) (hb : find hp n = some (.dat es (ys.map enc))) : Yz ⟨sl,hp,nx⟩ (.hs n es 0 len) = some (ys.map enc):=by
  subst a;simp only [Yz,AS.blk,hb];grind
theorem q8j {o : Operand} {k : IntKind} {a : Int} {d : Nat} {st : AS} (h : st.ev o = some (.d (.int k a))) (b : 0≤a) : bound st d (some o) = some a.toNat:=by
  simp [bound,h,b]
theorem q98 {x : Operand} {d : TypeId} {lo hi : Option Operand} {i : TI} {n es len : Nat} {a b : Int} {w : Nat × Nat} (c : sub2 len a b = some w) (o : Qw ops ⟨sl,hp,nx⟩ ⟨some t,.slice d x lo hi none,ty,pos,af,g⟩ = some true) (k : T d = some i) (q : i.kind = .slice) (r : es = i.esize)
    (m : AS.ev ⟨sl,hp,nx⟩ x = some (.hs n es 0 len)) (j : 0≤a→bound ⟨sl,hp,nx⟩ 0 lo = some a.toNat) (f : 0≤b→bound ⟨sl,hp,nx⟩ len hi = some b.toNat)
    (h : OpsK P T base ops dr l ⟨(t,.hs n es w.1 w.2)::sl,hp,nx⟩ K) : OpsK P T base ops dr (⟨some t,.slice d x lo hi none,ty,pos,af,g⟩::l) ⟨sl,hp,nx⟩ K:=by
  unfold sub2 at c;split at c
  · rename_i p;cases c;refine Ye o (v:=.hs n es a.toNat (b.toNat - a.toNat)) (st1:=⟨sl,hp,nx⟩) ?_ h (Jf rfl);simp only [opFn,k,m,q,lenV,j p.1,f q6,qdf];grind
  · cases c
theorem qb8 {n : Nat} {a b : Int} {w : Nat × Nat} (h : sub2 n a b = some w) : w.1 + w.2≤n:=by
  unfold sub2 at h;grind
theorem q12t {α β : Type} (f : α→β) (xs ys : List α) (j : Nat) : splice (xs.map f) j (ys.map f) = (splice xs j ys).map f:=by
  simp [splice,List.map_take,List.map_drop]
theorem qu2 {α : Type} {x y : Operand} {a b : TypeId} {i j : TI} {n es : Nat} {w : Nat × Nat} {xs ys : List α} {enc : α→List DV} (k : V) (u : w.1 + w.2≤xs.length) (s : Qw ops ⟨sl,hp,nx⟩ ⟨some t,.call {callee:=.builtin .copy,args:=#[x,y],argTypes:=#[a,b]},ty,pos,af,g⟩ = some true)
    (o : T a = some i) (f : T b = some j) (r : AS.ev ⟨sl,hp,nx⟩ x = some (.hs n es w.1 w.2)) (hy : AS.ev ⟨sl,hp,nx⟩ y = some k) (hb : find hp n = some (.dat es (xs.map enc))) (hc : Yz ⟨sl,hp,nx⟩ k = some (ys.map enc))
    (z : i.kind = .slice) (c : j.kind = .slice) (m : es = i.esize) (q : J1 i.esize k = true)
    (h : OpsK P T base ops dr l ⟨(t,.d (.int .i64 (min ys.length w.2 : Nat)))::sl,repl hp n (.dat es ((cpyw xs w ys).map enc)),nx⟩ K) (p : okO dr l.length ⟨sl,hp,nx⟩ (.call {callee:=.builtin .copy,args:=#[x,y],argTypes:=#[a,b]}) ⟨sl,repl hp n (.dat es ((cpyw xs w ys).map enc)),nx⟩ = true:=by rfl) : OpsK P T base ops dr (⟨some t,.call {callee:=.builtin .copy,args:=#[x,y],argTypes:=#[a,b]},ty,pos,af,g⟩::l) ⟨sl,hp,nx⟩ K:=by
  refine Ye s (v:=.d (.int .i64 (min ys.length w.2 : Nat))) (st1:=⟨sl,repl hp n (.dat es ((cpyw xs w ys).map enc)),nx⟩) ?_ h p;simp only [opFn,evL,r,hy,Y9];simp only [List.getElem?_toArray,List.getElem?_cons_zero,List.getElem?_cons_succ,o,f];rw [qr ⟨z,c,by simp [J1,m],q⟩];simp only [copyV,AS.blk,hb,hc];rw [qr ⟨by simpa using u,trivial⟩];simp only [List.length_map,cpyw,← List.map_take,q12t,AS.setBlk]
theorem qr6 {α : Type} {n es : Nat} {w : Nat × Nat} {ys : List α} {enc : α→List DV} (a : w.1 + w.2≤ys.length) (hb : find hp n = some (.dat es (ys.map enc))) : Yz ⟨sl,hp,nx⟩ (.hs n es w.1 w.2) = some (((ys.drop w.1).take w.2).map enc):=by
  simp only [Yz,AS.blk,hb];simp_all
theorem q1p {k c : IntKind} {a b : Int} {r : List V} : minI false (.d (.int k a)) (.d (.int c b)::r) = minI false (.d (.int k (min a b))) r:=by
  simp only [minI];grind
theorem U2 {k c : IntKind} {a b : Int} {r : List V} : minI true (.d (.int k a)) (.d (.int c b)::r) = minI true (.d (.int k (max a b))) r:=by
  simp only [minI];grind
theorem q1s {xs : Array Operand} {ats : Array TypeId} {b : List V} {k : IntKind} {a : Int} {r : Int} (f : Qw ops ⟨sl,hp,nx⟩ ⟨some t,.call {callee:=.builtin .min,args:=xs,argTypes:=ats},ty,pos,af,g⟩ = some true) (c : evL (AS.ev ⟨sl,hp,nx⟩) xs.toList = some (.d (.int k a)::b)) (j : minI false (.d (.int k a)) b = some (.d (.int k r)))
    (h : OpsK P T base ops dr l ⟨(t,.d (.int k r))::sl,hp,nx⟩ K) : OpsK P T base ops dr (⟨some t,.call {callee:=.builtin .min,args:=xs,argTypes:=ats},ty,pos,af,g⟩::l) ⟨sl,hp,nx⟩ K:=
  Ye f (v:=.d (.int k r)) (st1:=⟨sl,hp,nx⟩) (by simp [opFn,c,Y9,j]) h (Jf rfl)
theorem U4 {xs : Array Operand} {ats : Array TypeId} {b : List V} {k : IntKind} {a : Int} {r : Int} (f : Qw ops ⟨sl,hp,nx⟩ ⟨some t,.call {callee:=.builtin .max,args:=xs,argTypes:=ats},ty,pos,af,g⟩ = some true) (c : evL (AS.ev ⟨sl,hp,nx⟩) xs.toList = some (.d (.int k a)::b)) (j : minI true (.d (.int k a)) b = some (.d (.int k r)))
    (h : OpsK P T base ops dr l ⟨(t,.d (.int k r))::sl,hp,nx⟩ K) : OpsK P T base ops dr (⟨some t,.call {callee:=.builtin .max,args:=xs,argTypes:=ats},ty,pos,af,g⟩::l) ⟨sl,hp,nx⟩ K:=
  Ye f (v:=.d (.int k r)) (st1:=⟨sl,hp,nx⟩) (by simp [opFn,c,Y9,j]) h (Jf rfl)
theorem q1t {c : Call} {f : FuncId} {ds : List DV} {r : DV} (a : List V) (b : Pure P T f ds r) (j : Qw ops ⟨sl,hp,nx⟩ ⟨some t,.call c,ty,pos,af,g⟩ = some true) (m : callee ⟨sl,hp,nx⟩ c = some (f,a)) (hd : Kr hp a = some ds)
    (hs : (a.all V.isD = true∨r.scalar = true)) (h : OpsK P T base ops dr l ⟨(t,.d r)::sl,hp,nx⟩ K) (k : okF dr l.length (fpC a) = true:=by rfl) : OpsK P T base ops dr (⟨some t,.call c,ty,pos,af,g⟩::l) ⟨sl,hp,nx⟩ K:=
  qlq j rfl m hd hs b h k
theorem Zb {hp : List (Nat × Blk)} {v : V} {d : DV} {a : List V} {ds : List DV} (h : toD hp 8 v = some d) (b : Kr hp a = some ds) : Kr hp (v::a) = some (d::ds):=by
  simp [Kr,h,b]
theorem Za {α : Type} {k n es len : Nat} {ys : List α} {enc : α→List DV} (a : len = ys.length) (hb : find hp n = some (.dat es (ys.map enc))) : toD hp (k + 1) (.hs n es 0 len) = some (.sl es (ys.map enc)):=by
  subst a;simp only [toD,hb];grind
theorem q4w {k : Nat} {a : List V} {ds : List DV} (h : Ze (toD hp k) a = some ds) : toD hp (k + 1) (.tup a) = some (.tup ds):=by simp [toD,h]
theorem q13q {k : Nat} {a : List V} {ds : List DV} (h : Ze (toD hp k) a = some ds) : toD hp (k + 1) (.agg a) = some (.agg ds):=by simp [toD,h]
theorem qhk {k : Nat} {f : FuncId} {a : List V} {ds : List DV} (h : Ze (toD hp k) a = some ds) : toD hp (k + 1) (.fn f a) = some (.fn f ds):=by simp [toD,h]
theorem Yj {k : Nat} {v : V} {d : DV} {a : List V} {ds : List DV} (h : toD hp k v = some d) (b : Ze (toD hp k) a = some ds) : Ze (toD hp k) (v::a) = some (d::ds):=by simp [Ze,h,b]
inductive DLeL : List DV→List DV→Prop
  | nil : DLeL [] []
  | cons {x y : DV} {xs ys : List DV} : DLe x y→DLeL xs ys→DLeL (x::xs) (y::ys)
theorem DLeL.len {xs ys : List DV} (h : DLeL xs ys) : xs.length = ys.length:=by
  induction h with
  | nil=>rfl
  | cons _ _ ih=>simp [ih]
theorem DLeL.get {xs ys : List DV} (h : DLeL xs ys) : ∀ (i : Nat) (x y : DV),xs[i]? = some x→ys[i]? = some y→DLe x y:=by
  induction h with
  | nil=>intro i x y h;simp at h
  | cons h1 _ ih=>grind
theorem Yb {xs ys : List DV} (h : DLeL xs ys) : DLe (.tup xs) (.tup ys):=.tup h.len h.get
theorem qf7 {xs ys : List DV} (h : DLeL xs ys) : DLe (.agg xs) (.agg ys):=.agg h.len h.get
theorem finD {ex : Ex} {st : AS} {b : List ResultVar} {v : V} {r a : DV} (c : ex = .nor∨ex = .ret) (d : resV T st b = some v) (g : toD st.hp 8 v = some a) (f : DLe a r) : (ex = .nor∨ex = .ret)∧∃ v a,resV T st b = some v∧toD st.hp 8 v = some a∧DLe a r:=
  ⟨c,v,a,d,g,f⟩
end
theorem qp5 {α : Type} {st : AS} {ρ : Nat→Nat} {fz ph : List Nat} {nx n es len : Nat} {ys : List α} {enc : α→List DV} (b : len = ys.length) (hb : st.blk n = some (.dat es (ys.map enc))) (a : n∈fz) : Wv st ρ fz ph nx (.hs n es 0 len) (.d (.sl es (ys.map enc))):=by
  subst b;exact .frz hb a qe (by rw [List.drop_zero,List.take_of_length_le qe]) rfl
theorem K7 {st : AS} {ρ : Nat→Nat} {fz ph : List Nat} {nx n m es o l l' : Nat} (b : l = l') (a : ρ m = n) (d : m ∉ ph) (c : m < nx) : Wv st ρ fz ph nx (.hs n es o l) (.hs m es o l'):=b ▸ .hs a d c
inductive WvC (st : AS) (ρ : Nat→Nat) (fz ph : List Nat) (nx : Nat) : List V→List V→Prop
  | nil : WvC st ρ fz ph nx [] []
  | cons {c d : V} {cs ds : List V} : Wv st ρ fz ph nx c d→Kl d = true→WvC st ρ fz ph nx cs ds→WvC st ρ fz ph nx (c::cs) (d::ds)
theorem WvC.len {st : AS} {ρ : Nat→Nat} {fz ph : List Nat} {nx : Nat} {cs ds : List V} (h : WvC st ρ fz ph nx cs ds) : cs.length = ds.length:=by
  induction h with
  | nil=>rfl
  | cons _ _ _ ih=>simp [ih]
theorem WvC.get {st : AS} {ρ : Nat→Nat} {fz ph : List Nat} {nx : Nat} {cs ds : List V} (h : WvC st ρ fz ph nx cs ds) : ∀ (j : Nat) (c d : V),cs[j]? = some c→ds[j]? = some d→Wv st ρ fz ph nx c d∧Kl d = true:=by
  induction h with
  | nil=>intro i x y h;simp at h
  | cons h1 h2 _ ih=>grind
theorem Jm {st : AS} {ρ : Nat→Nat} {fz ph : List Nat} {nx es : Nat} {cs ds : List V} (h : WvC st ρ fz ph nx cs ds) : Wb st ρ fz ph nx (.cel es [cs]) (.cel es [ds]):=by
  refine .cel rfl fun i x y a b=>?_
  cases i with
  | zero=>simp at a b;subst a b;exact ⟨h.len,h.get⟩
  | succ i=>simp at a
theorem qhp {st : AS} {ρ : Nat→Nat} {fz ph : List Nat} {nx es : Nat} {cs : List DV} {ds : List V} (h : WvC st ρ fz ph nx (cs.map .d) ds) : Wb st ρ fz ph nx (.dat es [cs]) (.cel es [ds]):=by
  refine .datcel rfl fun i x y a b=>?_
  cases i with
  | zero=>
    simp at a b;subst a b;exact ⟨by simpa using h.len,fun j c d f hd=>h.get j (.d c) d (by simp [f]) hd⟩
  | succ i=>simp at a
inductive WvL (st : AS) (ρ : Nat→Nat) (fz ph : List Nat) (nx : Nat) : List V→List V→Prop
  | nil : WvL st ρ fz ph nx [] []
  | cons {c d : V} {cs ds : List V} : Wv st ρ fz ph nx c d→WvL st ρ fz ph nx cs ds→WvL st ρ fz ph nx (c::cs) (d::ds)
theorem WvL.len {st : AS} {ρ : Nat→Nat} {fz ph : List Nat} {nx : Nat} {cs ds : List V} (h : WvL st ρ fz ph nx cs ds) : cs.length = ds.length:=by
  induction h with
  | nil=>rfl
  | cons _ _ ih=>simp [ih]
theorem WvL.get {st : AS} {ρ : Nat→Nat} {fz ph : List Nat} {nx : Nat} {cs ds : List V} (h : WvL st ρ fz ph nx cs ds) : ∀ (j : Nat) (c d : V),cs[j]? = some c→ds[j]? = some d→Wv st ρ fz ph nx c d:=by
  induction h with
  | nil=>intro i x y h;simp at h
  | cons h1 _ ih=>grind
theorem q29 {st : AS} {ρ : Nat→Nat} {fz ph : List Nat} {nx : Nat} {f : FuncId} {cs ds : List V} (h : WvL st ρ fz ph nx cs ds) : Wv st ρ fz ph nx (.fn f cs) (.fn f ds):=.fn h.len h.get
theorem qhs {st : AS} {ρ : Nat→Nat} {fz ph : List Nat} {nx : Nat} {cs ds : List V} (h : WvL st ρ fz ph nx cs ds) : Wv st ρ fz ph nx (.tup cs) (.tup ds):=.tup h.len h.get
theorem q14k {st : AS} {ρ : Nat→Nat} {fz ph : List Nat} {nx : Nat} {cs : List DV} {ds : List V} (h : WvL st ρ fz ph nx (cs.map .d) ds) : Wv st ρ fz ph nx (.d (.tup cs)) (.tup ds):=
  .dtup (by have:=h.len;simpa using this) fun i c d a hd=>h.get i _ d (by simp [a]) hd
theorem q14j {st : AS} {ρ : Nat→Nat} {fz ph : List Nat} {nx : Nat} {cs : List DV} {ds : List V} (h : WvL st ρ fz ph nx (cs.map .d) ds) : Wv st ρ fz ph nx (.d (.agg cs)) (.agg ds):=
  .dagg (by have:=h.len;simpa using this) fun i c d a hd=>h.get i _ d (by simp [a]) hd
theorem qe6 {st : AS} {ρ : Nat→Nat} {fz ph : List Nat} {nx : Nat} {cs ds : List V} (h : WvL st ρ fz ph nx cs ds) : Wv st ρ fz ph nx (.agg cs) (.agg ds):=.agg h.len h.get
theorem qjs {P : Program} {T : Tab} {f : FuncId} {ds a : List DV} (j : DLeL a ds) {k : List V} {hp hp' : List (Nat × Blk)} {nx nx' : Nat} {v : V} : K9 P T f k hp nx v hp' nx'→k = ds.map .d→hp = []→nx = 0→K9 P T f (a.map .d) [] 0 v hp' nx'
  | .wk e w,g,hh,hn=>by
    have h:=qjs j e g hh hn
    subst hh hn
    exact .wk h w
  | .mk h1 h2 h3 h4 h5 h6 h7 h8,g,hh,hn=>by
    subst g hh hn
    refine .mk h1 h2 h3 h4 (by simpa [j.len] using h5) (.wk (ρ:=fun n=>n) (fz:=[]) (ph:=[]) ⟨?_,?_,?_,?_,?_,?_,?_,?_⟩ h6) h7 h8
    · intro t p g
      simp only [AS.get,qbv] at g ⊢
      simp only [Nat.zero_le,if_true,Nat.sub_zero,List.getElem?_map,Y5] at g ⊢
      obtain ⟨y,o,rfl⟩:=g
      obtain ⟨x,l⟩:=Zq (xs:=a) (i:=t) (by rw [j.len];exact Kd o)
      exact ⟨_,⟨x,l,rfl⟩,.d (j.get t x y l o)⟩
    · intro n b h;simp [AS.blk,find] at h
    · intro n m b c h;simp [AS.blk,find] at h
    · intro n b h;simp [AS.blk,find] at h
    · intro n h;rfl
    · exact Nat.le_refl _
    · intro n h;cases h
    · intro n h;cases h
theorem q3s {P : Program} {T : Tab} {f : FuncId} {ds a : List DV} {r : DV} (c : DLeL a ds) (h : Pure P T f ds r) : Pure P T f a r:=by
  obtain ⟨v,hp,nx,d,e,g,b⟩:=h;exact ⟨v,hp,nx,d,qjs c e rfl rfl rfl,g,b⟩
end Go.Am
namespace Go.Sh
open Go Go.Am
theorem Qt {α : Type} {xs : List α} {k : Nat} (h : k < xs.length) : idx xs (k : Int) = some xs[k]:=by simp [idx,h]
theorem J4 {α : Type} {xs : List α} {i : Int} {k : Nat} (hi : i = k) (h : k < xs.length) : idx xs i = some xs[k]:=by subst hi;exact Qt h
theorem Y7 {α : Type} {c : Nat} {xs ys : List α} (h : (xs.length + ys.length) * (c * 4)≤4294967296) : app c xs ys = some (xs ++ ys):=by simp [app,h]
theorem qr3 {α : Type} {c : Bool} {a b : α} : (cond c (some a) (some b)) = some (cond c a b):=by cases c <;> rfl
theorem J5 {α β σ : Type} {f : α→Option (α ⊕ β)} (mk : Nat→σ→α) (n : Nat) (I : Nat→σ→Prop) (Q : β→Prop)
    (step : ∀ k c,k < n→I k c→(∃ g,f (mk k c) = some (.inl (mk (k + 1) g))∧I (k + 1) g)∨∃ b,f (mk k c) = some (.inr b)∧Q b)
    (done : ∀ c,I n c→∃ b,f (mk n c) = some (.inr b)∧Q b) {k0 : Nat} {c0 : σ} (h : k0≤n) (j : I k0 c0) : ∃ b,loop f (mk k0 c0) = some b∧Q b:=by
  have key : ∀ m k c,n - k = m→k≤n→I k c→∃ b,loop f (mk k c) = some b∧Q b:=by
    intro m
    induction m with
    | zero=>
      intro k c l h hi;obtain rfl : k = n:=by omega
      obtain ⟨b,a,d⟩:=done c hi;exact ⟨b,Kh a,d⟩
    | succ m ih=>
      intro k c l h hi;rcases step k c q6 hi with ⟨g,a,d⟩ | ⟨b,a,d⟩
      · rw [Y3 a];exact ih (k + 1) g q6 q6 d
      · exact ⟨b,Kh a,d⟩
  exact key _ k0 c0 rfl h j
def I64 (x : Int) : Prop:=-9223372036854775808≤x∧x≤9223372036854775807
end Go.Sh
namespace Go.Am
open Go
theorem q150 {k : IntKind} {d : DV} (h : Ty (.int k) d) : ∃ n : Int,d = .int k n∧(Lit.int k n).wf = true:=by
  cases h with | int hw=>exact ⟨_,rfl,hw⟩
def q2a (l : List CT) (x : List DV) : Prop:=x.length = l.length∧∀ (j : Nat) (c : CT) (d : DV),l[j]? = some c→x[j]? = some d→Ty c d
theorem q14v {x : List DV} (h : q2a [] x) : x = []:=List.length_eq_zero_iff.1 h.1
theorem q14u {c : CT} {l : List CT} {x : List DV} (h : q2a (c::l) x) : ∃ d r,x = d::r∧Ty c d∧q2a l r:=by
  obtain ⟨a,b⟩:=h
  cases x with
  | nil=>simp at a
  | cons d r=>exact ⟨d,r,rfl,b 0 c d rfl rfl,by simpa using a,fun j k f g hd=>b (j + 1) k f (by simpa using g) (by simpa using hd)⟩
theorem q151 {α : Type} {l : List CT} {enc : α→List DV} {wf : α→Prop} (row : ∀ x,q2a l x→∃ a,x = enc a∧wf a) {d : DV} (h : Ty (.sl l) d) : ∃ xs : List α,DLe d (.sl l.length (xs.map enc))∧(∀ x∈xs,wf x)∧xs.length≤maxLen:=by
  cases h with
  | nil=>exact ⟨[],.nil _,qe,qe⟩
  | @sl _ xs hl h1 h2=>
    have key : ∀ ys : List (List DV),(∀ y∈ys,q2a l y)→∃ zs : List α,ys = zs.map enc∧∀ z∈zs,wf z:=by
      intro ys
      induction ys with
      | nil=>intro _;exact ⟨[],rfl,qe⟩
      | cons y ys ih=>
        intro f;obtain ⟨a,rfl,k⟩:=row y (f y qe);obtain ⟨zs,rfl,b⟩:=ih fun z b=>f z (by simp [b]);exact ⟨a::zs,rfl,by simpa using ⟨k,b⟩⟩
    obtain ⟨zs,rfl,b⟩:=key xs fun y f=>by
      obtain ⟨i,hi⟩:=List.getElem?_of_mem f;exact ⟨h1 i y hi,fun j c d g hd=>h2 i y j c d hi g hd⟩
    exact ⟨zs,.refl _,b,by simpa using hl⟩
theorem qrc {α : Type} {es : Nat} {enc : α→List DV} {xs : List (List DV)} {zs : List α} (f : xs.length = zs.length) (h : ∀ (i : Nat) (x : List DV) (z : α),xs[i]? = some x→zs[i]? = some z→DLeL x (enc z)) : DLe (.sl es xs) (.sl es (zs.map enc)):=by
  have key : ∀ (i : Nat) (x y : List DV),xs[i]? = some x→(zs.map enc)[i]? = some y→DLeL x y:=fun i x y b a=>by
    rw [List.getElem?_map,Y5] at a;obtain ⟨z,g,rfl⟩:=a;exact h i x z b g
  exact .sl (by simpa using f) (fun i x y b a=>(key i x y b a).len) fun i x y j c d b a k hd=>(key i x y b a).get j c d k hd
theorem q152 {α : Type} {l : List CT} {enc : α→List DV} {wf : α→Prop} (row : ∀ x,q2a l x→∃ a,DLeL x (enc a)∧wf a) {d : DV} (h : Ty (.sl l) d) : ∃ xs : List α,DLe d (.sl l.length (xs.map enc))∧(∀ x∈xs,wf x)∧xs.length≤maxLen:=by
  cases h with
  | nil=>exact ⟨[],.nil _,qe,qe⟩
  | @sl _ xs hl h1 h2=>
    have key : ∀ ys : List (List DV),(∀ y∈ys,q2a l y)→∃ zs : List α,ys.length = zs.length∧(∀ (i : Nat) (x : List DV) (z : α),ys[i]? = some x→zs[i]? = some z→DLeL x (enc z))∧∀ z∈zs,wf z:=by
      intro ys
      induction ys with
      | nil=>intro _;exact ⟨[],rfl,qe,qe⟩
      | cons y ys ih=>
        intro m;obtain ⟨a,q,p⟩:=row y (m y qe);obtain ⟨zs,g,k,b⟩:=ih fun z k=>m z (by simp [k]);refine ⟨a::zs,by simp [g],fun i x z n f=>?_,by simpa using ⟨p,b⟩⟩
        cases i with
        | zero=>simp only [List.getElem?_cons_zero,Option.some.injEq] at n f;subst n f;exact q
        | succ i=>exact k i x z (by simpa using n) (by simpa using f)
    obtain ⟨zs,g,k,b⟩:=key xs fun y m=>by
      obtain ⟨i,hi⟩:=List.getElem?_of_mem m;exact ⟨h1 i y hi,fun j c d o hd=>h2 i y j c d hi o hd⟩
    exact ⟨zs,qrc g k,b,q6⟩
theorem q153 {n : Int} (h : (Lit.int .i64 n).wf = true) : -9223372036854775808≤n∧n≤9223372036854775807:=by
  simp [Lit.wf,IntKind.min,IntKind.max,IntKind.signed,IntKind.bits] at h;omega
theorem q14p {xs : List DV} (h : Jn [] xs) : xs = []:=by cases h;rfl
theorem q14q {c : CT} {a : List (Bool × List CT)} {xs : List DV} (h : Jn ((false,[c])::a) xs) : ∃ d r,xs = d::r∧Ty c d∧Jn a r:=by
  cases h with | one h1 h2=>exact ⟨_,_,rfl,h1,h2⟩
theorem q14o {l : List CT} {a : List (Bool × List CT)} {xs : List DV} (h : Jn ((true,l)::a) xs) : ∃ x r,xs = .agg x::r∧q2a l x∧Jn a r:=by
  cases h with | agg h1 h2 h3=>exact ⟨_,_,rfl,⟨h1,h2⟩,h3⟩
end Go.Am
