/- Am26 Am27 Am28 Am29 Am30 Am31 Lf1 Pl0 Lf2 -/
import Derived.Test.YtiejlbckgihckaaGreatK5
import Derived.ProofKit
import Derived.OpenShut
import Derived.Deep.Slices
namespace Go.Am
open Go
variable {P : Program} {T : Tab}
def wpL (F : Fence) (P : Program) (c : Code) (Q : Exit→Act→World→Prop) (a : Act) (w : World) : Prop:=
  ∀ (b : Frame) (k : List Item) (cs : List Frame),b.roundOf = F.round→F.fn b.fn→F.room (cs.length + 1 + 0)→
    ∃ e a' w',Q e a' w'∧ArrivesIn (Machine.fenced P F) P (lone (b.atR a (.code c::.inLoop c::k)) cs w) b k cs e a' w'
theorem qmz {F : Fence} {c : Code} {Q : Exit→Act→World→Prop} {a : Act} {w : World} (h : c.wpIn F 0 P (Exit.then (wpL F P c Q) Q) a w) : wpL F P c Q a w:=by
  intro b k cs j hb p;obtain ⟨e,n,m,g,d⟩:=h b (.inLoop c::k) cs j hb p
  cases e with
  | normal=>
    obtain ⟨q,s,r,o,f⟩:=g b k cs j hb p;exact ⟨q,s,r,o,.of_steps (StepsIn.trans d (.one (fenced_calm hb p rfl) stepR_inLoop)) f⟩
  | exit id=>exact ⟨_,n,m,g,.pass (x:=.inLoop c) rfl (fun _ _=>.inl qc) d⟩
  | goto l=>exact ⟨_,n,m,g,.pass (x:=.inLoop c) rfl (fun _ _=>.inl qc) d⟩
  | ret=>exact ⟨_,n,m,g,.pass (x:=.inLoop c) rfl (fun _ _=>.inl qc) d⟩
  | panic ch=>exact ⟨_,n,m,g,.pass (x:=.inLoop c) rfl (fun _ _=>.inl qc) d⟩
  | outgrown=>exact ⟨_,n,m,g,.pass (x:=.inLoop c) rfl (fun _ _=>.inl qc) d⟩
theorem q10v {F : Fence} {c : Code} {Q : Exit→Act→World→Prop} {a : Act} {w : World} (h : wpL F P c Q a w) : (Code.loop c).wpIn F 0 P Q a w:=by
  intro b k cs f hb g;obtain ⟨e,a',w',j,d⟩:=h b k cs f hb g;exact ⟨e,a',w',j,.of_steps (.one (fenced_calm hb g rfl) stepR_loop) d⟩
theorem qmy {F : Fence} {c : Code} {Q d : Exit→Act→World→Prop} {a : Act} {w : World} (h : wpL F P c Q a w) (g : ∀ e a w,Q e a w→d e a w) : wpL F P c d a w:=
  fun b k cs j f l=>let ⟨e,a',w',q,r⟩:=h b k cs j f l;⟨e,a',w',g _ _ _ q,r⟩
def CP (base : Nat) (w : World) (Z : Nat→Prop) (inj : Inj) (st : AS) (a : Act) (Ds : List Nat) (ex : Ex) (st' : AS) (e : Exit) (a' : Act) (w' : World) : Prop:=e = toE ex∧Kr base w Z inj st a Ds st' a' w'
def Km (P : Program) (base : Nat) (c : Code) (st : AS) (ex : Ex) (st' : AS) : Prop:=
  ∀ (ro : Option Nat) (w : World) (Z : Nat→Prop) (inj : Inj) (a : Act) (Ds : List Nat),RelS w Z inj st a Ds→codeOk a.tmps.size c = true→base≤st.nx→Yb ro w→
    c.wpIn (Fw ro) 0 P (CP base w Z inj st a Ds ex st') a w∧∀ d,c = .loop d→wpL (Fw ro) P d (CP base w Z inj st a Ds ex st') a w
section
variable {base : Nat} {st st1 st2 : AS} {ex : Ex}
theorem J8 {c : Code} (j : ∀ d,c≠.loop d) (h : ∀ (ro : Option Nat) (w : World) (Z : Nat→Prop) (inj : Inj) (a : Act) (Ds : List Nat),RelS w Z inj st a Ds→codeOk a.tmps.size c = true→base≤st.nx→Yb ro w→
    c.wpIn (Fw ro) 0 P (CP base w Z inj st a Ds ex st1) a w) : Km P base c st ex st1:=
  fun ro w Z inj a Ds f b g k=>⟨h ro w Z inj a Ds f b g k,fun d hd=>absurd hd (j d)⟩
theorem Kr.round {w : World} {Z : Nat→Prop} {inj : Inj} {a : Act} {Ds : List Nat} {a' : Act} {w' : World} {ro : Option Nat} (h : Kr base w Z inj st a Ds st1 a' w') (b : Yb ro w) : Yb ro w':=by
  obtain ⟨_,_,_,_,e,_⟩:=h;exact b.ext e
theorem qoj : Km P base .skip st .nor st:=
  J8 qc fun ro w Z inj a Ds h _ hb _=>wpIn_skip ⟨rfl,Kr.refl h hb⟩
theorem qo8 {id : Nat} : Km P base (.exit id) st (.exit id) st:=
  J8 qc fun ro w Z inj a Ds h _ hb _=>wpIn_exit ⟨rfl,Kr.refl h hb⟩
theorem qof : Km P base .ret st .ret st:=
  J8 qc fun ro w Z inj a Ds h _ hb _=>wpIn_ret ⟨rfl,Kr.refl h hb⟩
theorem qoh {a b : Code} (n : Km P base a st .nor st1) (m : Km P base b st1 ex st2) : Km P base (.seq a b) st ex st2:=by
  refine J8 qc fun ro w Z inj act Ds h c hb j=>wpIn_seq (wpIn_mono (n ro w Z inj act Ds h ?_ hb j).1 ?_)
  · simp only [codeOk,Bool.and_eq_true] at c;exact c.1
  · rintro e a' w' ⟨rfl,hp⟩;refine hp.bind fun Z' inj' l k f d _ g=>?_;refine wpIn_mono (m ro w' Z' inj' a' l k ?_ d (hp.round j)).1 ?_
    · simp only [codeOk,Bool.and_eq_true] at c;rw [f];exact c.2
    · rintro e o p ⟨rfl,hp2⟩;exact ⟨rfl,g _ _ _ hp2⟩
theorem qoi {a b : Code} (f : Km P base a st ex st1) (g : ex≠.nor) : Km P base (.seq a b) st ex st1:=by
  refine J8 qc fun ro w Z inj act Ds h c hb d=>wpIn_seq (wpIn_mono (f ro w Z inj act Ds h ?_ hb d).1 ?_)
  · simp only [codeOk,Bool.and_eq_true] at c;exact c.1
  · rintro e a' w' ⟨rfl,hp⟩
    cases ex with
    | nor=>exact absurd rfl g
    | exit id=>exact ⟨rfl,hp⟩
    | ret=>exact ⟨rfl,hp⟩
theorem qo7 {c : Operand} {a b : Code} (j : st.ev c = some (.d (.bool true))) (k : Km P base a st ex st1) : Km P base (.cond c a b) st ex st1:=by
  refine J8 qc fun ro w Z inj act Ds h f hb g=>wpIn_cond_true ?_ (k ro w Z inj act Ds h ?_ hb g).1
  · have:=K9 h j;generalize act.eval c = x at this
    cases this with | d this=>cases this;rfl
  · simp only [codeOk,Bool.and_eq_true] at f;exact f.1
theorem qo6 {c : Operand} {a b : Code} (j : st.ev c = some (.d (.bool false))) (k : Km P base b st ex st1) : Km P base (.cond c a b) st ex st1:=by
  refine J8 qc fun ro w Z inj act Ds h f hb g=>wpIn_cond_false ?_ (k ro w Z inj act Ds h ?_ hb g).1
  · have:=K9 h j;generalize act.eval c = x at this
    cases this with | d this=>cases this;rfl
  · simp only [codeOk,Bool.and_eq_true] at f;exact f.2
theorem qo5 {id : Nat} {a : Code} (d : Km P base a st ex st1) : Km P base (.block id a) st (ex.block id) st1:=by
  refine J8 qc fun ro w Z inj act Ds h c hb b=>wpIn_block (wpIn_mono (d ro w Z inj act Ds h c hb b).1 ?_);rintro e a' w' ⟨rfl,hp⟩
  cases ex with
  | nor=>exact ⟨rfl,hp⟩
  | ret=>exact ⟨rfl,hp⟩
  | exit i=>
    by_cases hi : i = id
    · simp only [toE,Exit.inBlock,hi,if_true,Ex.block];exact ⟨rfl,hp⟩
    · simp only [toE,Exit.inBlock,hi,if_false,Ex.block];exact ⟨rfl,hp⟩
theorem qo9 {l : Nat} : Km P base (.label l) st .nor st:=
  J8 qc fun ro w Z inj a Ds h _ hb _=>wpIn_label ⟨rfl,Kr.refl h hb⟩
theorem qog {a : Code} (o : Km P base a st ex st1) : Km P base (.scope a) st ex st1:=by
  refine J8 qc fun ro w Z inj act Ds h p hb m=>?_;intro b k cs f d r;have j : ∀ {g : Act} {w0 : World},step P (lone (b.atR g (.code (.scope a)::k)) cs w0) = .next (lone (b.atR g (.code a::.inScope a::k)) cs w0):=step_lone_go (by simp [stepG,stepG.exec,Frame.atR]);have v : ∀ {g : Act} {w0 : World},step P (lone (b.atR g (.inScope a::k)) cs w0) = .next (lone (b.atR g k) cs w0):=step_lone_go (by simp [stepG,stepG.exec,Frame.atR]);have l : (lone (b.atR act (.code (.scope a)::k)) cs w).fenced P (Fw ro):=fenced_calm d r rfl;obtain ⟨e,u,t,s,c⟩:=(o ro w Z inj act Ds h p hb m).1 b (.inScope a::k) cs f d r;refine ⟨e,u,t,s,?_⟩;obtain ⟨rfl,_⟩:=s
  cases ex with
  | nor=>exact .head l j (StepsIn.trans c (.one (fenced_calm d r rfl) v))
  | exit id=>exact ⟨fun k' n=>.head l j (c.1 k' (by simp [exitTo,n])),fun q n=>let ⟨k₁,o,h2⟩:=c.2 q (by simp [exitTo,n]);⟨k₁,o,.head l j h2⟩⟩
  | ret=>exact .of_steps (.one l j) c
theorem qgf {a : Code} (h : ∀ (ro : Option Nat) (w : World) (Z : Nat→Prop) (inj : Inj) (act : Act) (Ds : List Nat),RelS w Z inj st act Ds→codeOk act.tmps.size (.loop a) = true→base≤st.nx→Yb ro w→
    wpL (Fw ro) P a (CP base w Z inj st act Ds ex st1) act w) : Km P base (.loop a) st ex st1:=
  fun ro w Z inj act Ds c b g f=>⟨q10v (h ro w Z inj act Ds c b g f),fun d hd=>by cases hd;exact h ro w Z inj act Ds c b g f⟩
theorem qoa {a : Code} (m : Km P base a st .nor st1) (l : Km P base (.loop a) st1 ex st2) : Km P base (.loop a) st ex st2:=by
  refine qgf fun ro w Z inj act Ds h g hb f=>qmz (wpIn_mono (m ro w Z inj act Ds h g hb f).1 ?_);rintro e a' w' ⟨rfl,hp⟩;refine hp.bind fun Z' inj' k j c b _ d=>?_;refine qmy ((l ro w' Z' inj' a' k j (by rw [c];exact g) b (hp.round f)).2 a rfl) ?_;rintro e n o ⟨rfl,hp2⟩;exact ⟨rfl,d _ _ _ hp2⟩
theorem qob {a : Code} (f : Km P base a st ex st1) (d : ex≠.nor) : Km P base (.loop a) st ex st1:=by
  refine qgf fun ro w Z inj act Ds h b hb c=>qmz (wpIn_mono (f ro w Z inj act Ds h b hb c).1 ?_);rintro e a' w' ⟨rfl,hp⟩
  cases ex with
  | nor=>exact absurd rfl d
  | exit id=>exact ⟨rfl,hp⟩
  | ret=>exact ⟨rfl,hp⟩
theorem qok {ρ : Nat→Nat} {fz ph : List Nat} {c : Code} (k : Wk base ρ fz ph st st1) (m : Km P base c st1 ex st2) : Km P base c st ex st2:=by
  intro ro w Z inj a Ds h j hb g;obtain ⟨f,n⟩:=q26 h k
  have b : ∀ e a' w',CP base w (wkZ Z inj st fz) (wkI inj ρ ph) st1 a Ds ex st2 e a' w'→CP base w Z inj st a Ds ex st2 e a' w':=by
    rintro e a' w' ⟨rfl,p,u,s,v,r,o,q,l⟩;exact ⟨rfl,p,u,s,v,n.trans r (Nat.le_refl _),o,q,l⟩
  obtain ⟨x,t⟩:=m ro w _ _ a Ds f j k.bs g;exact ⟨wpIn_mono x b,fun d hd=>qmy (t d hd) b⟩
theorem qon {ops : Array Oper} {ro : Option Nat} {w0 : World} {Z0 : Nat→Prop} {inj0 : Inj} {d : AS} {m : Act} {Ds0 : List Nat} {Q : Exit→Act→World→Prop} {l : List Oper} {st st' : AS} (x : Zk P base ops l st st')
    (hd : ∀ o∈ops,J9 m.tmps.size o.dst = true) (q : ∀ a' w',Kr base w0 Z0 inj0 d m Ds0 st' a' w'→Q .normal a' w') : ∀ (pre : List Oper) (a : Act) (w : World),ops.toList = pre ++ l→Kr base w0 Z0 inj0 d m Ds0 st a w→Yb ro w→
    wpOpsIn (Fw ro) 0 P ops Q (List.range' pre.length l.length) a w:=by
  have one : ∀ {o : Oper} {l : List Oper} {st st1 st2 : AS},Jq P base ops o st st1→(∀ (pre : List Oper) (a : Act) (w : World),ops.toList = pre ++ l→Kr base w0 Z0 inj0 d m Ds0 st1 a w→Yb ro w→wpOpsIn (Fw ro) 0 P ops Q (List.range' pre.length l.length) a w)→
      ∀ (pre : List Oper) (a : Act) (w : World),ops.toList = pre ++ o::l→Kr base w0 Z0 inj0 d m Ds0 st a w→Yb ro w→wpOpsIn (Fw ro) 0 P ops Q (List.range' pre.length (o::l).length) a w:=by
    intro o l st st1 st2 hs n pre a w p hp c
    have r : ops[pre.length]? = some o:=by rw [← Array.getElem?_toList,p];simp
    rw [List.length_cons,List.range'_succ,wpOpsIn_cons]
    refine qfa r ?_
    refine hp.bind fun Z' inj' g b h f _ j=>?_
    refine hs ro Q w Z' inj' a g _ b (by rw [h];exact hd o (Array.mem_of_getElem? r)) f c fun a' w' hp'=>?_
    have:=n (pre ++ [o]) a' w' (by rw [p];simp) (j _ _ _ hp') (hp'.round c)
    simpa using this
  induction x with
  | nil=>intro pre a w _ hp _;simpa [wpOpsIn] using q _ _ hp
  | cons hs _ n=>exact one (st2:=st) hs (n q)
  | wk hw _ n=>
    intro pre a w p hp c;refine n q pre a w p ?_ c;obtain ⟨Z',inj',g,s,v,t,y,u⟩:=hp;obtain ⟨b,k⟩:=q26 s hw;exact ⟨_,_,g,b,v.trans k (Nat.le_refl _),t,hw.bs,u⟩
theorem qod {id : Nat} {ops : Array Oper} (f : Zk P base ops ops.toList st st1) : Km P base (.region id ops false) st .nor st1:=by
  refine J8 qc fun ro w Z inj a Ds h b hb c=>wpIn_region ?_
  have hd : ∀ o∈ops,J9 a.tmps.size o.dst = true:=by
    intro o d;simp only [codeOk,List.all_eq_true] at b;exact b o (by simpa using d)
  have:=qon (Q:=CP base w Z inj st a Ds .nor st1) f hd (fun a' w' hp=>⟨rfl,hp⟩) [] a w rfl (Kr.refl h hb) c;rw [List.range_eq_range'];simpa using this
theorem qoe {id : Nat} {ops : Array Oper} {F : List Fp} (d : P.follows .mixedOrders = true) (f : Jp P base ops F ops.toList st st1) (hd : q7i F ops = true) : Km P base (.region id ops true) st .nor st1:=
  J8 qc fun ro w Z inj a Ds h c hb b=>qu7 d (qp9 hd) f h c hb b fun a' w' hp=>⟨rfl,hp⟩
theorem qqc {ops : Array Oper} {o : Oper} {c : Call} {g : Operand} {n : Nat} {vs : List V} {s s1 s2 : List (Nat × V)} {j : List Tmp} {assign body : Code}
    (hg : Qn ops st o = some true) (ho : o.op = .call c) (y : c.callee = .value g) (bn : st.ev g = some (.yld n)) (bk : evL st.ev c.args.toList = some vs)
    (z : st.blk n = some (.loop s j assign body .ready none)) (ak : j.length = vs.length)
    (h1 : Km P st.nx assign {sl:=q1t s j vs,hp:=st.hp,nx:=st.nx} .nor st1) (av : st1.blk n = some (.loop s1 j assign body .ready none))
    (h2 : Km P st.nx body (st1.setBlk n (.loop s1 j assign body .busy none)) ex st2) (az : st2.blk n = some (.loop s2 j assign body .busy none)) :
    Jq P base ops o st ({sl:=st.sl,hp:=repl st2.hp n (.loop s2 j assign body (if ex = .nor then .ready else .done) ex.code),nx:=st2.nx : AS}.putD o.dst (.d (.bool (decide (ex = .nor))))):=by
  intro ro Q w Z inj a Ds K h hd hb cx hK;unfold Ul;rw [q3l h hg];simp only [if_true];refine ⟨fun _ _=>trivial,?_⟩;have hr:=K9 h bn;obtain ⟨b,r,hi,hw,es,ep,aj,ax,bf,ac,bm,_⟩:=qes (ls':=.ready) (pe':=none) (pin:=0) h.heap z;generalize bg : a.eval g = gv at hr
  cases hr with | @yld _ b' o' hlt hi'=>
  rw [hi] at hi';cases hi';have hl:=q3h h bk;have e2 : (c.args.toList.map a.eval).toArray = c.args.map a.eval:=by apply Array.ext';simp
  rw [e2] at hl;have aw : (c.args.map a.eval).size = r.params.size:=by rw [← hl.1,aj];simp [ak]
  have ao : (execOp a.eval o).run P w = .ok (.round b r.fn ((r.params.zip (c.args.map a.eval)).foldl (fun tmps (t,a)=>tmps.setIfInBounds t a) r.tmps) r.assign r.body) w:=by
    have:=run_yield (P:=P) hw aw;obtain ⟨dst,op,type,pos,after,guard⟩:=o;simp only at ho;subst ho;obtain ⟨ct,args,argTypes⟩:=c;simp only at y;subst y;simp only [execOp,resolve,Sem.run_bind,bg,Deferred.ofValue,Sem.run_pure,Result.andThen_ok,invoke];simpa using this
  rw [show (Fw ro).round = ro from rfl,Oper.semAt_eq ro _ o (by rintro c' h';rw [ho] at h';cases h'),ao,Oper.uponIn_round];refine ⟨fun h=>by simp [Fw] at h,?_⟩;refine roundIn_of_wpIn trivial ?_
  have ae : (r.params.zip (c.args.map a.eval)).foldl (fun tmps (t,a)=>tmps.setIfInBounds t a) r.tmps = (j.zip (c.args.map a.eval).toList).foldl (fun tmps (x : Tmp × Value)=>tmps.setIfInBounds x.1 x.2) r.tmps:=by
    rw [aj,← Array.foldl_toList,Array.toList_zip]
  obtain ⟨v,f⟩:=qkp j vs (c.args.map a.eval).toList s r.tmps (by rw [Array.length_toList];exact hl.1) (fun i d c h1 h2=>hl.2 i d c h1 (by rw [← Array.getElem?_toList];exact h2)) ac.2.2 bm;rw [ae,ax,bf];generalize (j.zip (c.args.map a.eval).toList).foldl (fun tmps (x : Tmp × Value)=>tmps.setIfInBounds x.1 x.2) r.tmps = tm at v f;have af : RelS w Z inj {sl:=q1t s j vs,hp:=st.hp,nx:=st.nx} {tmps:=tm,defers:=[]} []:=⟨v,h.heap,rfl,qc,qc⟩
  have u : Yb (some b) w:=fun l hl=>by cases hl;exact ⟨r,hw⟩
  refine wpIn_mono (h1 (some b) w Z inj _ [] af (by show codeOk tm.size assign = true;rw [f];exact ac.1) (Nat.le_refl _) u).1 ?_;rintro e a1 w1 ⟨rfl,Z1,m,ah,g1,g2,g3,g4,g5⟩;have aa : n < st.nx:=(h.heap.blk n _ z).1;obtain ⟨b1,r1,i1,ay,bh,ap,ca,bt,bq,cg,cj,bj,k⟩:=qes (ls':=.busy) (pe':=none) (pin:=st.nx) g1.heap av;rw [g2.pinj n aa,hi] at i1;cases i1;refine ⟨_,run_beginRound ay bh,?_⟩;have e5 : ({r1 with state:=.busy} : Loop) = {r1 with state:=.busy,pending:=none}:=by cases r1;simp only at ap;subst ap;rfl
  rw [e5]
  have ad : RelS (w1.putObj b (.loop {r1 with state:=.busy,pending:=none})) Z1 m (st1.setBlk n (.loop s1 j assign body .busy none)) a1 ah:=
    ⟨g1.slots.mono (k.zkeep g1.heap) k.zin k.big (fun _ _=>rfl) (Nat.le_refl _),bj,g1.defs,g1.nodup,fun D hD=>k.marks g1.heap (g1.marks D hD)⟩
  have aq : Yb (some b) (w1.putObj b (.loop {r1 with state:=.busy,pending:=none})):=(u.ext g2).ext k;refine wpIn_mono (h2 (some b) _ Z1 m a1 ah ad (by rw [g3];show codeOk tm.size body = true;rw [f];exact ac.2.1) g4 aq).1 ?_;rintro e a3 w3 ⟨rfl,Z3,am,cp,k1,k2,k3,k4,k5⟩;obtain ⟨b3,r3,i3,bd,cm,cs,bv,cc,ch,cd,ci,bl,ba⟩:=qes (ls':=if ex = .nor then .ready else .done) (pe':=ex.code) (pin:=st.nx) k1.heap az;have au : m n = some (b,0):=(g2.pinj n aa).trans hi;rw [k2.pinj n aa,au] at i3;cases i3
  have q : K (a.put o.dst (.bool (decide (ex = .nor)))) (w3.putObj b (.loop {r3 with state:=if ex = .nor then .ready else .done,pending:=ex.code})):=by
    have al : Ext w Z inj st.hp (w3.putObj b (.loop {r3 with state:=if ex = .nor then .ready else .done,pending:=ex.code})) Z3 am (repl st2.hp n (.loop s2 j assign body (if ex = .nor then .ready else .done) ex.code)) st.nx:=
      ((g2.trans k (Nat.le_refl _)).trans k2 (Nat.le_refl _)).trans ba (Nat.le_refl _)
    exact hK _ _ (q3o h hb al bl k4 (.d (.bool _)) hd)
  have p:=run_endRound (P:=P) ex.code bd
  cases ex with
  | nor=>exact ⟨_,_,p,q⟩
  | ret=>exact ⟨_,_,p,q⟩
  | exit id=>exact ⟨_,_,p,q⟩
end
end Go.Am
namespace Go.Am
open Go
variable {P : Program} {T : Tab}
section
variable {base : Nat} {st st1 st2 : AS} {ex : Ex}
theorem qnr {ro : Option Nat} {f : FuncId} {xs : Array Value} {w : World} {R : Ending→World→Prop} (h : CallsIn (Fw none) 0 P f xs w R) : CallsIn (Fw ro) 0 P f xs w R:=by
  cases ro <;> exact h
theorem qrs {w : World} {Ds : List Nat} (h : Ds.Nodup) (a : ∀ D∈Ds,w.heap[D]? = some (.deferred (some []))) : (w.heap.size::Ds).Nodup:=
  List.nodup_cons.2 ⟨fun b=>by have:=J5 (a _ b);omega,h⟩
theorem qoc {g : Operand} {k : Array Tmp} {assign body : Code} {f : FuncId} {u : List V} {v : V} {hp : List (Nat × Blk)} {nx : Nat} {pe : Option Code} {s : List (Nat × V)} {ls : LoopState}
    (hg : st.ev g = some (.fn f u)∨∃ ds,st.ev g = some (.d (.fn f ds))∧u = ds.map .d)
    (y : Jo P f (.yld st.nx::u) ((st.nx,.loop st.sl k.toList assign body .ready none)::st.hp) (st.nx + 1) v hp nx)
    (ak : find hp st.nx = some (.loop s k.toList assign body ls pe)) (bo : ls≠.busy) (bb : pe = ex.code) : Km P base (.rangeFunc g k assign body) st ex {sl:=st.sl,hp:=repl hp st.nx .dead,nx:=nx}:=by
  refine J8 qc fun ro w Z inj a Ds h z hb bl=>wpIn_rangeFunc fun fn _=>?_;simp only [codeOk,Bool.and_eq_true,List.all_eq_true,Nat.blt_eq] at z
  have ar : ∃ cs : Array Value,a.eval g = .func (.func f) #[] cs∧LRel w Z inj st.nx u cs:=by
    rcases hg with hg | ⟨ds,hg,rfl⟩
    · have hr:=K9 h hg;generalize a.eval g = gv at hr ⊢
      cases hr with | @fn _ _ cs h1 h2=>
      exact ⟨cs,rfl,h1,h2⟩
    · have hr:=K9 h hg;generalize a.eval g = gv at hr ⊢
      cases hr with | d hr=>
      cases hr with | @fn _ _ cs h1 h2=>
      refine ⟨cs,rfl,by simpa using h1,fun i d c hd hc=>?_⟩;simp only [List.getElem?_map,Kv] at hd;obtain ⟨d',hd,rfl⟩:=hd;exact .d (h2 i d' c hd hc)
  obtain ⟨cs,bk,aw⟩:=ar
  have rest : ∀ (n : World) (l : Nat) (mark : List Deferred) (r : Loop) (Dn : List Nat),(Instr.enterLoop fn a.tmps k assign body (Fw ro).round).run P w = .ok (l,mark) n→
      n.heap[l]? = some (.loop r)→r.state = .ready→r.pending = none→
      RelH n Z (upd inj st.nx (some (l,0))) ((st.nx,.loop st.sl k.toList assign body .ready none)::st.hp) (st.nx + 1)→
      Ext w Z inj st.hp n Z (upd inj st.nx (some (l,0))) ((st.nx,.loop st.sl k.toList assign body .ready none)::st.hp) st.nx→
      mark = Dn.map (fun D=>{target:=.collected D,args:=#[]})→(Dn ++ Ds).Nodup→(∀ D∈Dn,n.heap[D]? = some (.deferred (some []))∧w.heap.size≤D)→
      ∃ (l : Nat) (mark : List Deferred) (w₁ : World) (d : Deferred) (ag : World) (f : FuncId) (args : Array Value) (w₂ : World),
      (Instr.enterLoop fn a.tmps k assign body (Fw ro).round).run P w = .ok (l,mark) w₁∧
      (resolve a.eval (rangeCall g l) 0).run P w₁ = .ok d ag∧
      (∀ f',Target.leads P ag d.target d.args = some f'→(Fw ro).fn f')∧
      (invoke d.target d.args).run P ag = .ok (.enter f args) w₂∧
      ((Fw ro).depth.isSome = true→1≤0)∧
      CallsIn (Fw ro) (0 - 1) P f args w₂ (rangePost (Fw ro) 0 P l (CP base w Z inj st a Ds ex {sl:=st.sl,hp:=repl hp st.nx .dead,nx:=nx}) {a with defers:=mark ++ a.defers}):=by
    intro n l mark r Dn aa cn co ch an ab ah bj ay
    refine ⟨l,mark,n,{target:=.fn (.func f) cs,args:=#[.func (.yield l) #[] #[]]},n,f,#[.func (.yield l) #[] #[]] ++ cs,n,aa,?_,fun _ _=>trivial,?_,fun h=>by simp [Fw] at h,?_⟩
    · simp only [resolve,bk];simp [Deferred.ofValue,Act.eval]
    · simp [invoke,y.1]
    · refine qnr (CallsIn.mono (y.2 n Z _ _ an ?_) ?_)
      · refine ⟨by simp [aw.1];omega,fun i d c hd hc=>?_⟩
        cases i with
        | zero=>
          rw [Array.getElem?_append_left qc] at hc;simp at hd hc;subst hd hc;exact .yld q0 (Ku _ _ _)
        | succ i=>
          rw [Array.getElem?_append_right qc] at hc;simp at hd hc;exact (aw.2 i d c hd hc).mono (fun b hz=>ab.keep b (h.heap.zs b hz) (h.heap.z_im hz)) (fun _ h=>h) ab.big (fun m hm=>ab.pinj m hm) q0
      · rintro e w3 ⟨x,Z',inj',rfl,bm,af,ck,cm⟩
        obtain ⟨b3,r3,i3,av,bg,au,ae⟩:=qub (pin:=st.nx) bm ak
        obtain ⟨bn,bp⟩:=ae {r3 with state:=.exhausted} rfl
        have bh : b3 = l:=by
          have:=af.pinj st.nx q0;rw [Ku,i3] at this;cases this;rfl
        subst bh
        refine ⟨r3.pending,_,run_endLoop av (by rw [bg];exact bo),?_⟩
        have hE : Ext w Z inj st.hp (w3.putObj b3 (.loop {r3 with state:=.exhausted})) Z' inj' (repl hp st.nx .dead) st.nx:=(ab.trans af q0).trans bp (Nat.le_refl _)
        have q : Kr base w Z inj st a Ds {sl:=st.sl,hp:=repl hp st.nx .dead,nx:=nx} {a with defers:=mark ++ a.defers} (w3.putObj b3 (.loop {r3 with state:=.exhausted})):=by
          refine ⟨Z',inj',Dn ++ Ds,⟨?_,bn,?_,bj,?_⟩,hE.pin_le hb,rfl,by show base≤nx;omega,?_⟩
          · exact h.slots.mono (hE.zkeep h.heap) hE.zin hE.big hE.pinj (by show st.nx≤nx;omega)
          · simp [ah,h.defs]
          · intro D t;rcases List.mem_append.1 t with t | t
            · obtain ⟨h5,h6⟩:=ay D t;have h7:=af.marks an h5;rw [World.putObj_heap_other (fun e=>by rw [e] at h7;rw [av] at h7;cases h7)];exact h7
            · exact hE.marks h.heap (h.marks D t)
          · intro D t;rcases List.mem_append.1 t with t | t
            · exact .inr (ay D t).2
            · exact .inl t
        rw [au,bb] at q
        rw [au,bb]
        cases ex with
        | nor=>exact ⟨rfl,q⟩
        | exit id=>exact wpIn_exit ⟨rfl,q⟩
        | ret=>exact wpIn_ret ⟨rfl,q⟩
  have ac : ∀ (n : World) (l : Nat) (r : Loop),r.state = .ready→r.pending = none→r.tmps = a.tmps→r.params = k→r.assign = assign→r.body = body→Yo n Z (upd inj st.nx (some (l,0))) (st.nx + 1) st.sl a.tmps→
      n.heap[l]? = some (.loop r)→RelB n Z (upd inj st.nx (some (l,0))) (st.nx + 1) st.nx (.loop st.sl k.toList assign body .ready none):=by
    rintro n l r e1 e2 e3 e4 e5 e6 hs hl
    obtain ⟨f1,f2,f3,f4,f5,f6,f7,f8⟩:=r
    simp only at e1 e2 e3 e4 e5 e6
    subst e1 e2 e3 e4 e5 e6
    exact ⟨l,_,_,_,Ku _ _ _,hl,⟨z.1.2,z.2,fun p hp=>z.1.1 p hp⟩,hs⟩
  cases ro with
  | none=>
    have az : RelH (w.alloc (.deferred (some []))) Z inj st.hp st.nx:=h.heap.grow fun b hb=>Zx w _ hb
    have ai : ∀ o,Yo ((w.alloc (.deferred (some []))).alloc o) Z (upd inj st.nx (some (w.heap.size + 1,0))) (st.nx + 1) st.sl a.tmps:=fun o=>
      h.slots.mono (fun b hz=>by have:=h.heap.zs b hz;rw [Zx _ _ (by simp;omega),Zx _ _ this]) (fun _ h=>h)
        (fun b c e f hb=>by obtain ⟨c1,e1,f1,h1,s1⟩:=q2s w (.deferred (some [])) b c e f hb;obtain ⟨c2,e2,f2,h2,s2⟩:=q2s _ o b c1 e1 f1 h1;exact ⟨c2,e2,f2,h2,s2.trans s1⟩) (fun _ hm=>Y9 _ _ hm) q0
    have j:=Ju (w.alloc (.deferred (some []))) (.loop {state:=.ready,pending:=none,fn,tmps:=a.tmps,params:=k,assign,body,defers:=w.heap.size});rw [World.size_alloc] at j;have hB:=ac _ (w.heap.size + 1) {state:=.ready,pending:=none,fn,tmps:=a.tmps,params:=k,assign,body,defers:=w.heap.size} rfl rfl rfl rfl rfl rfl (ai _) j;have hn:=az.new (.loop {state:=.ready,pending:=none,fn,tmps:=a.tmps,params:=k,assign,body,defers:=w.heap.size}) (.loop st.sl k.toList assign body .ready none) 0 (by rw [World.size_alloc];exact hB);have he:=Ext.new az (.loop {state:=.ready,pending:=none,fn,tmps:=a.tmps,params:=k,assign,body,defers:=w.heap.size}) (.loop st.sl k.toList assign body .ready none) 0;rw [World.size_alloc] at hn he;refine rest _ (w.heap.size + 1) _ _ [w.heap.size] (run_enterLoop_outer fn a.tmps k assign body) j rfl rfl hn ((Ext.alloc _).trans he (Nat.le_refl _)) rfl (qrs h.nodup h.marks) ?_;intro D t;simp at t;subst t;exact ⟨by rw [Zx _ _ qc];exact Ju _ _,Nat.le_refl _⟩
  | some l0=>
    obtain ⟨r0,bq⟩:=bl l0 rfl
    have ai : ∀ o,Yo (w.alloc o) Z (upd inj st.nx (some (w.heap.size,0))) (st.nx + 1) st.sl a.tmps:=fun o=>
      h.slots.mono (fun b hz=>Zx _ _ (h.heap.zs b hz)) (fun _ h=>h) (q2s w o) (fun _ hm=>Y9 _ _ hm) q0
    have j:=Ju w (.loop {state:=.ready,pending:=none,fn,tmps:=a.tmps,params:=k,assign,body,defers:=r0.defers});have hB:=ac _ w.heap.size {state:=.ready,pending:=none,fn,tmps:=a.tmps,params:=k,assign,body,defers:=r0.defers} rfl rfl rfl rfl rfl rfl (ai _) j;exact rest _ w.heap.size _ _ [] (run_enterLoop_inner bq fn a.tmps k assign body) j rfl rfl (h.heap.new _ _ 0 hB) (Ext.new h.heap _ _ 0) rfl (by simpa using h.nodup) qc
theorem qnt {f : FuncId} {fn : Func} {c : Code} {j : List V} {hp : List (Nat × Blk)} {nx : Nat} {v : V} (hT : Yw P T) (r : P.funcs[f]? = some fn) (hb : fn.body = some c) (a : (fn.name == "runtime.NumGoroutine") = false) (o : codeOk fn.ntmps c = true) (ab : j.length ≤ fn.ntmps)
    (hc : Km P nx c {sl:=Ky 0 j,hp:=hp,nx:=nx} ex st) (y : ex = .nor∨ex = .ret) (d : resV T st fn.results.toList = some v) : Jo P f j hp nx v st.hp st.nx:=by
  refine ⟨fun args w=>?_,fun w Z inj xs h g=>?_⟩
  · unfold callFunc
    have k : ¬ fn.name = "runtime.NumGoroutine" := by simpa using a
    simp [r,k,hb]
  · refine callsIn_of_wp_marks r hb trivial ?_
    have n : (xs ++ Array.replicate (fn.ntmps - xs.size) undef).size = fn.ntmps:=by
      have:=g.1;simp;omega
    have h0 : RelS w Z inj {sl:=Ky 0 j,hp:=hp,nx:=nx} {tmps:=xs ++ Array.replicate (fn.ntmps - xs.size) undef,defers:=[]} []:=⟨que _ g,h,rfl,qc,qc⟩
    refine wpIn_mono (hc none w Z inj _ [] h0 (by show codeOk (xs ++ Array.replicate (fn.ntmps - xs.size) undef).size c = true;rw [n];exact o) (Nat.le_refl _) (fun l g=>by cases g)).1 ?_;rintro e a' w' ⟨rfl,Z',inj',m,b,g2,g3,z,s⟩
    have q:=qit (P:=P) (fn:=fn) (pin:=nx) (w0:=w) (Z0:=Z) (inj0:=inj) (hp0:=hp) hT d
      (R:=fun e w'=>∃ x Z' inj',e = .returned x∧RelH w' Z' inj' st.hp st.nx∧Ext w Z inj hp w' Z' inj' st.hp nx∧RelV w' Z' inj' st.nx v x∧nx≤st.nx)
      (fun x w' Z' inj' k1 u t=>⟨x,Z',inj',rfl,k1,u,t,z⟩) m w' Z' inj' a' b.slots b.heap g2 b.nodup (fun D p=>⟨b.marks D p,(s D p).resolve_left qc⟩)
    rcases y with rfl | rfl
    · show LeavesInM (Fw none) 0 P fn a'.tmps _ a'.defers .returning w';rw [b.defs];exact q
    · show LeavesInM (Fw none) 0 P fn a'.tmps _ a'.defers .returning w';rw [b.defs];exact q
end
theorem qns {f : FuncId} {m : List V} {hp hp' hp1 : List (Nat × Blk)} {nx nx' nx1 : Nat} {v j : V} {ρ : Nat→Nat} {fz ph : List Nat} (h : Jo P f m hp nx v hp' nx') (k : Wk nx ρ fz ph {sl:=[(0,v)],hp:=hp',nx:=nx'} {sl:=[(0,j)],hp:=hp1,nx:=nx1}) : Jo P f m hp nx j hp1 nx1:=by
  refine ⟨h.1,fun w Z inj xs q p=>(h.2 w Z inj xs q p).mono ?_⟩;rintro e w' ⟨x,Z',inj',rfl,d,n,o,s⟩
  have b : RelS w' Z' inj' {sl:=[(0,v)],hp:=hp',nx:=nx'} {tmps:=#[x],defers:=[]} []:=by
    refine ⟨fun t u c=>?_,d,rfl,List.nodup_nil,qc⟩;rw [Ks] at c;split at c
    · rename_i e;subst e;cases c;exact ⟨x,rfl,o⟩
    · simp [find] at c
  obtain ⟨a,g⟩:=q26 b k;obtain ⟨y,l,r⟩:=a.slots 0 j (by simp [find]);simp at l;subst l;exact ⟨x,_,_,rfl,a.heap,n.trans g (Nat.le_refl _),r,k.bs⟩
theorem qnu (hT : Yw P T) (hm : P.follows .mixedOrders = true) {f : FuncId} {u : List V} {hp : List (Nat × Blk)} {nx : Nat} {v : V} {hp' : List (Nat × Blk)} {nx' : Nat} (h : K8 P T f u hp nx v hp' nx') : Jo P f u hp nx v hp' nx':=by
  refine K8.rec (motive_1:=fun base c st ex st' _=>Km P base c st ex st') (motive_2:=fun base ops dr l st st' _=>q14 P base ops dr l st st') (motive_3:=fun f u hp nx v hp' nx' _=>Jo P f u hp nx v hp' nx')
    ?_ ?_ ?_ ?_ ?_ ?_ ?_ ?_ ?_ ?_ ?_ ?_ ?_ ?_ ?_ ?_ ?_ ?_ ?_ ?_ ?_ ?_ ?_ ?_ ?_ ?_ ?_ ?_ h
  · exact qoj
  · exact fun _ _ a d=>qoh a d
  · exact fun _ p a=>qoi a p
  · exact fun k _ a=>qo7 k a
  · exact fun k _ a=>qo6 k a
  · exact fun _ a=>qo5 a
  · exact qo8
  · exact qof
  · exact fun _ _ a d=>qoa a d
  · exact fun _ p a=>qob a p
  · exact fun _ a=>qod a
  · exact fun _ hd a=>qoe hm a hd
  · exact fun t _ a=>qok t a
  · exact fun b _ o ad ac a=>qoc b a o ad ac
  · exact qo9
  · exact fun _ a=>qog a
  · exact fun {_ _ dr _}=>by cases dr <;> exact .nil
  · exact fun b _ a=>qo3 b a
  · exact fun b j o _ a=>qo1 hT b j o a
  · exact fun b j _ hn hh o hF _ a=>qo2 hT b j hn hh o hF a
  · exact fun b j k y _ ai w hs hF _ a d=>qo0 b j k y a ai w hs hF d
  · exact fun b j k _ _ a d=>Zk.cons (qzu b j k a) d
  · exact fun b j k g ag _ ab hb _ a d=>Zk.cons (qq9 b j k g ag a ab hb) d
  · exact fun b j q ah m s g _ x _ z _ a d h3=>Zk.cons (qqc b j q ah m s g a x d z) h3
  · exact fun t _ a=>Zk.wk t a
  · exact fun hp _ _ a d=>Jp.piv hp a d
  · exact fun o hb n af m _ p r a=>qnt hT o hb n af m a p r
  · exact fun _ t a=>qns a t
end Go.Am
namespace Go.Am
open Go
open Go.ChangeShapes Go.WideShapes Go.ChangeAt Go.RowKit Go.Deep
inductive CT where
  | int (k : IntKind)
  | bool
  | str
  | sl (l : List CT)
def q9s (P : Program) (f : TypeId→Option (List CT)) : Nat→List Field→Option (List CT)
  | _,[]=>some []
  | o,x::r=>match f x.type with
    | some a=>if x.offset = o∧P.cellsOf x.type = a.length then
        match q9s P f (o + a.length) r with
        | some b=>some (a ++ b)
        | none=>none
      else none
    | none=>none
def tyL (P : Program) : Nat→TypeId→Option (List CT)
  | 0,_=>none
  | f + 1,t=>match P.underlying t with
    | some .bool=>some [.bool]
    | some (.int k)=>some [.int k]
    | some .string=>some [.str]
    | some (.slice e)=>match tyL P f e with
      | some l=>if l.length = P.cellsOf e∧l.length≠0 then some [.sl l] else none
      | none=>none
    | some (.struct fs)=>match q9s P (tyL P f) 0 fs.toList with
      | some l=>if l.length = P.cellsOf t then some l else none
      | none=>none
    | _=>none
inductive Ty : CT→DV→Prop
  | int {k : IntKind} {n : Int} : (Lit.int k n).wf = true→Ty (.int k) (.int k n)
  | bool (b : Bool) : Ty .bool (.bool b)
  | str {s : ByteArray} : s.size≤maxLen→Ty .str (.str s)
  | nil (l : List CT) : Ty (.sl l) .nilsl
  | sl {l : List CT} {xs : List (List DV)} : xs.length≤maxLen→(∀ (i : Nat) (x : List DV),xs[i]? = some x→x.length = l.length)→
      (∀ (i : Nat) (x : List DV) (j : Nat) (c : CT) (d : DV),xs[i]? = some x→l[j]? = some c→x[j]? = some d→Ty c d)→Ty (.sl l) (.sl l.length xs)
section
variable {H : Type} {enc : TypeId × Value→H} {P : Program} {w : World} {base : Nat} {held : Bool}
def ZC (w : World) (b : Nat) : Prop:=∃ c e f,w.heap[b]? = some (.cells c e f)
theorem Ty.cell {c : CT} {d : DV} (h : Ty c d) : Ya d = true:=by cases h <;> rfl
def Reads (w : World) (l : List CT) (cs : List Value) : Prop:=
  cs.length = l.length∧∃ ds : List DV,ds.length = l.length∧∀ (j : Nat) (c : CT) (v : Value),l[j]? = some c→cs[j]? = some v→∃ d,ds[j]? = some d∧Ty c d∧RelD w (ZC w) d v
theorem q5f {c : CT} {v : Value} {d : DV} (f : Ty c d) (g : RelD w (ZC w) d v) : Reads w [c] [v]:=by
  refine ⟨rfl,[d],rfl,fun j k h a b=>?_⟩
  cases j with
  | zero=>simp at a b;subst a b;exact ⟨d,rfl,f,g⟩
  | succ j=>simp at a
theorem qtv {l l' : List CT} {cs a : List Value} (h : Reads w l cs) (t : Reads w l' a) : Reads w (l ++ l') (cs ++ a):=by
  obtain ⟨o,ds,n,r⟩:=h;obtain ⟨b1,k,p,q⟩:=t;refine ⟨by simp [o,b1],ds ++ k,by simp [n,p],fun j c v f b=>?_⟩;by_cases s : j < l.length
  · rw [List.getElem?_append_left s] at f;rw [List.getElem?_append_left q0] at b;obtain ⟨d,m,g⟩:=r j c v f b;exact ⟨d,by rw [List.getElem?_append_left q0];exact m,g⟩
  · rw [List.getElem?_append_right q0] at f;rw [List.getElem?_append_right q0,o] at b;obtain ⟨d,m,g⟩:=q _ c v f b;exact ⟨d,by rw [List.getElem?_append_right q0,n];exact m,g⟩
theorem qmm {f : TypeId→Option (List CT)} {g : Field→List Value→Prop} (d : ∀ (x : Field) (l : List CT) (cs : List Value),f x.type = some l→g x cs→Reads w l cs) :
    ∀ (c : List Field) (o : Nat) (l : List CT) (cs : List Value),q9s P f o c = some l→o + l.length = cs.length→(∀ x∈c,g x ((cs.drop x.offset).take (P.cellsOf x.type)))→Reads w l (cs.drop o)
  | [],o,l,cs,h,hl,_=>by
    simp [q9s] at h;subst h
    simp at hl
    rw [hl]
    exact ⟨qc,[],rfl,qc⟩
  | x::r,o,l,cs,h,hl,hx=>by
    simp only [q9s] at h
    split at h <;> try simp at h
    rename_i a q
    obtain ⟨⟨n,m⟩,h⟩:=h
    split at h <;> simp at h
    rename_i b hb
    subst h
    have j:=d x a _ q (hx x qc)
    rw [n,m] at j
    have p:=qmm d r (o + a.length) b cs hb (by simp at hl;omega) (fun y k=>hx y (by simp [k]))
    have:=qtv j p
    rw [← List.drop_drop] at this
    rwa [List.take_append_drop] at this
theorem qbw : ∀ (f : Nat) (t : TypeId) (l : List CT) (fuel : Nat) (cs : List Value) (x : DataW H × List MemPlace),tyL P f t = some l→DataW.trod enc P w base (fun _=>true) held fuel t cs = some x→Reads w l cs
  | 0,t,l,fuel,cs,x,hl,h=>by simp [tyL] at hl
  | f + 1,t,l,fuel,cs,x,hl,h=>by
    simp only [tyL] at hl
    split at hl <;> try simp at hl
    · rename_i ht
      subst hl
      cases fuel with
      | zero=>simp [DataW.trod] at h
      | succ n=>
        unfold DataW.trod at h
        rw [ht] at h
        split at h <;> simp_all
        exact q5f (.bool _) (.bool _)
    · rename_i k ht
      subst hl
      obtain ⟨n,rfl,_,hw⟩:=DataW.trod_int ht h
      exact q5f (.int hw) (.int _ _)
    · rename_i ht
      subst hl
      cases fuel with
      | zero=>simp [DataW.trod] at h
      | succ n=>
        unfold DataW.trod at h
        rw [ht] at h
        split at h <;> simp_all
        exact q5f (.str q0) (.str _)
    · rename_i e ht
      split at hl <;> simp at hl
      rename_i le au
      obtain ⟨⟨u,ao⟩,rfl⟩:=hl
      rcases open_slice ht h with ⟨rfl,_⟩ | ⟨a,len,cap,m,n,D,Pl,rfl,_,av,bd,hm,_,ar⟩
      · exact q5f (.nil _) .nilsl
      · obtain rfl : cap = m:=by simpa using hm.symm
        have elem : ∀ i,i < cap→∃ p,w.cells? base (a.add (i * P.cellsOf e)) (P.cellsOf e) = some p∧Reads w le p:=by
          intro i hi;obtain ⟨p,h1,h2⟩:=ar i hi;exact ⟨p,h1,qbw f e le n p _ au h2⟩
        have az : 0 < P.cellsOf e:=by rw [← u];exact List.length_pos_iff.2 ao
        by_cases ap : cap = 0
        · subst ap
          have : len = 0:=by omega
          subst this
          exact q5f (.sl (xs:=[]) qc qc qc) (.slemp _ _)
        · have ad : a.spot = none∧ZC w a.block:=by
            obtain ⟨p,h1,_⟩:=elem 0 q0;obtain ⟨_,h2,h3⟩:=World.cells?_some h1;have:=h3 0 q0;obtain ⟨v,hv⟩:=Zm (xs:=p) (i:=0) q0;rw [hv] at this;simp [World.cell?,Addr.add] at this;split at this <;> try simp at this
            rename_i c e' f' hc;exact ⟨this.1,c,e',f',hc⟩
          obtain ⟨b,o,sp⟩:=a
          obtain ⟨al,hz⟩:=ad
          simp only at al hz;subst al
          have ag : ∀ i,i < len→∃ ds : List DV,ds.length = le.length∧∀ (j : Nat) (c : CT),le[j]? = some c→∃ d v,ds[j]? = some d∧Ty c d∧w.cell? ⟨b,o + (i * le.length + j),none⟩ = some v∧RelD w (ZC w) d v:=by
            intro i hi;obtain ⟨p,h1,h4,ds,h5,h6⟩:=elem i q0;obtain ⟨_,h2,h3⟩:=World.cells?_some h1;refine ⟨ds,h5,fun j c hj=>?_⟩;have bm:=Kc hj;obtain ⟨v,hv⟩:=Zm (xs:=p) (i:=j) q0;obtain ⟨d,z,g2,g3⟩:=h6 j c v hj hv;have:=h3 j q0;rw [hv,Jt,Jt,← u,Nat.add_assoc] at this;exact ⟨d,v,z,g2,this,g3⟩
          obtain ⟨F,hF⟩:=choose_lt ag
          have q : ∀ (i : Nat) (x : List DV),((List.range len).map F)[i]? = some x→i < len∧x = F i:=by
            intro i x s;simp only [List.getElem?_map,Kv] at s;obtain ⟨k,hk,rfl⟩:=s;have hi : i < len:=by simpa using Kc hk
            rw [List.getElem?_range hi] at hk;cases hk;exact ⟨hi,rfl⟩
          have r : ((List.range len).map F).length = len:=by simp
          have ab : RelD w (ZC w) (.sl le.length ((List.range len).map F)) (.slice (some ⟨b,o,none⟩) ((List.range len).map F).length cap):=by
            refine .sl (by rw [r];exact av) (fun _=>hz) ?_ ?_ ?_
            · intro i x s;obtain ⟨hi,rfl⟩:=q i x s;exact (hF i hi).1
            · intro i x j d s hd;obtain ⟨hi,rfl⟩:=q i x s;obtain ⟨c,hc⟩:=Zm (xs:=le) (i:=j) (by rw [← (hF i hi).1];exact Kc hd);obtain ⟨d',v,z,g2,g3,g4⟩:=(hF i hi).2 j c hc;rw [hd] at z;cases z;exact ⟨g2.cell,v,g3⟩
            · intro i x j d v s hd hv;obtain ⟨hi,rfl⟩:=q i x s;obtain ⟨c,hc⟩:=Zm (xs:=le) (i:=j) (by rw [← (hF i hi).1];exact Kc hd);obtain ⟨d',v',z,g2,g3,g4⟩:=(hF i hi).2 j c hc;rw [hd] at z;cases z;rw [hv] at g3;cases g3;exact g4
          rw [r] at ab
          refine q5f (.sl (by rw [r];omega) ?_ ?_) ab
          · intro i x s
            obtain ⟨hi,rfl⟩:=q i x s
            exact (hF i hi).1
          · intro i x j c d s hc hd
            obtain ⟨hi,rfl⟩:=q i x s
            obtain ⟨d',v,z,g2,_⟩:=(hF i hi).2 j c hc
            rw [hd] at z;cases z
            exact g2
    · rename_i fs ht
      split at hl <;> simp at hl
      rename_i l' an
      obtain ⟨u,rfl⟩:=hl
      obtain ⟨xs,n,_,_,bf,bl,hf⟩:=DataW.trod_struct ht h
      have:=qmm (P:=P) (w:=w) (f:=tyL P f) (g:=fun x cs=>∃ y,DataW.trod enc P w base (fun _=>true) held n x.type cs = some y) (fun x l cs h1 ⟨y,h2⟩=>qbw f x.type l n cs y h1 h2) fs.toList 0 l' cs an q0 ?_
      · simpa using this
      · intro x s
        obtain ⟨i,hi⟩:=List.getElem?_of_mem s
        have:=hf i x (by simpa using hi)
        obtain ⟨y,hy⟩:=Zm (xs:=xs) (i:=i) (by have:=Kc hi;simp at this;omega)
        exact ⟨y,by rw [this];exact hy⟩
end
end Go.Am
namespace Go.Am
open Go
open Go.ChangeShapes Go.WideShapes Go.ChangeAt Go.RowKit Go.Deep
theorem q109 {P : Program} {l : List (Nat × TI)} (h : l.map (fun x=>tiOf P x.1) = l.map (fun x=>some x.2)) : Yw P (qmj l):=by
  intro t i b;have a:=Zz (show find l t = some i from b);obtain ⟨k,c⟩:=List.getElem?_of_mem a;have:=congrArg (fun r=>r[k]?) h;simp only [List.getElem?_map,c,Option.map_some] at this;exact qc2 this
def aggT (P : Program) (t : TypeId) : Bool:=match P.underlying t with
  | some (.struct _) | some (.array _ _)=>true
  | _=>false
inductive q2b : List (Bool × List CT)→List DV→Prop
  | nil : q2b [] []
  | one {c : CT} {d : DV} {ps : List (Bool × List CT)} {ds : List DV} : Ty c d→q2b ps ds→q2b ((false,[c])::ps) (d::ds)
  | agg {l : List CT} {xs : List DV} {ps : List (Bool × List CT)} {ds : List DV} : xs.length = l.length→(∀ (j : Nat) (c : CT) (d : DV),l[j]? = some c→xs[j]? = some d→Ty c d)→q2b ps ds→q2b ((true,l)::ps) (.agg xs::ds)
section
variable {H : Type} {enc : TypeId × Value→H} {P : Program} {T : Tab} {W : World} {base : Nat}
theorem qng {t : TypeId} {f : Nat} {l : List CT} {v : Value} {d : DataW H} {p : List MemPlace} (q : aggT P t = false) (o : tyL P f t = some l) (a : Value.okWide P W .any base t v) (h : DataW.Trod enc P W 0 (fun _=>true) true t v d p) :
    ∃ c x,l = [c]∧Ty c x∧RelD W (ZC W) x v:=by
  obtain ⟨fuel,hf⟩:=h;have m:=qbw f t l fuel _ _ o hf
  have key : v.cells = #[v]→∃ c,l = [c]→∃ x,Ty c x∧RelD W (ZC W) x v:=by
    intro u;rw [u] at m;obtain ⟨h1,ds,z,y⟩:=m
    match l,h1 with
    | [c],_=>
      obtain ⟨x,_,w,r⟩:=y 0 c v rfl rfl;exact ⟨c,fun _=>⟨x,w,r⟩⟩
  have fin : v.cells = #[v]→∃ c x,l = [c]∧Ty c x∧RelD W (ZC W) x v:=by
    intro u;have j:=m.1;rw [u] at j m
    match l,j,m with
    | [c],_,m=>
      obtain ⟨_,ds,z,y⟩:=m;obtain ⟨x,_,w,r⟩:=y 0 c v rfl rfl;exact ⟨c,x,rfl,w,r⟩
  cases f with
  | zero=>simp [tyL] at o
  | succ f=>
    simp only [tyL] at o;split at o <;> try simp at o
    · rename_i g;obtain ⟨b,rfl⟩:=okWide_bool g a;exact fin rfl
    · rename_i k g;obtain ⟨n,rfl⟩:=okWide_int g a;exact fin rfl
    · rename_i g;obtain ⟨s,rfl⟩:=okWide_string g a;exact fin rfl
    · rename_i e g;obtain ⟨a0,len,cap,rfl⟩:=okWide_slice g a;exact fin rfl
    · rename_i fs g;simp [aggT,g] at q
theorem qnf {t : TypeId} {f : Nat} {l : List CT} {v : Value} {d : DataW H} {p : List MemPlace} (b : aggT P t = true) (y : tyL P f t = some l) (a : Value.okWide P W .any base t v) (h : DataW.Trod enc P W 0 (fun _=>true) true t v d p) :
    ∃ xs : List DV,xs.length = l.length∧(∀ (j : Nat) (c : CT) (d : DV),l[j]? = some c→xs[j]? = some d→Ty c d)∧RelD W (ZC W) (.agg xs) v:=by
  obtain ⟨fuel,hf⟩:=h
  have o : ∃ cs,v = .agg cs:=by
    unfold aggT at b;unfold Value.okWide at a;split at b
    · rename_i q;simp only [q] at a;obtain ⟨cs,h,_⟩:=a;exact ⟨cs,h⟩
    · rename_i q;simp only [q] at a;obtain ⟨cs,h,_⟩:=a;exact ⟨cs,h⟩
    · simp at b
  obtain ⟨cs,rfl⟩:=o;obtain ⟨n,ds,m,s⟩:=qbw f t l fuel _ _ y hf;simp only [Value.cells] at n s;refine ⟨ds,m,fun j c d k hd=>?_,.agg (by simpa [m] using n.symm) fun j d c hd k=>?_⟩
  · obtain ⟨v,o⟩:=Zm (xs:=cs.toList) (i:=j) (by rw [n];exact Kc k);obtain ⟨w,g,z,_⟩:=s j c v k o;rw [hd] at g;cases g;exact z
  · obtain ⟨x,r⟩:=Zm (xs:=l) (i:=j) (by rw [← m];exact Kc hd);obtain ⟨w,g,_,u⟩:=s j x c r (by simpa using k);rw [hd] at g;cases g;exact u
theorem qg2 {f : Nat} : ∀ (n : List TypeId) (b : List (Bool × List CT)) (m : List Value) (ds : List (DataW H)) (p : List MemPlace),n.map (fun t=>(aggT P t,tyL P f t)) = b.map (fun x=>(x.1,some x.2))→
    (∀ (j : Nat) t v,n[j]? = some t→m[j]? = some v→Value.okWide P W .any base t v)→DataW.TrodAll enc P W 0 (fun _=>true) true n m ds p→
    ∃ xs : List DV,q2b b xs∧xs.length = m.length∧∀ (j : Nat) (x : DV) (v : Value),xs[j]? = some x→m[j]? = some v→RelD W (ZC W) x v
  | [],b,m,ds,p,hp,hok,h=>by
    obtain ⟨rfl,rfl,rfl⟩:=trodAll_nil h
    cases b with
    | nil=>exact ⟨[],.nil,rfl,qc⟩
    | cons _ _=>simp at hp
  | t::n,b,m,ds,p,hp,hok,h=>by
    obtain ⟨v,s,d,w,q,q',rfl,rfl,rfl,h1,h2⟩:=trodAll_cons h
    cases b with
    | nil=>simp at hp
    | cons pr b=>
      obtain ⟨ag,l⟩:=pr
      simp only [List.map_cons,List.cons.injEq,Prod.mk.injEq] at hp
      obtain ⟨⟨o,hl⟩,hp⟩:=hp
      obtain ⟨xs,g1,g2,g3⟩:=qg2 n b s w q' hp (fun j t v ht hv=>hok (j + 1) t v (by simpa using ht) (by simpa using hv)) h2
      have a:=hok 0 t v rfl rfl
      cases ag with
      | false=>
        obtain ⟨c,x,rfl,z,r⟩:=qng o hl a h1
        refine ⟨x::xs,.one z g1,by simp [g2],fun j y u g k=>?_⟩
        cases j with
        | zero=>simp at g k;subst g k;exact r
        | succ j=>exact g3 j y u (by simpa using g) (by simpa using k)
      | true=>
        obtain ⟨zs,k0,z,r⟩:=qnf o hl a h1
        refine ⟨.agg zs::xs,.agg k0 z g1,by simp [g2],fun j y u g k=>?_⟩
        cases j with
        | zero=>simp at g k;subst g k;exact r
        | succ j=>exact g3 j y u (by simpa using g) (by simpa using k)
theorem q10p {F : FuncId} {m : Array Value} {xs : List DV} (hT : Yw P T) (u : P.follows .mixedOrders = true) (hp : Pure P T F xs (.bool true)) (w : xs.length = m.size) (hr : ∀ (j : Nat) (x : DV) (v : Value),xs[j]? = some x→m[j]? = some v→RelD W (ZC W) x v) :
    Calls P F m W fun e l=>e = .returned (.bool true)∧Grown W l∧Below W.heap.size W l:=by
  obtain ⟨v,hp',nx',r',he,r,p⟩:=hp;have t:=qnu hT u he
  have h0 : RelH W (ZC W) (fun _=>none) [] 0:=⟨fun _ _ h=>by simp [find] at h,fun _ _ _ _ _ _ h=>by simp [find] at h,fun _ _ _ h=>by simp [find] at h,
    fun b ⟨c,e,f,h⟩=>J5 h,fun b h=>h⟩
  have hc:=t.2 W (ZC W) (fun _=>none) m h0 ⟨by simpa using w,fun j x v s q=>by
    simp only [List.getElem?_map,Kv] at s;obtain ⟨y,hy,rfl⟩:=s
    exact .d (hr j y v hy q)⟩
  refine (callsIn_wide (n:=0).1 hc).mono ?_;rintro e l ⟨x,Z',inj',rfl,z,a,q,hn⟩;have hD:=(q9t z 8 r q).le p;cases hD;have g : ∀ k,k < W.heap.size→l.heap[k]? = W.heap[k]?:=fun k g=>a.keep k g (by rintro ⟨n,blk,o,h1,_⟩;simp [find] at h1);refine ⟨rfl,⟨⟨a.os,a.output,fun i hi=>?_⟩,a.frz,a.size⟩,⟨a.os,a.tape,a.output,a.size,g⟩⟩;rw [g i hi]
  cases hw : W.heap[i]? with
  | none=>simp
  | some o=>cases o <;> simp
theorem qg3 (a : laidOutB P = true) {k : World} {l : Nat→Bool} : ∀ (b : List TypeId) (f : List Value) (ds : List (DataW H)) (p : List MemPlace),(∀ t∈b,P.readableRec t = true∧t < P.types.size)→DataW.TrodAll enc P W 0 (fun _=>true) true b f ds p→
    Below W.heap.size W k→(∀ x∈p,x.block < W.heap.size∧l x.block = true)→DataW.TrodAll enc P k 0 l true b f ds p
  | [],f,ds,p,_,h,_,_=>by obtain ⟨rfl,rfl,rfl⟩:=trodAll_nil h;exact trodAll_mk0
  | t::b,f,ds,p,ht,h,hb,hp=>by
    obtain ⟨v,g,d,j,q,o,rfl,rfl,rfl,n,m⟩:=trodAll_cons h
    refine trodAll_cons_mk (WideElems.Trod_stays a (ht t qc).1 (ht t qc).2 n (fun x c=>hb.same (hp x (by simp [c])).1) (fun x c=>(hp x (by simp [c])).2))
      (qg3 a b g j o (fun u r=>ht u (by simp [r])) m hb (fun x c=>hp x (by simp [c])))
theorem contract {f : Func} {F : FuncId} {s : ChangeSpec} {tb : TypeId} {fuel : Nat} {ps : List (Bool × List CT)} (hT : Yw P T) (hm : P.follows .mixedOrders = true) (y : laidOutB P = true)
    (a : s.vars = []) (c : f.resultTypes = #[tb]) (n : P.underlying tb = some .bool) (k : ∀ t∈f.params.toList,P.readableRec t = true∧t < P.types.size)
    (ae : f.params.toList.map (fun t=>(aggT P t,tyL P fuel t)) = ps.map (fun x=>(x.1,some x.2)))
    (hs : ∀ ds : List (DataW H),ds.length = f.params.size→s.fn H ds = {results:=[.lit (.bool true)],args:=ds})
    (m : ∀ xs,q2b ps xs→Pure P T F xs (.bool true))
    {args : Array Value} {ds gs : List (DataW H)} {before : List MemPlace} (z : ∀ (j : Nat) t v,f.params[j]? = some t→args[j]? = some v→Value.okWide P W .any base t v)
    (hW : DataW.Whole enc P f.params.toList s.vars false W args.toList ds gs before) :
    Calls P F args W fun e W'=>∃ v,e = .returned v∧s.post enc P f false true false false W args v W':=by
  have l:=hW;obtain ⟨p,q,hA,hV,rfl,al,ay⟩:=hW;rw [a] at hV;obtain ⟨rfl,rfl⟩:=trodVars_none hV;have w:=l.lt;simp only [List.append_nil] at l w;obtain ⟨xs,g1,g2,g3⟩:=qg2 (base:=base) f.params.toList ps args.toList ds p ae (fun j t v ht hv=>z j t v (by simpa using ht) (by simpa using hv)) hA;refine (q10p hT hm (m xs g1) (by simpa using g2) (fun j x v hx hv=>g3 j x v hx (by simpa using hv))).mono ?_;rintro e W' ⟨rfl,hg,hb⟩
  have o : ds.length = f.params.size:=by
    have : ∀ (r : List TypeId) (vs : List Value) (ds : List (DataW H)) (p : List MemPlace),DataW.TrodAll enc P W 0 (fun _=>true) true r vs ds p→ds.length = r.length:=by
      intro r
      induction r with
      | nil=>intro vs ds p h;obtain ⟨_,rfl,_⟩:=trodAll_nil h;rfl
      | cons t r ih=>intro vs ds p h;obtain ⟨v,aq,d,au,q,q',rfl,rfl,rfl,_,h2⟩:=trodAll_cons h;simp [ih _ _ _ h2]
    simpa using this _ _ _ _ hA
  have g:=hs (ds ++ []) (by simpa using o);refine ⟨_,rfl,post_of_same (pa:=p) (pv:=[]) l ?_ ?_ ?_ qc (hg.frame _) hg.2.1 (ok_one c rfl (okWide_bool_mk n _))⟩
  · intro b sp hd;rw [c,g];exact trodAll_cons_mk (shut_bool n _) trodAll_mk0
  · intro sp u;rw [g];show DataW.TrodAll enc P W' 0 sp true f.params.toList args.toList (ds ++ []) p;rw [List.append_nil];exact qg3 y _ _ _ _ k hA hb fun x hx=>⟨w x hx,u x hx⟩
  · intro sp u;rw [g,a];rfl
end
end Go.Am
namespace Go.Am
open Go
variable {P : Program} {T : Tab}
section
variable {base : Nat} {ops : Array Oper} {dr : Dr} {l : List Oper} {sl sl1 : List (Nat × V)} {hp hp1 : List (Nat × Blk)} {nx nx1 : Nat} {K : AS→Prop} {ty : TypeId} {pos : String} {af : Array Edge} {t : Tmp} {g : Option (Nat × Bool)} {v : V}
theorem qq0 {st : AS} {op : Op} (h : touch op = 0) : fp st op = (some [],[]):=by
  unfold touch at h;split at h <;> first | rfl | (simp at h;done) | (exact absurd h qw)
theorem qru {dr : Dr} {k : Nat} {st st1 : AS} {t : TypeId} {p : Operand} (h : okF dr k (fp st (.load t p)) = true) : okO dr k st (.load t p) st1 = true:=by
  cases dr with
  | none=>rfl
  | some F=>simp only [okF] at h;simp only [okO,h,Bool.true_and,q3g,touch]
theorem qjk {dr : Dr} {k n es : Nat} {st st1 : AS} {op : Op} {xs : List (List DV)} {r : List (Nat × Blk)} (a : st1.hp = (n,.dat es xs)::r) (h : okF dr k (fp st op) = true) : okO dr k st op st1 = true:=by
  cases dr with
  | none=>rfl
  | some F=>
    simp only [okF] at h;simp only [okO,h,Bool.true_and,q3g,a];split <;> rfl
theorem Ji {dr : Dr} {k : Nat} {st st1 : AS} {op : Op} (h : touch op = 0) : okO dr k st op st1 = true:=by
  cases dr with
  | none=>rfl
  | some F=>simp only [okO,qq0 h,qhy,Bool.true_and,q3g,h]
theorem fin {ex : Ex} {st : AS} {b : List ResultVar} {v : V} {r a : DV} (c : ex = .nor∨ex = .ret) (g : resV T st b = some v) (d : toD st.hp 8 v = some a) (f : a = r) : (ex = .nor∨ex = .ret)∧∃ v a,resV T st b = some v∧toD st.hp 8 v = some a∧DLe a r:=
  ⟨c,v,a,g,d,f ▸ .refl _⟩
theorem qry {x y : Operand} {a : TypeId} {i : TI} {k : IntKind} {n : Int} {m es off len : Nat} (j : Qn ops ⟨sl,hp,nx⟩ ⟨some t,.indexAddr a x y,ty,pos,af,g⟩ = some true) (o : T a = some i)
    (p : AS.ev ⟨sl,hp,nx⟩ x = some (.hs m es off len)) (b : AS.ev ⟨sl,hp,nx⟩ y = some (.d (.int k n))) (c : i.kind = .slice) (f : es = i.esize) (q : 0≤n) (hi : n < len)
    (h : OpsK P T base ops dr l ⟨(t,.ref m es (off + n.toNat) 0)::sl,hp,nx⟩ K) : OpsK P T base ops dr (⟨some t,.indexAddr a x y,ty,pos,af,g⟩::l) ⟨sl,hp,nx⟩ K:=
  Y8 j (v:=.ref m es (off + n.toNat) 0) (st1:=⟨sl,hp,nx⟩) (by simp [opFn,p,b,o,q3m,c,f,q,hi]) h (Ji rfl)
theorem qjn {p : Operand} {b : TypeId} {i : TI} {m es a j : Nat} {xs : List (List DV)} {cs r : List DV} {w : V} (f : Qn ops ⟨sl,hp,nx⟩ ⟨some t,.load b p,ty,pos,af,g⟩ = some true) (k : T b = some i)
    (o : AS.ev ⟨sl,hp,nx⟩ p = some (.ref m es a j)) (hb : find hp m = some (.dat es xs)) (hi : xs[a]? = some cs) (hs : sub cs j i.size = some r) (c : (q1q i.agg r).map .d = some w)
    (h : OpsK P T base ops dr l ⟨(t,w)::sl,hp,nx⟩ K) (n : okF dr l.length (fp ⟨sl,hp,nx⟩ (.load b p)) = true:=by rfl) : OpsK P T base ops dr (⟨some t,.load b p,ty,pos,af,g⟩::l) ⟨sl,hp,nx⟩ K:=
  Y8 f (v:=w) (st1:=⟨sl,hp,nx⟩) (by simp only [opFn,o,k,U0,AS.blk,hb,Nat.beq_refl,hi,hs,c,Option.map_some]) h (qru n)
end
end Go.Am
namespace Go.Am
open Go
variable {P : Program} {T : Tab}
section
variable {base : Nat} {ops : Array Oper} {dr : Dr} {l : List Oper} {sl : List (Nat × V)} {hp : List (Nat × Blk)} {nx : Nat} {K : AS→Prop} {ty : TypeId} {pos : String} {af : Array Edge} {t : Tmp} {g : Option (Nat × Bool)} {v : V}
theorem Qv {a : TypeId} {i : TI} (c : Qn ops ⟨sl,hp,nx⟩ ⟨some t,.alloc a,ty,pos,af,g⟩ = some true) (d : T a = some i)
    (h : OpsK P T base ops dr l ⟨(t,.ref nx i.size 0 0)::sl,(nx,.dat i.size [i.zero])::hp,nx + 1⟩ K) (b : okF dr l.length (fp ⟨sl,hp,nx⟩ (.alloc a)) = true:=by rfl) : OpsK P T base ops dr (⟨some t,.alloc a,ty,pos,af,g⟩::l) ⟨sl,hp,nx⟩ K:=
  Y8 c (v:=.ref nx i.size 0 0) (st1:=⟨sl,(nx,.dat i.size [i.zero])::hp,nx + 1⟩) (by simp only [opFn,d,Option.map_some];rfl) h (qjk rfl b)
theorem qrv {x y : Operand} {a b : TypeId} {i j : TI} {n es len : Nat} {xs ys : List (List DV)} {c : V} (o : Qn ops ⟨sl,hp,nx⟩ ⟨some t,.call {callee:=.builtin .append,args:=#[x,y],argTypes:=#[a,b]},ty,pos,af,g⟩ = some true)
    (q : T a = some i) (d : T b = some j) (u : AS.ev ⟨sl,hp,nx⟩ x = some (.hs n es 0 len)) (k : AS.ev ⟨sl,hp,nx⟩ y = some c) (hb : find hp n = some (.dat es xs)) (z : len = xs.length) (s : Zb ⟨sl,hp,nx⟩ c = some ys)
    (m : i.kind = .slice) (f : j.kind = .slice) (p : es = i.esize) (hf : Jx i.esize c = true) (w : (len + ys.length) * (i.ebytes * 4)≤4294967296)
    (h : OpsK P T base ops dr l ⟨(t,.hs nx es 0 (len + ys.length))::sl,(nx,.dat es (xs ++ ys))::repl hp n .dead,nx + 1⟩ K) (r : okF dr l.length (fp ⟨sl,hp,nx⟩ (.call {callee:=.builtin .append,args:=#[x,y],argTypes:=#[a,b]})) = true:=by rfl) : OpsK P T base ops dr (⟨some t,.call {callee:=.builtin .append,args:=#[x,y],argTypes:=#[a,b]},ty,pos,af,g⟩::l) ⟨sl,hp,nx⟩ K:=by
  refine Y8 o (v:=.hs nx es 0 (len + ys.length)) (st1:=⟨sl,(nx,.dat es (xs ++ ys))::repl hp n .dead,nx + 1⟩) ?_ h (qjk rfl r);subst z;have e : ((xs.drop 0).take xs.length ++ ys) = xs ++ ys:=by simp
  simp only [opFn,evL,u,k,Kz];simp only [List.getElem?_toArray,List.getElem?_cons_zero,List.getElem?_cons_succ,q,d];rw [ql ⟨m,f,hf⟩];simp only [Yx,AS.blk,hb,s];rw [ql ⟨q0,trivial,w,p⟩,e];rfl
theorem qeg {x : Operand} (a : Qn ops ⟨sl,hp,nx⟩ ⟨some t,.move x,ty,pos,af,g⟩ = some true) (b : AS.ev ⟨sl,hp,nx⟩ x = some v)
    (h : OpsK P T base ops dr l ⟨(t,v)::sl,hp,nx⟩ K) : OpsK P T base ops dr (⟨some t,.move x,ty,pos,af,g⟩::l) ⟨sl,hp,nx⟩ K:=
  Y8 a (v:=v) (st1:=⟨sl,hp,nx⟩) (by simp only [opFn,b,Option.map_some]) h (Ji rfl)
theorem qrw {x : Operand} (a : Qn ops ⟨sl,hp,nx⟩ ⟨some t,.assign x,ty,pos,af,g⟩ = some true) (b : AS.ev ⟨sl,hp,nx⟩ x = some v)
    (h : OpsK P T base ops dr l ⟨(t,v)::sl,hp,nx⟩ K) : OpsK P T base ops dr (⟨some t,.assign x,ty,pos,af,g⟩::l) ⟨sl,hp,nx⟩ K:=
  Y8 a (v:=v) (st1:=⟨sl,hp,nx⟩) (by simp only [opFn,b,Option.map_some]) h (Ji rfl)
theorem qd {op : Op} {j : Nat} {w : Bool} (a : Qn ops ⟨sl,hp,nx⟩ ⟨some t,op,ty,pos,af,some (j,w)⟩ = some false) (h : OpsK P T base ops dr l ⟨(t,.d (.tup []))::sl,hp,nx⟩ K) : OpsK P T base ops dr (⟨some t,op,ty,pos,af,some (j,w)⟩::l) ⟨sl,hp,nx⟩ K:=
  qs9 a h
theorem qs2 {x : Operand} {a : TypeId} {i : TI} {es : Nat} {xs : List (List DV)} {m : Nat} (j : Qn ops ⟨sl,hp,nx⟩ ⟨some t,.call {callee:=.builtin .len,args:=#[x],argTypes:=#[a]},ty,pos,af,g⟩ = some true) (k : T a = some i) (f : i.kind = .slice) (c : AS.ev ⟨sl,hp,nx⟩ x = some (.d (.sl es xs))) (b : xs.length = m)
    (h : OpsK P T base ops dr l ⟨(t,.d (.int .i64 m))::sl,hp,nx⟩ K) : OpsK P T base ops dr (⟨some t,.call {callee:=.builtin .len,args:=#[x],argTypes:=#[a]},ty,pos,af,g⟩::l) ⟨sl,hp,nx⟩ K:=by
  subst b;exact Y8 j (v:=.d (.int .i64 xs.length)) (st1:=⟨sl,hp,nx⟩) (by simp only [opFn,evL,c,Kz];simp only [List.getElem?_toArray,List.getElem?_cons_zero,k,f]) h (Ji rfl)
end
end Go.Am
namespace Go.Am
open Go
def iter {α β : Type} (f : α→Option (α ⊕ β)) : Nat→α→Option β
  | 0,_=>none
  | n + 1,a=>match f a with
    | none=>none
    | some (.inl a')=>iter f n a'
    | some (.inr b)=>some b
theorem qdr {α β : Type} {f : α→Option (α ⊕ β)} : ∀ {n : Nat} {a : α} {b : β},iter f n a = some b→∀ m,n≤m→iter f m a = some b
  | 0,_,_,h,_,_=>by simp [iter] at h
  | n + 1,a,b,h,m,hm=>by
    obtain ⟨k,rfl⟩ : ∃ k,m = k + 1:=⟨m - 1,q0⟩
    simp only [iter] at h ⊢
    split at h
    · simp at h
    · rename_i a' c;exact qdr h k q0
    · exact h
theorem qqv {α β : Type} {f : α→Option (α ⊕ β)} {n m : Nat} {a : α} {b c : β} (h : iter f n a = some b) (d : iter f m a = some c) : b = c:=by
  have j:=qdr h (max n m) q0;have g:=qdr d (max n m) q0;grind
open Classical in
noncomputable def loop {α β : Type} (f : α→Option (α ⊕ β)) (a : α) : Option β:=
  if h : ∃ b n,iter f n a = some b then some h.choose else none
theorem q7v {α β : Type} {f : α→Option (α ⊕ β)} {a : α} {b : β} : loop f a = some b↔∃ n,iter f n a = some b:=by
  unfold loop;split
  · rename_i h;constructor
    · grind
    · rintro ⟨n,d⟩;obtain ⟨m,c⟩:=h.choose_spec;rw [qqv c d]
  grind
theorem Y2 {α β : Type} {f : α→Option (α ⊕ β)} {a a' : α} (h : f a = some (.inl a')) : loop f a = loop f a':=by
  apply Option.ext;intro b;rw [q7v,q7v];constructor
  · rintro ⟨n,c⟩
    cases n with
    | zero=>simp [iter] at c
    | succ n=>simp only [iter,h] at c;exact ⟨n,c⟩
  · rintro ⟨n,c⟩;exact ⟨n + 1,by simp only [iter,h];exact c⟩
theorem Kl {α β : Type} {f : α→Option (α ⊕ β)} {a : α} {b : β} (h : f a = some (.inr b)) : loop f a = some b:=
  q7v.2 ⟨1,by simp [iter,h]⟩
theorem qr7 {α β : Type} {f : α→Option (α ⊕ β)} (I : α→Prop) (μ : α→Nat) (Q : β→Prop) (step : ∀ a,I a→(∃ a',f a = some (.inl a')∧I a'∧μ a' < μ a)∨∃ b,f a = some (.inr b)∧Q b) {a : α} (h : I a) : ∃ b,loop f a = some b∧Q b:=by
  generalize g : μ a = n
  induction n using Nat.strongRecOn generalizing a with
  | _ n ih=>
    rcases step a h with ⟨a',d,c,j⟩ | ⟨b,d,c⟩
    · rw [Y2 d];exact ih _ (g ▸ j) c rfl
    · exact ⟨b,Kl d,c⟩
def w64 (x : Int) : Int:=IntKind.i64.wrap x
theorem Q9 {x : Int} (h : -9223372036854775808≤x∧x≤9223372036854775807) : w64 x = x:=qfm h
def idx {α : Type} (xs : List α) (i : Int) : Option α:=if 0≤i then xs[i.toNat]? else none
def app {α : Type} (c : Nat) (xs ys : List α) : Option (List α):=if (xs.length + ys.length) * (c * 4)≤4294967296 then some (xs ++ ys) else none
def slc {α : Type} (xs : List α) (a b : Int) : Option (List α):=if 0≤a∧a≤b∧b≤xs.length then some ((xs.drop a.toNat).take (b.toNat - a.toNat)) else none
def mks {α : Type} (c : Nat) (n : Int) (z : α) : Option (List α):=if 0≤n∧n * (c * 4)≤4294967296 then some (List.replicate n.toNat z) else none
def sub2 (n : Nat) (a b : Int) : Option (Nat × Nat):=if 0≤a∧a≤b∧b≤n then some (a.toNat,b.toNat - a.toNat) else none
def cpyw {α : Type} (xs : List α) (w : Nat × Nat) (ys : List α) : List α:=splice xs w.1 (ys.take (min ys.length w.2))
theorem leb {n m : Nat} (h : Nat.ble n m = true) : n≤m:=by simpa using h
theorem qp6 {α : Type} {xs ys : List α} {w : Nat × Nat} (h : w.1 + w.2≤xs.length) : (cpyw xs w ys).length = xs.length:=by
  simp [cpyw,splice];omega
theorem ltd {n m : Nat} (h : Nat.blt n m = true) : n < m:=by simpa [Nat.blt_eq] using h
def eI (k : IntKind) (x : Int) : List DV:=[.int k x]
theorem qai {α : Type} {xs : List α} {i : Int} {v : α} (h : idx xs i = some v) : 0≤i∧xs[i.toNat]? = some v∧i.toNat < xs.length:=by
  unfold idx at h;grind
theorem q115 {α β : Type} {o : Option α} {f : α→Option β} {x : β} (h : o.bind f = some x) : ∃ v,o = some v∧f v = some x:=by
  cases o with
  | none=>cases h
  | some v=>exact ⟨v,rfl,h⟩
theorem qu {α : Type} {a b : α} (h : some a = some b) : a = b:=qc2 h
section
variable {P : Program} {T : Tab} {base : Nat} {cs : List Code} {st : AS} {K : Ex→AS→Prop}
theorem RunK.mono {a : Ex→AS→Prop} : ∀ {cs : List Code} {st : AS},RunK P T base cs st K→(∀ ex st,K ex st→a ex st)→RunK P T base cs st a
  | [],_,h,hk=>hk _ _ h
  | c::cs,st,h,hk=>q3b.mono h fun ex st h=>by
    cases ex with
    | nor=>exact RunK.mono (cs:=cs) h hk
    | exit i=>exact hk _ _ h
    | ret=>exact hk _ _ h
theorem qr {α : Type} {c : Operand} {a b : Code} {t : Bool} {X Y : Option α} {x : α} (f : st.ev c = some (.d (.bool t))) (h : cond t X Y = some x) (g : t = true→X = some x→RunK P T base (a::cs) st K) (j : t = false→Y = some x→RunK P T base (b::cs) st K) :
    RunK P T base (.cond c a b::cs) st K:=by
  cases t with
  | true=>exact Zj f (g rfl h)
  | false=>exact Zi f (j rfl h)
theorem Ql {α β : Type} {body : Code} (f : α→Option (α ⊕ β)) (S : α→AS) (g : α) (m : β) (p : loop f g = some m) (q : WkE base st (S g))
    (round : ∀ a y,f a = some y→RunK P T base [body] (S a) (fun ex st'=>match ex with
      | .nor=>∃ a',y = .inl a'∧WkE base st' (S a')
      | ex=>∃ b,y = .inr b∧(b = m→K ex st'))) : RunK P T base (.loop body::cs) st K:=by
  obtain ⟨n,o⟩:=q7v.1 p;refine qul (fun x : Nat × α=>S x.2) (fun x=>iter f x.1 x.2 = some m) (fun x=>x.1) (n,g) q o ?_;rintro ⟨k,a⟩ c
  cases k with
  | zero=>simp [iter] at c
  | succ k=>
    simp only [iter] at c;split at c
    · cases c
    · rename_i a' j;refine (round a _ j).mono ?_;intro ex st' h
      cases ex with
      | nor=>
        obtain ⟨a'',d,l⟩:=h;cases d;exact ⟨(k,a'),c,qc,l⟩
      | exit i=>obtain ⟨b,d,_⟩:=h;cases d
      | ret=>obtain ⟨b,d,_⟩:=h;cases d
    · rename_i b j;cases c;refine (round a _ j).mono ?_;grind
theorem Jv {id : Nat} {N : AS→Prop} (h : N st) : q3e id N K (.exit id) st:=by simpa [q3e] using h
theorem Qp {id : Nat} {N : AS→Prop} (h : N st) : q3e id N K .nor st:=h
theorem Yu {β : Type} {c : Code} (E : β→Prop) (S : β→AS) (d : cs≠[]) (h : RunK P T base [c] st (q9r (fun st'=>∃ b,E b∧WkE base st' (S b)) K)) (a : ∀ b,E b→RunK P T base cs (S b) K) : RunK P T base (c::cs) st K:=by
  obtain ⟨ex,st1,j,f⟩:=q4m h;refine ⟨ex,st1,j,?_⟩
  cases ex with
  | nor=>obtain ⟨b,hb,g⟩:=f;exact Yi g (a b hb) d
  | exit i=>exact f
  | ret=>exact f
theorem Qr {β : Type} {id : Nat} {a : Code} (E : β→Prop) (S : β→AS) (d : cs≠[]) (g : RunK P T base [a] st (q3e id (fun st'=>∃ b,E b∧WkE base st' (S b)) K)) (c : ∀ b,E b→RunK P T base cs (S b) K) : RunK P T base (.block id a::cs) st K:=by
  refine Q6 (g.mono ?_);intro ex st' h
  cases ex with
  | nor=>obtain ⟨b,hb,f⟩:=h;exact Yi f (c b hb) d
  | ret=>exact h
  | exit i=>
    simp only [q3e] at h ⊢;split
    · rename_i hi;rw [ql hi] at h;obtain ⟨b,hb,f⟩:=h;exact Yi f (c b hb) d
    grind
theorem q89 {β : Type} {c : Code} (E : β→Prop) (S : β→AS) (f : RunK P T base [c] st (q9r (fun st'=>∃ b,E b∧WkE base st' (S b)) K)) (a : ∀ b st',E b→WkE base st' (S b)→K .nor st') : RunK P T base [c] st K:=by
  refine f.mono ?_;intro ex st' h
  cases ex with
  | nor=>obtain ⟨b,hb,d⟩:=h;exact a b st' hb d
  | exit i=>exact h
  | ret=>exact h
end
section
variable {P : Program} {T : Tab} {base : Nat} {ops : Array Oper} {dr : Dr} {l : List Oper} {sl : List (Nat × V)} {hp : List (Nat × Blk)} {nx : Nat} {K : AS→Prop} {ty : TypeId} {pos : String} {af : Array Edge} {t : Tmp} {g : Option (Nat × Bool)}
theorem qsd {op : Op} (v : V) (c : Qn ops ⟨sl,hp,nx⟩ ⟨some t,op,ty,pos,af,g⟩ = some true) (a : opFn T ⟨sl,hp,nx⟩ op = some (v,⟨sl,hp,nx⟩)) (h : OpsK P T base ops dr l ⟨(t,v)::sl,hp,nx⟩ K) (b : okO dr l.length ⟨sl,hp,nx⟩ (op) ⟨sl,hp,nx⟩ = true:=by rfl) : OpsK P T base ops dr (⟨some t,op,ty,pos,af,g⟩::l) ⟨sl,hp,nx⟩ K:=
  Y8 c a h b
theorem qs6 {op : Op} (v : V) (b : Blk) (d : Qn ops ⟨sl,hp,nx⟩ ⟨some t,op,ty,pos,af,g⟩ = some true) (a : opFn T ⟨sl,hp,nx⟩ op = some (v,⟨sl,(nx,b)::hp,nx + 1⟩)) (h : OpsK P T base ops dr l ⟨(t,v)::sl,(nx,b)::hp,nx + 1⟩ K) (c : okO dr l.length ⟨sl,hp,nx⟩ (op) ⟨sl,(nx,b)::hp,nx + 1⟩ = true:=by rfl) : OpsK P T base ops dr (⟨some t,op,ty,pos,af,g⟩::l) ⟨sl,hp,nx⟩ K:=
  Y8 d a h c
theorem q3n {op : Op} {es len : Nat} (xs : List (List DV)) (f : Qn ops ⟨sl,hp,nx⟩ ⟨some t,op,ty,pos,af,g⟩ = some true) (a : opFn T ⟨sl,hp,nx⟩ op = some (.hs nx es 0 len,⟨sl,(nx,.dat es xs)::hp,nx + 1⟩)) (j : len = xs.length) (c : touch op = 2) (k : find hp nx = none) (h : OpsK P T base ops dr l ⟨(t,.d (.sl es xs))::sl,hp,nx + 1⟩ K) (b : okF dr l.length (fp ⟨sl,hp,nx⟩ op) = true:=by rfl) : OpsK P T base ops dr (⟨some t,op,ty,pos,af,g⟩::l) ⟨sl,hp,nx⟩ K:=by
  subst j;exact qs7 (n:=nx) (hp2:=hp) (st1:=⟨sl,(nx,.dat es xs)::hp,nx + 1⟩) f a c ⟨rfl,rfl⟩ rfl k h b
theorem qsc {op : Op} (n : Nat) (b : Blk) (d : Qn ops ⟨sl,hp,nx⟩ ⟨none,op,ty,pos,af,g⟩ = some true) (a : opFn T ⟨sl,hp,nx⟩ op = some (.dead,⟨sl,repl hp n b,nx⟩)) (h : OpsK P T base ops dr l ⟨sl,repl hp n b,nx⟩ K) (c : okO dr l.length ⟨sl,hp,nx⟩ (op) ⟨sl,repl hp n b,nx⟩ = true:=by rfl) : OpsK P T base ops dr (⟨none,op,ty,pos,af,g⟩::l) ⟨sl,hp,nx⟩ K:=
  Y8 d a h c
theorem Qg {α : Type} {x : Operand} {b : Bool} {X Y : Option α} {m : α} (c : Qn ops ⟨sl,hp,nx⟩ ⟨some t,.move x,ty,pos,af,g⟩ = some true) (a : AS.ev ⟨sl,hp,nx⟩ x = some (.d (.bool b))) (h : cond b X Y = some m)
    (f : X = some m→OpsK P T base ops dr l ⟨(t,.d (.bool true))::sl,hp,nx⟩ K) (j : Y = some m→OpsK P T base ops dr l ⟨(t,.d (.bool false))::sl,hp,nx⟩ K) : OpsK P T base ops dr (⟨some t,.move x,ty,pos,af,g⟩::l) ⟨sl,hp,nx⟩ K:=by
  cases b with
  | true=>exact qeg c a (f h)
  | false=>exact qeg c a (j h)
theorem q19 {dr : Dr} (hd : dr = none) {n m : List Oper} {st st1 st2 : AS} : Kj P T base ops dr n st st1→Kj P T base ops dr m st1 st2→Kj P T base ops dr (n ++ m) st st2
  | .nil,h2=>h2
  | .skip a b,h2=>.skip a (q19 hd b h2)
  | .op a b _ c,h2=>.op a b (by subst hd;rfl) (q19 hd c h2)
  | .opF a b c d e f _ g,h2=>.opF a b c d e f (by subst hd;rfl) (q19 hd g h2)
  | .callP a b c d e f g h _ i,h2=>.callP a b c d e f g h (by subst hd;rfl) (q19 hd i h2)
  | .callS a b c d e,h2=>.callS a b c d (q19 hd e h2)
  | .callF a b c d e f g h i,h2=>.callF a b c d e f g h (q19 hd i h2)
  | .callY a b c d e f g h i j k l,h2=>.callY a b c d e f g h i j k (q19 hd l h2)
  | .wk a b,h2=>.wk a (q19 hd b h2)
  | .piv _ _ _,_=>by cases hd
theorem qdd {F : List Fp} {m k : Nat} : fpAt (F.drop m) k = fpAt F (k + m):=by
  unfold fpAt;grind
theorem qrt {F : List Fp} {l a : List Oper} {dr : Dr} (hd : dr = some (F.drop a.length)) {st st1 : AS} {op : Op} (h : okO dr l.length st op st1 = true) : okO (some F) (l ++ a).length st op st1 = true:=by
  subst hd;simp only [okO,qdd] at h;simpa only [okO,List.length_append] using h
theorem qjj {F : List Fp} {l a : List Oper} {dr : Dr} (hd : dr = some (F.drop a.length)) {x : Fp} (h : okF dr l.length x = true) : okF (some F) (l ++ a).length x = true:=by
  subst hd;simp only [okF,qdd] at h;simpa only [okF,List.length_append] using h
theorem qpo {F : List Fp} {m : List Oper} {dr : Dr} {k : Dr} (r : k = some F) (hd : dr = some (F.drop m.length)) {n : List Oper} {st st1 st2 : AS} (p : Kj P T base ops dr n st st1) (q : Kj P T base ops k m st1 st2) : Kj P T base ops k (n ++ m) st st2:=by
  subst r
  induction n generalizing st with
  | nil=>cases p with
    | nil=>exact q
    | wk _ _=>cases hd
  | cons o l ih=>
    cases p with
    | skip a b=>exact .skip a (ih b)
    | op a b c d=>exact .op a b (qrt hd c) (ih d)
    | opF a b c d e f g h=>exact .opF a b c d e f (qjj hd g) (ih h)
    | callP a b c d e f g h i j=>exact .callP a b c d e f g h (qjj hd i) (ih j)
    | callS _ _ _ _ _=>cases hd
    | callF _ _ _ _ _ _ _ _ _=>cases hd
    | callY _ _ _ _ _ _ _ _ _ _ _ _=>cases hd
    | wk _ _=>cases hd
    | piv a b c=>
      cases hd;rw [qdd] at a;exact .piv (by show Ux (fpAt F (l ++ m).length) = true;rw [List.length_append];exact a) b (ih c)
def qh8 (dr : Dr) (k : Nat) : Dr:=match dr with
  | none=>none
  | some F=>some (F.drop k)
theorem qpn {dr : Dr} {d a : List Oper} {st st1 st2 : AS} (b : Kj P T base ops (qh8 dr a.length) d st st1) (c : Kj P T base ops dr a st1 st2) : Kj P T base ops dr (d ++ a) st st2:=by
  cases dr with
  | none=>exact q19 rfl b c
  | some F=>exact qpo rfl rfl b c
theorem Qh (n : Nat) (Q : (List (Nat × V)→AS)→AS→Prop) (f : OpsK P T base ops (qh8 dr (l.drop n).length) (l.take n) ⟨sl,hp,nx⟩ (Q fun p=>⟨p ++ sl,hp,nx⟩)) (b : ∀ st',Q (fun p=>⟨p ++ sl,hp,nx⟩) st'→OpsK P T base ops dr (l.drop n) st' K) : OpsK P T base ops dr l ⟨sl,hp,nx⟩ K:=by
  obtain ⟨st1,g,c⟩:=f;obtain ⟨st2,d,a⟩:=b st1 c;refine ⟨st2,?_,a⟩;have:=qpn g d;simp_all
theorem qs0 {α : Type} {x y : Operand} {a : TypeId} {i : TI} {k : IntKind} {n : Int} {es : Nat} {xs : List α} {enc : α→List DV} {v : α} (p : idx xs n = some v) (j : Qn ops ⟨sl,hp,nx⟩ ⟨some t,.indexAddr a x y,ty,pos,af,g⟩ = some true) (o : T a = some i)
    (q : AS.ev ⟨sl,hp,nx⟩ x = some (.d (.sl es (xs.map enc)))) (b : AS.ev ⟨sl,hp,nx⟩ y = some (.d (.int k n))) (c : i.kind = .slice) (m : es = i.esize)
    (h : OpsK P T base ops dr l ⟨(t,.dref (enc v) 0)::sl,hp,nx⟩ K) : OpsK P T base ops dr (⟨some t,.indexAddr a x y,ty,pos,af,g⟩::l) ⟨sl,hp,nx⟩ K:=by
  obtain ⟨r,f,_⟩:=qai p;exact Y8 j (v:=.dref (enc v) 0) (st1:=⟨sl,hp,nx⟩) (by simp [opFn,q,b,o,q3m,c,m,r,f]) h (Ji rfl)
theorem qrz {α : Type} {x y : Operand} {a : TypeId} {i : TI} {k : IntKind} {n : Int} {m es len : Nat} {xs : List α} {v : α} (p : idx xs n = some v) (s : len = xs.length) (f : Qn ops ⟨sl,hp,nx⟩ ⟨some t,.indexAddr a x y,ty,pos,af,g⟩ = some true) (o : T a = some i)
    (q : AS.ev ⟨sl,hp,nx⟩ x = some (.hs m es 0 len)) (b : AS.ev ⟨sl,hp,nx⟩ y = some (.d (.int k n))) (c : i.kind = .slice) (j : es = i.esize)
    (h : OpsK P T base ops dr l ⟨(t,.ref m es n.toNat 0)::sl,hp,nx⟩ K) : OpsK P T base ops dr (⟨some t,.indexAddr a x y,ty,pos,af,g⟩::l) ⟨sl,hp,nx⟩ K:=by
  subst s;obtain ⟨r,_,u⟩:=qai p;exact Y8 f (v:=.ref m es n.toNat 0) (st1:=⟨sl,hp,nx⟩) (by simp [opFn,q,b,o,q3m,c,j,r];omega) h (Ji rfl)
theorem qs3 {α : Type} {p : Operand} {a : TypeId} {i : TI} {m es j : Nat} {n : Int} {xs : List α} {enc : α→List DV} {r : List DV} {v : α} (w : V) (k : idx xs n = some v) (c : Qn ops ⟨sl,hp,nx⟩ ⟨some t,.load a p,ty,pos,af,g⟩ = some true) (f : T a = some i)
    (q : AS.ev ⟨sl,hp,nx⟩ p = some (.ref m es n.toNat j)) (hb : find hp m = some (.dat es (xs.map enc))) (hs : sub (enc v) j i.size = some r) (b : (q1q i.agg r).map .d = some w)
    (h : OpsK P T base ops dr l ⟨(t,w)::sl,hp,nx⟩ K) (o : okF dr l.length (fp ⟨sl,hp,nx⟩ (.load a p)) = true:=by rfl) : OpsK P T base ops dr (⟨some t,.load a p,ty,pos,af,g⟩::l) ⟨sl,hp,nx⟩ K:=
  qjn c f q hb (by rw [List.getElem?_map,(qai k).2.1];rfl) hs b h o
theorem Qz {α : Type} {p x : Operand} {k : TypeId} {i : TI} {m es j : Nat} {n : Int} {xs : List α} {enc : α→List DV} {v : α} (f : α) {u : V} {ds : List DV} (t : idx xs n = some v) (r : Qn ops ⟨sl,hp,nx⟩ ⟨none,.store k p x,ty,pos,af,g⟩ = some true) (s : T k = some i)
    (hp' : AS.ev ⟨sl,hp,nx⟩ p = some (.ref m es n.toNat j)) (y : AS.ev ⟨sl,hp,nx⟩ x = some u) (hb : find hp m = some (.dat es (xs.map enc))) (o : cellsOf u = ds.map .d) (hl : ds.length = i.size) (q : ds.all Ya = true) (z : j + i.size≤(enc v).length) (hs : splice (enc v) j ds = enc f)
    (h : OpsK P T base ops dr l ⟨sl,repl hp m (.dat es ((xs.set n.toNat f).map enc)),nx⟩ K) (w : okO dr l.length ⟨sl,hp,nx⟩ (.store k p x) ⟨sl,repl hp m (.dat es ((xs.set n.toNat f).map enc)),nx⟩ = true:=by rfl) : OpsK P T base ops dr (⟨none,.store k p x,ty,pos,af,g⟩::l) ⟨sl,hp,nx⟩ K:=by
  refine Y8 r (v:=.dead) (st1:=⟨sl,repl hp m (.dat es ((xs.set n.toNat f).map enc)),nx⟩) ?_ h w;have c : (cellsOf u).all Kh = true:=by rw [o,List.all_map];exact q
  have b : (cellsOf u).length = i.size:=by rw [o];simpa using hl
  have a : (xs.map enc)[n.toNat]? = some (enc v):=by rw [List.getElem?_map,(qai t).2.1];rfl
  simp only [opFn,s,hp',y,Jm,AS.blk,hb,Nat.beq_refl,a];rw [qn (by simp [c,b]),ql z,o,qc9];simp only [hs,List.map_set,AS.setBlk];rfl
theorem qjp {α : Type} {x : Operand} {a : TypeId} {i : TI} {es : Nat} {xs : List α} {enc : α→List DV} (f : Qn ops ⟨sl,hp,nx⟩ ⟨some t,.call {callee:=.builtin .len,args:=#[x],argTypes:=#[a]},ty,pos,af,g⟩ = some true) (j : T a = some i) (c : i.kind = .slice) (b : AS.ev ⟨sl,hp,nx⟩ x = some (.d (.sl es (xs.map enc))))
    (h : OpsK P T base ops dr l ⟨(t,.d (.int .i64 (xs.length : Int)))::sl,hp,nx⟩ K) : OpsK P T base ops dr (⟨some t,.call {callee:=.builtin .len,args:=#[x],argTypes:=#[a]},ty,pos,af,g⟩::l) ⟨sl,hp,nx⟩ K:=
  qs2 f j c b qc h
theorem Yr {α : Type} {x y : Operand} {a d : TypeId} {i j : TI} {n es len : Nat} {xs ys zs : List α} {enc : α→List DV} (f : V) (c : app i.ebytes xs ys = some zs) (b : len = xs.length) (q : Qn ops ⟨sl,hp,nx⟩ ⟨some t,.call {callee:=.builtin .append,args:=#[x,y],argTypes:=#[a,d]},ty,pos,af,g⟩ = some true)
    (s : T a = some i) (k : T d = some j) (w : AS.ev ⟨sl,hp,nx⟩ x = some (.hs n es 0 len)) (o : AS.ev ⟨sl,hp,nx⟩ y = some f) (hb : find hp n = some (.dat es (xs.map enc))) (v : Zb ⟨sl,hp,nx⟩ f = some (ys.map enc))
    (p : i.kind = .slice) (m : j.kind = .slice) (r : es = i.esize) (hf : Jx i.esize f = true)
    (h : OpsK P T base ops dr l ⟨(t,.hs nx es 0 zs.length)::sl,(nx,.dat es (zs.map enc))::repl hp n .dead,nx + 1⟩ K) (u : okF dr l.length (fp ⟨sl,hp,nx⟩ (.call {callee:=.builtin .append,args:=#[x,y],argTypes:=#[a,d]})) = true:=by rfl) : OpsK P T base ops dr (⟨some t,.call {callee:=.builtin .append,args:=#[x,y],argTypes:=#[a,d]},ty,pos,af,g⟩::l) ⟨sl,hp,nx⟩ K:=by
  subst b;unfold app at c;split at c
  · rename_i z;cases c;refine qrv q s k w o hb qc v p m r hf (by simpa [Nat.mul_assoc] using z) ?_ u;grind
  · cases c
theorem Yp {α : Type} {n es len : Nat} {ys : List α} {enc : α→List DV} (a : len = ys.length) (hb : find hp n = some (.dat es (ys.map enc))) : Zb ⟨sl,hp,nx⟩ (.hs n es 0 len) = some (ys.map enc):=by
  subst a;simp only [Zb,AS.blk,hb];grind
theorem qsa {α : Type} {x : Operand} {j : TypeId} {lo hi : Option Operand} {i : TI} {es : Nat} {a b : Int} {xs zs : List α} {enc : α→List DV} (c : slc xs a b = some zs) (n : Qn ops ⟨sl,hp,nx⟩ ⟨some t,.slice j x lo hi none,ty,pos,af,g⟩ = some true) (p : T j = some i) (m : i.kind = .slice) (o : es = i.esize)
    (q : AS.ev ⟨sl,hp,nx⟩ x = some (.d (.sl es (xs.map enc)))) (k : 0≤a→bound ⟨sl,hp,nx⟩ 0 lo = some a.toNat) (f : 0≤b→bound ⟨sl,hp,nx⟩ xs.length hi = some b.toNat)
    (h : OpsK P T base ops dr l ⟨(t,.d (.sl es (zs.map enc)))::sl,hp,nx⟩ K) : OpsK P T base ops dr (⟨some t,.slice j x lo hi none,ty,pos,af,g⟩::l) ⟨sl,hp,nx⟩ K:=by
  unfold slc at c;split at c
  · rename_i r;cases c;refine Y8 n (v:=.d (.sl es ((((xs.drop a.toNat).take (b.toNat - a.toNat))).map enc))) (st1:=⟨sl,hp,nx⟩) ?_ h (Ji rfl);simp only [opFn,p,q,m,lenV,List.length_map,k r.1,f q0,q8d];rw [ql ⟨trivial,rfl⟩];rw [ql ⟨q0,by simp;omega,o⟩];simp
  · cases c
theorem qa4 {o : Operand} {k : IntKind} {a : Int} {d : Nat} {st : AS} (h : st.ev o = some (.d (.int k a))) (b : 0≤a) : bound st d (some o) = some a.toNat:=by
  simp [bound,h,b]
theorem qeh {x : Operand} {f : TypeId} {lo hi : Option Operand} {i : TI} {n es len : Nat} {a b : Int} {w : Nat × Nat} (c : sub2 len a b = some w) (m : Qn ops ⟨sl,hp,nx⟩ ⟨some t,.slice f x lo hi none,ty,pos,af,g⟩ = some true) (o : T f = some i) (k : i.kind = .slice) (r : es = i.esize)
    (p : AS.ev ⟨sl,hp,nx⟩ x = some (.hs n es 0 len)) (j : 0≤a→bound ⟨sl,hp,nx⟩ 0 lo = some a.toNat) (d : 0≤b→bound ⟨sl,hp,nx⟩ len hi = some b.toNat)
    (h : OpsK P T base ops dr l ⟨(t,.hs n es w.1 w.2)::sl,hp,nx⟩ K) : OpsK P T base ops dr (⟨some t,.slice f x lo hi none,ty,pos,af,g⟩::l) ⟨sl,hp,nx⟩ K:=by
  unfold sub2 at c;split at c
  · rename_i q;cases c;refine Y8 m (v:=.hs n es a.toNat (b.toNat - a.toNat)) (st1:=⟨sl,hp,nx⟩) ?_ h (Ji rfl);simp only [opFn,o,p,k,lenV,j q.1,d q0,q8d];grind
  · cases c
theorem qm8 {n : Nat} {a b : Int} {w : Nat × Nat} (h : sub2 n a b = some w) : w.1 + w.2≤n:=by
  unfold sub2 at h;grind
theorem Ud {k k' : IntKind} {a b : Int} {r : List V} : minI false (.d (.int k a)) (.d (.int k' b)::r) = minI false (.d (.int k (min a b))) r:=by
  simp only [minI];grind
theorem Uc {k k' : IntKind} {a b : Int} {r : List V} : minI true (.d (.int k a)) (.d (.int k' b)::r) = minI true (.d (.int k (max a b))) r:=by
  simp only [minI];grind
theorem Ug {xs : Array Operand} {ats : Array TypeId} {b : List V} {k : IntKind} {a : Int} {r : Int} (j : Qn ops ⟨sl,hp,nx⟩ ⟨some t,.call {callee:=.builtin .min,args:=xs,argTypes:=ats},ty,pos,af,g⟩ = some true) (c : evL (AS.ev ⟨sl,hp,nx⟩) xs.toList = some (.d (.int k a)::b)) (f : minI false (.d (.int k a)) b = some (.d (.int k r)))
    (h : OpsK P T base ops dr l ⟨(t,.d (.int k r))::sl,hp,nx⟩ K) : OpsK P T base ops dr (⟨some t,.call {callee:=.builtin .min,args:=xs,argTypes:=ats},ty,pos,af,g⟩::l) ⟨sl,hp,nx⟩ K:=
  Y8 j (v:=.d (.int k r)) (st1:=⟨sl,hp,nx⟩) (by simp [opFn,c,Kz,f]) h (Ji rfl)
theorem Uf {xs : Array Operand} {ats : Array TypeId} {b : List V} {k : IntKind} {a : Int} {r : Int} (j : Qn ops ⟨sl,hp,nx⟩ ⟨some t,.call {callee:=.builtin .max,args:=xs,argTypes:=ats},ty,pos,af,g⟩ = some true) (c : evL (AS.ev ⟨sl,hp,nx⟩) xs.toList = some (.d (.int k a)::b)) (f : minI true (.d (.int k a)) b = some (.d (.int k r)))
    (h : OpsK P T base ops dr l ⟨(t,.d (.int k r))::sl,hp,nx⟩ K) : OpsK P T base ops dr (⟨some t,.call {callee:=.builtin .max,args:=xs,argTypes:=ats},ty,pos,af,g⟩::l) ⟨sl,hp,nx⟩ K:=
  Y8 j (v:=.d (.int k r)) (st1:=⟨sl,hp,nx⟩) (by simp [opFn,c,Kz,f]) h (Ji rfl)
theorem q1p {c : Call} {f : FuncId} {ds : List DV} {r : DV} (a : List V) (b : Pure P T f ds r) (m : Qn ops ⟨sl,hp,nx⟩ ⟨some t,.call c,ty,pos,af,g⟩ = some true) (k : callee ⟨sl,hp,nx⟩ c = some (f,a)) (hd : Ko hp a = some ds)
    (hs : (a.all V.isD = true∨r.scalar = true)) (h : OpsK P T base ops dr l ⟨(t,.d r)::sl,hp,nx⟩ K) (j : okF dr l.length (fpC a) = true:=by rfl) : OpsK P T base ops dr (⟨some t,.call c,ty,pos,af,g⟩::l) ⟨sl,hp,nx⟩ K:=
  qjl m rfl k hd hs b h j
theorem Zq {hp : List (Nat × Blk)} {v : V} {d : DV} {a : List V} {ds : List DV} (h : toD hp 8 v = some d) (b : Ko hp a = some ds) : Ko hp (v::a) = some (d::ds):=by
  simp [Ko,h,b]
theorem J6 {α : Type} {k n es len : Nat} {ys : List α} {enc : α→List DV} (a : len = ys.length) (hb : find hp n = some (.dat es (ys.map enc))) : toD hp (k + 1) (.hs n es 0 len) = some (.sl es (ys.map enc)):=by
  subst a;simp only [toD,hb];grind
theorem q9q {k : Nat} {a : List V} {ds : List DV} (h : Ze (toD hp k) a = some ds) : toD hp (k + 1) (.tup a) = some (.tup ds):=by simp [toD,h]
theorem q10b {k : Nat} {f : FuncId} {a : List V} {ds : List DV} (h : Ze (toD hp k) a = some ds) : toD hp (k + 1) (.fn f a) = some (.fn f ds):=by simp [toD,h]
theorem Ue {k : Nat} {v : V} {d : DV} {a : List V} {ds : List DV} (h : toD hp k v = some d) (b : Ze (toD hp k) a = some ds) : Ze (toD hp k) (v::a) = some (d::ds):=by simp [Ze,h,b]
inductive DLeL : List DV→List DV→Prop
  | nil : DLeL [] []
  | cons {x y : DV} {xs ys : List DV} : DLe x y→DLeL xs ys→DLeL (x::xs) (y::ys)
theorem DLeL.len {xs ys : List DV} (h : DLeL xs ys) : xs.length = ys.length:=by
  induction h with
  | nil=>rfl
  | cons _ _ ih=>simp [ih]
theorem DLeL.get {xs ys : List DV} (h : DLeL xs ys) : ∀ (i : Nat) (x y : DV),xs[i]? = some x→ys[i]? = some y→DLe x y:=by
  induction h with
  | nil=>intro i x y h;simp at h
  | cons h1 _ ih=>grind
theorem Yq {xs ys : List DV} (h : DLeL xs ys) : DLe (.tup xs) (.tup ys):=.tup h.len h.get
theorem finD {ex : Ex} {st : AS} {b : List ResultVar} {v : V} {r a : DV} (c : ex = .nor∨ex = .ret) (g : resV T st b = some v) (d : toD st.hp 8 v = some a) (f : DLe a r) : (ex = .nor∨ex = .ret)∧∃ v a,resV T st b = some v∧toD st.hp 8 v = some a∧DLe a r:=
  ⟨c,v,a,g,d,f⟩
end
theorem qn0 {α : Type} {st : AS} {ρ : Nat→Nat} {fz ph : List Nat} {nx n es len : Nat} {ys : List α} {enc : α→List DV} (b : len = ys.length) (hb : st.blk n = some (.dat es (ys.map enc))) (a : n∈fz) : Wv st ρ fz ph nx (.hs n es 0 len) (.d (.sl es (ys.map enc))):=by
  subst b;exact .frz hb a qc (by rw [List.drop_zero,List.take_of_length_le qc]) rfl
theorem K4 {st : AS} {ρ : Nat→Nat} {fz ph : List Nat} {nx n m es o l l' : Nat} (c : l = l') (b : ρ m = n) (a : m ∉ ph) (d : m < nx) : Wv st ρ fz ph nx (.hs n es o l) (.hs m es o l'):=c ▸ .hs b a d
inductive WvC (st : AS) (ρ : Nat→Nat) (fz ph : List Nat) (nx : Nat) : List V→List V→Prop
  | nil : WvC st ρ fz ph nx [] []
  | cons {c d : V} {cs ds : List V} : Wv st ρ fz ph nx c d→Kh d = true→WvC st ρ fz ph nx cs ds→WvC st ρ fz ph nx (c::cs) (d::ds)
theorem WvC.len {st : AS} {ρ : Nat→Nat} {fz ph : List Nat} {nx : Nat} {cs ds : List V} (h : WvC st ρ fz ph nx cs ds) : cs.length = ds.length:=by
  induction h with
  | nil=>rfl
  | cons _ _ _ ih=>simp [ih]
theorem WvC.get {st : AS} {ρ : Nat→Nat} {fz ph : List Nat} {nx : Nat} {cs ds : List V} (h : WvC st ρ fz ph nx cs ds) : ∀ (j : Nat) (c d : V),cs[j]? = some c→ds[j]? = some d→Wv st ρ fz ph nx c d∧Kh d = true:=by
  induction h with
  | nil=>intro i x y h;simp at h
  | cons h1 h2 _ ih=>grind
theorem Jn {st : AS} {ρ : Nat→Nat} {fz ph : List Nat} {nx es : Nat} {cs ds : List V} (h : WvC st ρ fz ph nx cs ds) : Wb st ρ fz ph nx (.cel es [cs]) (.cel es [ds]):=by
  refine .cel rfl fun i x y a b=>?_
  cases i with
  | zero=>simp at a b;subst a b;exact ⟨h.len,h.get⟩
  | succ i=>simp at a
theorem qfl {st : AS} {ρ : Nat→Nat} {fz ph : List Nat} {nx es : Nat} {cs : List DV} {ds : List V} (h : WvC st ρ fz ph nx (cs.map .d) ds) : Wb st ρ fz ph nx (.dat es [cs]) (.cel es [ds]):=by
  refine .datcel rfl fun i x y a b=>?_
  cases i with
  | zero=>
    simp at a b;subst a b;exact ⟨by simpa using h.len,fun j c d f hd=>h.get j (.d c) d (by simp [f]) hd⟩
  | succ i=>simp at a
inductive WvL (st : AS) (ρ : Nat→Nat) (fz ph : List Nat) (nx : Nat) : List V→List V→Prop
  | nil : WvL st ρ fz ph nx [] []
  | cons {c d : V} {cs ds : List V} : Wv st ρ fz ph nx c d→WvL st ρ fz ph nx cs ds→WvL st ρ fz ph nx (c::cs) (d::ds)
theorem WvL.len {st : AS} {ρ : Nat→Nat} {fz ph : List Nat} {nx : Nat} {cs ds : List V} (h : WvL st ρ fz ph nx cs ds) : cs.length = ds.length:=by
  induction h with
  | nil=>rfl
  | cons _ _ ih=>simp [ih]
theorem WvL.get {st : AS} {ρ : Nat→Nat} {fz ph : List Nat} {nx : Nat} {cs ds : List V} (h : WvL st ρ fz ph nx cs ds) : ∀ (j : Nat) (c d : V),cs[j]? = some c→ds[j]? = some d→Wv st ρ fz ph nx c d:=by
  induction h with
  | nil=>intro i x y h;simp at h
  | cons h1 _ ih=>grind
theorem q28 {st : AS} {ρ : Nat→Nat} {fz ph : List Nat} {nx : Nat} {f : FuncId} {cs ds : List V} (h : WvL st ρ fz ph nx cs ds) : Wv st ρ fz ph nx (.fn f cs) (.fn f ds):=.fn h.len h.get
theorem qfo {st : AS} {ρ : Nat→Nat} {fz ph : List Nat} {nx : Nat} {cs ds : List V} (h : WvL st ρ fz ph nx cs ds) : Wv st ρ fz ph nx (.tup cs) (.tup ds):=.tup h.len h.get
theorem q10y {st : AS} {ρ : Nat→Nat} {fz ph : List Nat} {nx : Nat} {cs : List DV} {ds : List V} (h : WvL st ρ fz ph nx (cs.map .d) ds) : Wv st ρ fz ph nx (.d (.tup cs)) (.tup ds):=
  .dtup (by have:=h.len;simpa using this) fun i c d a hd=>h.get i _ d (by simp [a]) hd
theorem q10x {st : AS} {ρ : Nat→Nat} {fz ph : List Nat} {nx : Nat} {cs : List DV} {ds : List V} (h : WvL st ρ fz ph nx (cs.map .d) ds) : Wv st ρ fz ph nx (.d (.agg cs)) (.agg ds):=
  .dagg (by have:=h.len;simpa using this) fun i c d a hd=>h.get i _ d (by simp [a]) hd
theorem qbz {st : AS} {ρ : Nat→Nat} {fz ph : List Nat} {nx : Nat} {cs ds : List V} (h : WvL st ρ fz ph nx cs ds) : Wv st ρ fz ph nx (.agg cs) (.agg ds):=.agg h.len h.get
theorem qhl {P : Program} {T : Tab} {f : FuncId} {ds a : List DV} (j : DLeL a ds) {l : List V} {hp hp' : List (Nat × Blk)} {nx nx' : Nat} {v : V} : K8 P T f l hp nx v hp' nx'→l = ds.map .d→hp = []→nx = 0→K8 P T f (a.map .d) [] 0 v hp' nx'
  | .wk e w,g,hh,hn=>by
    have h:=qhl j e g hh hn
    subst hh hn
    exact .wk h w
  | .mk h1 h2 h3 h4 h5 h6 h7 h8,g,hh,hn=>by
    subst g hh hn
    refine .mk h1 h2 h3 h4 (by simpa [j.len] using h5) (.wk (ρ:=fun n=>n) (fz:=[]) (ph:=[]) ⟨?_,?_,?_,?_,?_,?_,?_,?_⟩ h6) h7 h8
    · intro t p g
      simp only [AS.get,qa1] at g ⊢
      simp only [Nat.zero_le,if_true,Nat.sub_zero,List.getElem?_map,Kv] at g ⊢
      obtain ⟨y,k,rfl⟩:=g
      obtain ⟨x,o⟩:=Zm (xs:=a) (i:=t) (by rw [j.len];exact Kc k)
      exact ⟨_,⟨x,o,rfl⟩,.d (j.get t x y o k)⟩
    · intro n b h;simp [AS.blk,find] at h
    · intro n m b c h;simp [AS.blk,find] at h
    · intro n b h;simp [AS.blk,find] at h
    · intro n h;rfl
    · exact Nat.le_refl _
    · intro n h;cases h
    · intro n h;cases h
theorem qk6 {P : Program} {T : Tab} {f : FuncId} {ds a : List DV} {r : DV} (g : DLeL a ds) (h : Pure P T f ds r) : Pure P T f a r:=by
  obtain ⟨v,hp,nx,c,e,d,b⟩:=h;exact ⟨v,hp,nx,c,qhl g e rfl rfl rfl,d,b⟩
end Go.Am
namespace Go.Sh
open Go Go.Am
theorem K7 {α : Type} {xs : List α} {k : Nat} (h : k < xs.length) : idx xs (k : Int) = some xs[k]:=by simp [idx,h]
theorem Jd {α : Type} {xs : List α} {i : Int} {k : Nat} (hi : i = k) (h : k < xs.length) : idx xs i = some xs[k]:=by subst hi;exact K7 h
theorem Z4 {α : Type} {c : Nat} {xs ys : List α} (h : (xs.length + ys.length) * (c * 4)≤4294967296) : app c xs ys = some (xs ++ ys):=by simp [app,h]
theorem qp0 {α : Type} {c : Bool} {a b : α} : (cond c (some a) (some b)) = some (cond c a b):=by cases c <;> rfl
theorem Zu {α β σ : Type} {f : α→Option (α ⊕ β)} (mk : Nat→σ→α) (n : Nat) (I : Nat→σ→Prop) (Q : β→Prop)
    (step : ∀ k c,k < n→I k c→(∃ g,f (mk k c) = some (.inl (mk (k + 1) g))∧I (k + 1) g)∨∃ b,f (mk k c) = some (.inr b)∧Q b)
    (done : ∀ c,I n c→∃ b,f (mk n c) = some (.inr b)∧Q b) {k0 : Nat} {c0 : σ} (h : k0≤n) (l : I k0 c0) : ∃ b,loop f (mk k0 c0) = some b∧Q b:=by
  have key : ∀ m k c,n - k = m→k≤n→I k c→∃ b,loop f (mk k c) = some b∧Q b:=by
    intro m
    induction m with
    | zero=>
      intro k c j h hi;obtain rfl : k = n:=by omega
      obtain ⟨b,d,a⟩:=done c hi;exact ⟨b,Kl d,a⟩
    | succ m ih=>
      intro k c j h hi;rcases step k c q0 hi with ⟨g,d,a⟩ | ⟨b,d,a⟩
      · rw [Y2 d];exact ih (k + 1) g q0 q0 a
      · exact ⟨b,Kl d,a⟩
  exact key _ k0 c0 rfl h l
end Go.Sh
namespace Go.Am
open Go
theorem q114 {xs : List DV} (h : q2b [] xs) : xs = []:=by cases h;rfl
end Go.Am
