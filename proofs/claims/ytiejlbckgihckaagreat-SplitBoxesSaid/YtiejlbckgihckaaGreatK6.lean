/- Am26 Am27 Am28 Am29 Am30 Am31 Lf1 Pl0 -/
import Derived.Test.YtiejlbckgihckaaGreatK5
import Derived.ProofKit
import Derived.OpenShut
import Derived.Deep.Slices
namespace Go.Am
open Go
variable {P : Program} {T : Tab}
def wpL (F : Fence) (P : Program) (c : Code) (Q : Exit→Act→World→Prop) (a : Act) (w : World) : Prop:=
  ∀ (b : Frame) (k : List Item) (cs : List Frame),b.roundOf = F.round→F.fn b.fn→F.room (cs.length + 1 + 0)→
    ∃ e a' w',Q e a' w'∧ArrivesIn (Machine.fenced P F) P (lone (b.atR a (.code c::.inLoop c::k)) cs w) b k cs e a' w'
theorem qn3 {F : Fence} {c : Code} {Q : Exit→Act→World→Prop} {a : Act} {w : World} (h : c.wpIn F 0 P (Exit.then (wpL F P c Q) Q) a w) : wpL F P c Q a w:=by
  intro b k cs n hb o;obtain ⟨e,m,j,g,d⟩:=h b (.inLoop c::k) cs n hb o
  cases e with
  | normal=>
    obtain ⟨s,q,r,p,f⟩:=g b k cs n hb o;exact ⟨s,q,r,p,.of_steps (StepsIn.trans d (.one (fenced_calm hb o rfl) stepR_inLoop)) f⟩
  | exit id=>exact ⟨_,m,j,g,.pass (x:=.inLoop c) rfl (fun _ _=>.inl qe) d⟩
  | goto l=>exact ⟨_,m,j,g,.pass (x:=.inLoop c) rfl (fun _ _=>.inl qe) d⟩
  | ret=>exact ⟨_,m,j,g,.pass (x:=.inLoop c) rfl (fun _ _=>.inl qe) d⟩
  | panic ch=>exact ⟨_,m,j,g,.pass (x:=.inLoop c) rfl (fun _ _=>.inl qe) d⟩
  | outgrown=>exact ⟨_,m,j,g,.pass (x:=.inLoop c) rfl (fun _ _=>.inl qe) d⟩
theorem q11l {F : Fence} {c : Code} {Q : Exit→Act→World→Prop} {a : Act} {w : World} (h : wpL F P c Q a w) : (Code.loop c).wpIn F 0 P Q a w:=by
  intro b k cs f hb g;obtain ⟨e,a',w',j,d⟩:=h b k cs f hb g;exact ⟨e,a',w',j,.of_steps (.one (fenced_calm hb g rfl) stepR_loop) d⟩
theorem qn2 {F : Fence} {c : Code} {Q d : Exit→Act→World→Prop} {a : Act} {w : World} (h : wpL F P c Q a w) (g : ∀ e a w,Q e a w→d e a w) : wpL F P c d a w:=
  fun b k cs f l j=>let ⟨e,a',w',q,r⟩:=h b k cs f l j;⟨e,a',w',g _ _ _ q,r⟩
def CP (base : Nat) (w : World) (Z : Nat→Prop) (inj : Inj) (st : AS) (a : Act) (Ds : List Nat) (ex : Ex) (st' : AS) (e : Exit) (a' : Act) (w' : World) : Prop:=e = toE ex∧Kw base w Z inj st a Ds st' a' w'
def Kt (P : Program) (base : Nat) (c : Code) (st : AS) (ex : Ex) (st' : AS) : Prop:=
  ∀ (ro : Option Nat) (w : World) (Z : Nat→Prop) (inj : Inj) (a : Act) (Ds : List Nat),RelS w Z inj st a Ds→codeOk a.tmps.size c = true→base≤st.nx→Yh ro w→
    c.wpIn (Fw ro) 0 P (CP base w Z inj st a Ds ex st') a w∧∀ d,c = .loop d→wpL (Fw ro) P d (CP base w Z inj st a Ds ex st') a w
section
variable {base : Nat} {st st1 st2 : AS} {ex : Ex}
theorem Jb {c : Code} (k : ∀ d,c≠.loop d) (h : ∀ (ro : Option Nat) (w : World) (Z : Nat→Prop) (inj : Inj) (a : Act) (Ds : List Nat),RelS w Z inj st a Ds→codeOk a.tmps.size c = true→base≤st.nx→Yh ro w→
    c.wpIn (Fw ro) 0 P (CP base w Z inj st a Ds ex st1) a w) : Kt P base c st ex st1:=
  fun ro w Z inj a Ds b g f j=>⟨h ro w Z inj a Ds b g f j,fun d hd=>absurd hd (k d)⟩
theorem Kw.round {w : World} {Z : Nat→Prop} {inj : Inj} {a : Act} {Ds : List Nat} {a' : Act} {w' : World} {ro : Option Nat} (h : Kw base w Z inj st a Ds st1 a' w') (b : Yh ro w) : Yh ro w':=by
  obtain ⟨_,_,_,_,e,_⟩:=h;exact b.ext e
theorem qop : Kt P base .skip st .nor st:=
  Jb qe fun ro w Z inj a Ds h _ hb _=>wpIn_skip ⟨rfl,Kw.refl h hb⟩
theorem qoe {id : Nat} : Kt P base (.exit id) st (.exit id) st:=
  Jb qe fun ro w Z inj a Ds h _ hb _=>wpIn_exit ⟨rfl,Kw.refl h hb⟩
theorem qol : Kt P base .ret st .ret st:=
  Jb qe fun ro w Z inj a Ds h _ hb _=>wpIn_ret ⟨rfl,Kw.refl h hb⟩
theorem qon {a b : Code} (m : Kt P base a st .nor st1) (n : Kt P base b st1 ex st2) : Kt P base (.seq a b) st ex st2:=by
  refine Jb qe fun ro w Z inj act Ds h c hb k=>wpIn_seq (wpIn_mono (m ro w Z inj act Ds h ?_ hb k).1 ?_)
  · simp only [codeOk,Bool.and_eq_true] at c;exact c.1
  · rintro e a' w' ⟨rfl,hp⟩;refine hp.bind fun Z' inj' l j g d _ f=>?_;refine wpIn_mono (n ro w' Z' inj' a' l j ?_ d (hp.round k)).1 ?_
    · simp only [codeOk,Bool.and_eq_true] at c;rw [g];exact c.2
    · rintro e p o ⟨rfl,hp2⟩;exact ⟨rfl,f _ _ _ hp2⟩
theorem qoo {a b : Code} (g : Kt P base a st ex st1) (f : ex≠.nor) : Kt P base (.seq a b) st ex st1:=by
  refine Jb qe fun ro w Z inj act Ds h c hb d=>wpIn_seq (wpIn_mono (g ro w Z inj act Ds h ?_ hb d).1 ?_)
  · simp only [codeOk,Bool.and_eq_true] at c;exact c.1
  · rintro e a' w' ⟨rfl,hp⟩
    cases ex with
    | nor=>exact absurd rfl f
    | exit id=>exact ⟨rfl,hp⟩
    | ret=>exact ⟨rfl,hp⟩
theorem qod {c : Operand} {a b : Code} (k : st.ev c = some (.d (.bool true))) (j : Kt P base a st ex st1) : Kt P base (.cond c a b) st ex st1:=by
  refine Jb qe fun ro w Z inj act Ds h f hb g=>wpIn_cond_true ?_ (j ro w Z inj act Ds h ?_ hb g).1
  · have:=Kd h k;generalize act.eval c = x at this
    cases this with | d this=>cases this;rfl
  · simp only [codeOk,Bool.and_eq_true] at f;exact f.1
theorem qoc {c : Operand} {a b : Code} (k : st.ev c = some (.d (.bool false))) (j : Kt P base b st ex st1) : Kt P base (.cond c a b) st ex st1:=by
  refine Jb qe fun ro w Z inj act Ds h f hb g=>wpIn_cond_false ?_ (j ro w Z inj act Ds h ?_ hb g).1
  · have:=Kd h k;generalize act.eval c = x at this
    cases this with | d this=>cases this;rfl
  · simp only [codeOk,Bool.and_eq_true] at f;exact f.2
theorem qob {id : Nat} {a : Code} (d : Kt P base a st ex st1) : Kt P base (.block id a) st (ex.block id) st1:=by
  refine Jb qe fun ro w Z inj act Ds h b hb c=>wpIn_block (wpIn_mono (d ro w Z inj act Ds h b hb c).1 ?_);rintro e a' w' ⟨rfl,hp⟩
  cases ex with
  | nor=>exact ⟨rfl,hp⟩
  | ret=>exact ⟨rfl,hp⟩
  | exit i=>
    by_cases hi : i = id
    · simp only [toE,Exit.inBlock,hi,if_true,Ex.block];exact ⟨rfl,hp⟩
    · simp only [toE,Exit.inBlock,hi,if_false,Ex.block];exact ⟨rfl,hp⟩
theorem qof {l : Nat} : Kt P base (.label l) st .nor st:=
  Jb qe fun ro w Z inj a Ds h _ hb _=>wpIn_label ⟨rfl,Kw.refl h hb⟩
theorem qom {a : Code} (m : Kt P base a st ex st1) : Kt P base (.scope a) st ex st1:=by
  refine Jb qe fun ro w Z inj act Ds h o hb r=>?_;intro b k cs f d n;have l : ∀ {g : Act} {w0 : World},step P (lone (b.atR g (.code (.scope a)::k)) cs w0) = .next (lone (b.atR g (.code a::.inScope a::k)) cs w0):=step_lone_go (by simp [stepG,stepG.exec,Frame.atR]);have u : ∀ {g : Act} {w0 : World},step P (lone (b.atR g (.inScope a::k)) cs w0) = .next (lone (b.atR g k) cs w0):=step_lone_go (by simp [stepG,stepG.exec,Frame.atR]);have j : (lone (b.atR act (.code (.scope a)::k)) cs w).fenced P (Fw ro):=fenced_calm d n rfl;obtain ⟨e,x,t,s,c⟩:=(m ro w Z inj act Ds h o hb r).1 b (.inScope a::k) cs f d n;refine ⟨e,x,t,s,?_⟩;obtain ⟨rfl,_⟩:=s
  cases ex with
  | nor=>exact .head j l (StepsIn.trans c (.one (fenced_calm d n rfl) u))
  | exit id=>exact ⟨fun v q=>.head j l (c.1 v (by simp [exitTo,q])),fun p q=>let ⟨k₁,m,h2⟩:=c.2 p (by simp [exitTo,q]);⟨k₁,m,.head j l h2⟩⟩
  | ret=>exact .of_steps (.one j l) c
theorem qgy {a : Code} (h : ∀ (ro : Option Nat) (w : World) (Z : Nat→Prop) (inj : Inj) (act : Act) (Ds : List Nat),RelS w Z inj st act Ds→codeOk act.tmps.size (.loop a) = true→base≤st.nx→Yh ro w→
    wpL (Fw ro) P a (CP base w Z inj st act Ds ex st1) act w) : Kt P base (.loop a) st ex st1:=
  fun ro w Z inj act Ds b f c g=>⟨q11l (h ro w Z inj act Ds b f c g),fun d hd=>by cases hd;exact h ro w Z inj act Ds b f c g⟩
theorem qog {a : Code} (l : Kt P base a st .nor st1) (m : Kt P base (.loop a) st1 ex st2) : Kt P base (.loop a) st ex st2:=by
  refine qgy fun ro w Z inj act Ds h g hb j=>qn3 (wpIn_mono (l ro w Z inj act Ds h g hb j).1 ?_);rintro e a' w' ⟨rfl,hp⟩;refine hp.bind fun Z' inj' k f d b _ c=>?_;refine qn2 ((m ro w' Z' inj' a' k f (by rw [d];exact g) b (hp.round j)).2 a rfl) ?_;rintro e o n ⟨rfl,hp2⟩;exact ⟨rfl,c _ _ _ hp2⟩
theorem qoh {a : Code} (f : Kt P base a st ex st1) (d : ex≠.nor) : Kt P base (.loop a) st ex st1:=by
  refine qgy fun ro w Z inj act Ds h c hb b=>qn3 (wpIn_mono (f ro w Z inj act Ds h c hb b).1 ?_);rintro e a' w' ⟨rfl,hp⟩
  cases ex with
  | nor=>exact absurd rfl d
  | exit id=>exact ⟨rfl,hp⟩
  | ret=>exact ⟨rfl,hp⟩
theorem qoq {ρ : Nat→Nat} {fz ph : List Nat} {c : Code} (k : Wk base ρ fz ph st st1) (q : Kt P base c st1 ex st2) : Kt P base c st ex st2:=by
  intro ro w Z inj a Ds h j hb g;obtain ⟨f,x⟩:=q1w h k
  have b : ∀ e a' w',CP base w (wkZ Z inj st fz) (wkI inj ρ ph) st1 a Ds ex st2 e a' w'→CP base w Z inj st a Ds ex st2 e a' w':=by
    rintro e a' w' ⟨rfl,s,n,o,t,r,p,l,m⟩;exact ⟨rfl,s,n,o,t,x.trans r (Nat.le_refl _),p,l,m⟩
  obtain ⟨v,u⟩:=q ro w _ _ a Ds f j k.bs g;exact ⟨wpIn_mono v b,fun d hd=>qn2 (u d hd) b⟩
theorem qot {ops : Array Oper} {ro : Option Nat} {w0 : World} {Z0 : Nat→Prop} {inj0 : Inj} {c : AS} {k : Act} {Ds0 : List Nat} {Q : Exit→Act→World→Prop} {l : List Oper} {st st' : AS} (v : Zm P base ops l st st')
    (hd : ∀ o∈ops,Jc k.tmps.size o.dst = true) (q : ∀ a' w',Kw base w0 Z0 inj0 c k Ds0 st' a' w'→Q .normal a' w') : ∀ (pre : List Oper) (a : Act) (w : World),ops.toList = pre ++ l→Kw base w0 Z0 inj0 c k Ds0 st a w→Yh ro w→
    wpOpsIn (Fw ro) 0 P ops Q (List.range' pre.length l.length) a w:=by
  have one : ∀ {o : Oper} {l : List Oper} {st st1 st2 : AS},Js P base ops o st st1→(∀ (pre : List Oper) (a : Act) (w : World),ops.toList = pre ++ l→Kw base w0 Z0 inj0 c k Ds0 st1 a w→Yh ro w→wpOpsIn (Fw ro) 0 P ops Q (List.range' pre.length l.length) a w)→
      ∀ (pre : List Oper) (a : Act) (w : World),ops.toList = pre ++ o::l→Kw base w0 Z0 inj0 c k Ds0 st a w→Yh ro w→wpOpsIn (Fw ro) 0 P ops Q (List.range' pre.length (o::l).length) a w:=by
    intro o l st st1 st2 hs n pre a w p hp d
    have r : ops[pre.length]? = some o:=by rw [← Array.getElem?_toList,p];simp
    rw [List.length_cons,List.range'_succ,wpOpsIn_cons]
    refine qfz r ?_
    refine hp.bind fun Z' inj' j b h f _ g=>?_
    refine hs ro Q w Z' inj' a j _ b (by rw [h];exact hd o (Array.mem_of_getElem? r)) f d fun a' w' hp'=>?_
    have:=n (pre ++ [o]) a' w' (by rw [p];simp) (g _ _ _ hp') (hp'.round d)
    simpa using this
  induction v with
  | nil=>intro pre a w _ hp _;simpa [wpOpsIn] using q _ _ hp
  | cons hs _ n=>exact one (st2:=st) hs (n q)
  | wk hw _ n=>
    intro pre a w p hp d;refine n q pre a w p ?_ d;obtain ⟨Z',inj',j,x,u,s,y,t⟩:=hp;obtain ⟨b,m⟩:=q1w x hw;exact ⟨_,_,j,b,u.trans m (Nat.le_refl _),s,hw.bs,t⟩
theorem qoj {id : Nat} {ops : Array Oper} (f : Zm P base ops ops.toList st st1) : Kt P base (.region id ops false) st .nor st1:=by
  refine Jb qe fun ro w Z inj a Ds h b hb c=>wpIn_region ?_
  have hd : ∀ o∈ops,Jc a.tmps.size o.dst = true:=by
    intro o d;simp only [codeOk,List.all_eq_true] at b;exact b o (by simpa using d)
  have:=qot (Q:=CP base w Z inj st a Ds .nor st1) f hd (fun a' w' hp=>⟨rfl,hp⟩) [] a w rfl (Kw.refl h hb) c;rw [List.range_eq_range'];simpa using this
theorem qok {id : Nat} {ops : Array Oper} {F : List Fp} (d : P.follows .mixedOrders = true) (f : Jr P base ops F ops.toList st st1) (hd : q7n F ops = true) : Kt P base (.region id ops true) st .nor st1:=
  Jb qe fun ro w Z inj a Ds h c hb b=>qug d (qpk hd) f h c hb b fun a' w' hp=>⟨rfl,hp⟩
theorem qqn {ops : Array Oper} {o : Oper} {c : Call} {g : Operand} {n : Nat} {vs : List V} {s s1 s2 : List (Nat × V)} {k : List Tmp} {assign body : Code}
    (hg : Qr ops st o = some true) (ho : o.op = .call c) (y : c.callee = .value g) (bh : st.ev g = some (.yld n)) (be : evL st.ev c.args.toList = some vs)
    (u : st.blk n = some (.loop s k assign body .ready none)) (ai : k.length = vs.length)
    (h1 : Kt P st.nx assign {sl:=q1m s k vs,hp:=st.hp,nx:=st.nx} .nor st1) (bg : st1.blk n = some (.loop s1 k assign body .ready none))
    (h2 : Kt P st.nx body (st1.setBlk n (.loop s1 k assign body .busy none)) ex st2) (bl : st2.blk n = some (.loop s2 k assign body .busy none)) :
    Js P base ops o st ({sl:=st.sl,hp:=repl st2.hp n (.loop s2 k assign body (if ex = .nor then .ready else .done) ex.code),nx:=st2.nx : AS}.putD o.dst (.d (.bool (decide (ex = .nor))))):=by
  intro ro Q w Z inj a Ds K h hd hb ct hK;unfold Ue;rw [q3k h hg];simp only [if_true];refine ⟨fun _ _=>trivial,?_⟩;have hr:=Kd h bh;obtain ⟨b,r,hi,hw,es,ep,ao,au,bn,ac,bc,_⟩:=qfi (ls':=.ready) (pe':=none) (pin:=0) h.heap u;generalize ba : a.eval g = gv at hr
  cases hr with | @yld _ b' o' hlt hi'=>
  rw [hi] at hi';cases hi';have hl:=q3e h be;have e2 : (c.args.toList.map a.eval).toArray = c.args.map a.eval:=by apply Array.ext';simp
  rw [e2] at hl;have az : (c.args.map a.eval).size = r.params.size:=by rw [← hl.1,ao];simp [ai]
  have aj : (execOp a.eval o).run P w = .ok (.round b r.fn ((r.params.zip (c.args.map a.eval)).foldl (fun tmps (t,a)=>tmps.setIfInBounds t a) r.tmps) r.assign r.body) w:=by
    have:=run_yield (P:=P) hw az;obtain ⟨dst,op,type,pos,after,guard⟩:=o;simp only at ho;subst ho;obtain ⟨cn,args,argTypes⟩:=c;simp only at y;subst y;simp only [execOp,resolve,Sem.run_bind,ba,Deferred.ofValue,Sem.run_pure,Result.andThen_ok,invoke];simpa using this
  rw [show (Fw ro).round = ro from rfl,Oper.semAt_eq ro _ o (by rintro c' h';rw [ho] at h';cases h'),aj,Oper.uponIn_round];refine ⟨fun h=>by simp [Fw] at h,?_⟩;refine roundIn_of_wpIn trivial ?_
  have ae : (r.params.zip (c.args.map a.eval)).foldl (fun tmps (t,a)=>tmps.setIfInBounds t a) r.tmps = (k.zip (c.args.map a.eval).toList).foldl (fun tmps (x : Tmp × Value)=>tmps.setIfInBounds x.1 x.2) r.tmps:=by
    rw [ao,← Array.foldl_toList,Array.toList_zip]
  obtain ⟨z,f⟩:=qla k vs (c.args.map a.eval).toList s r.tmps (by rw [Array.length_toList];exact hl.1) (fun i d c h1 h2=>hl.2 i d c h1 (by rw [← Array.getElem?_toList];exact h2)) ac.2.2 bc;rw [ae,au,bn];generalize (k.zip (c.args.map a.eval).toList).foldl (fun tmps (x : Tmp × Value)=>tmps.setIfInBounds x.1 x.2) r.tmps = tm at z f;have ad : RelS w Z inj {sl:=q1m s k vs,hp:=st.hp,nx:=st.nx} {tmps:=tm,defers:=[]} []:=⟨z,h.heap,rfl,qe,qe⟩
  have v : Yh (some b) w:=fun l hl=>by cases hl;exact ⟨r,hw⟩
  refine wpIn_mono (h1 (some b) w Z inj _ [] ad (by show codeOk tm.size assign = true;rw [f];exact ac.1) (Nat.le_refl _) v).1 ?_;rintro e a1 w1 ⟨rfl,Z1,m,aq,g1,g2,g3,g4,g5⟩;have aa : n < st.nx:=(h.heap.blk n _ u).1;obtain ⟨b1,r1,i1,aw,ax,ak,cb,bs,bu,bv,cj,bo,j⟩:=qfi (ls':=.busy) (pe':=none) (pin:=st.nx) g1.heap bg;rw [g2.pinj n aa,hi] at i1;cases i1;refine ⟨_,run_beginRound aw ax,?_⟩;have e5 : ({r1 with state:=.busy} : Loop) = {r1 with state:=.busy,pending:=none}:=by cases r1;simp only at ak;subst ak;rfl
  rw [e5]
  have af : RelS (w1.putObj b (.loop {r1 with state:=.busy,pending:=none})) Z1 m (st1.setBlk n (.loop s1 k assign body .busy none)) a1 aq:=
    ⟨g1.slots.mono (j.zkeep g1.heap) j.zin j.big (fun _ _=>rfl) (Nat.le_refl _),bo,g1.defs,g1.nodup,fun D hD=>j.marks g1.heap (g1.marks D hD)⟩
  have al : Yh (some b) (w1.putObj b (.loop {r1 with state:=.busy,pending:=none})):=(v.ext g2).ext j;refine wpIn_mono (h2 (some b) _ Z1 m a1 aq af (by rw [g3];show codeOk tm.size body = true;rw [f];exact ac.2.1) g4 al).1 ?_;rintro e a3 w3 ⟨rfl,Z3,an,cp,k1,k2,k3,k4,k5⟩;obtain ⟨b3,r3,i3,bj,cx,cq,ck,cc,ch,ca,cf,bd,bf⟩:=qfi (ls':=if ex = .nor then .ready else .done) (pe':=ex.code) (pin:=st.nx) k1.heap bl;have bi : m n = some (b,0):=(g2.pinj n aa).trans hi;rw [k2.pinj n aa,bi] at i3;cases i3
  have p : K (a.put o.dst (.bool (decide (ex = .nor)))) (w3.putObj b (.loop {r3 with state:=if ex = .nor then .ready else .done,pending:=ex.code})):=by
    have ap : Ext w Z inj st.hp (w3.putObj b (.loop {r3 with state:=if ex = .nor then .ready else .done,pending:=ex.code})) Z3 an (repl st2.hp n (.loop s2 k assign body (if ex = .nor then .ready else .done) ex.code)) st.nx:=
      ((g2.trans j (Nat.le_refl _)).trans k2 (Nat.le_refl _)).trans bf (Nat.le_refl _)
    exact hK _ _ (q3t h hb ap bd k4 (.d (.bool _)) hd)
  have q:=run_endRound (P:=P) ex.code bj
  cases ex with
  | nor=>exact ⟨_,_,q,p⟩
  | ret=>exact ⟨_,_,q,p⟩
  | exit id=>exact ⟨_,_,q,p⟩
end
end Go.Am
namespace Go.Am
open Go
variable {P : Program} {T : Tab}
section
variable {base : Nat} {st st1 st2 : AS} {ex : Ex}
theorem qo0 {ro : Option Nat} {f : FuncId} {xs : Array Value} {w : World} {R : Ending→World→Prop} (h : CallsIn (Fw none) 0 P f xs w R) : CallsIn (Fw ro) 0 P f xs w R:=by
  cases ro <;> exact h
theorem qs2 {w : World} {Ds : List Nat} (h : Ds.Nodup) (a : ∀ D∈Ds,w.heap[D]? = some (.deferred (some []))) : (w.heap.size::Ds).Nodup:=
  List.nodup_cons.2 ⟨fun b=>by have:=Ja (a _ b);omega,h⟩
theorem qoi {g : Operand} {k : Array Tmp} {assign body : Code} {f : FuncId} {t : List V} {v : V} {hp : List (Nat × Blk)} {nx : Nat} {pe : Option Code} {s : List (Nat × V)} {ls : LoopState}
    (hg : st.ev g = some (.fn f t)∨∃ ds,st.ev g = some (.d (.fn f ds))∧t = ds.map .d)
    (y : Jq P f (.yld st.nx::t) ((st.nx,.loop st.sl k.toList assign body .ready none)::st.hp) (st.nx + 1) v hp nx)
    (ai : find hp st.nx = some (.loop s k.toList assign body ls pe)) (bp : ls≠.busy) (ba : pe = ex.code) : Kt P base (.rangeFunc g k assign body) st ex {sl:=st.sl,hp:=repl hp st.nx .dead,nx:=nx}:=by
  refine Jb qe fun ro w Z inj a Ds h aa hb bn=>wpIn_rangeFunc fun fn _=>?_;simp only [codeOk,Bool.and_eq_true,List.all_eq_true,Nat.blt_eq] at aa
  have ar : ∃ cs : Array Value,a.eval g = .func (.func f) #[] cs∧LRel w Z inj st.nx t cs:=by
    rcases hg with hg | ⟨ds,hg,rfl⟩
    · have hr:=Kd h hg;generalize a.eval g = gv at hr ⊢
      cases hr with | @fn _ _ cs h1 h2=>
      exact ⟨cs,rfl,h1,h2⟩
    · have hr:=Kd h hg;generalize a.eval g = gv at hr ⊢
      cases hr with | d hr=>
      cases hr with | @fn _ _ cs h1 h2=>
      refine ⟨cs,rfl,by simpa using h1,fun i d c hd hc=>?_⟩;simp only [List.getElem?_map,Y3] at hd;obtain ⟨d',hd,rfl⟩:=hd;exact .d (h2 i d' c hd hc)
  obtain ⟨cs,bi,ay⟩:=ar
  have rest : ∀ (n : World) (l : Nat) (mark : List Deferred) (r : Loop) (Dn : List Nat),(Instr.enterLoop fn a.tmps k assign body (Fw ro).round).run P w = .ok (l,mark) n→
      n.heap[l]? = some (.loop r)→r.state = .ready→r.pending = none→
      RelH n Z (upd inj st.nx (some (l,0))) ((st.nx,.loop st.sl k.toList assign body .ready none)::st.hp) (st.nx + 1)→
      Ext w Z inj st.hp n Z (upd inj st.nx (some (l,0))) ((st.nx,.loop st.sl k.toList assign body .ready none)::st.hp) st.nx→
      mark = Dn.map (fun D=>{target:=.collected D,args:=#[]})→(Dn ++ Ds).Nodup→(∀ D∈Dn,n.heap[D]? = some (.deferred (some []))∧w.heap.size≤D)→
      ∃ (l : Nat) (mark : List Deferred) (w₁ : World) (d : Deferred) (ag : World) (f : FuncId) (args : Array Value) (w₂ : World),
      (Instr.enterLoop fn a.tmps k assign body (Fw ro).round).run P w = .ok (l,mark) w₁∧
      (resolve a.eval (rangeCall g l) 0).run P w₁ = .ok d ag∧
      (∀ f',Target.leads P ag d.target d.args = some f'→(Fw ro).fn f')∧
      (invoke d.target d.args).run P ag = .ok (.enter f args) w₂∧
      ((Fw ro).depth.isSome = true→1≤0)∧
      CallsIn (Fw ro) (0 - 1) P f args w₂ (rangePost (Fw ro) 0 P l (CP base w Z inj st a Ds ex {sl:=st.sl,hp:=repl hp st.nx .dead,nx:=nx}) {a with defers:=mark ++ a.defers}):=by
    intro n l mark r Dn z cl ci ce az ab af bk aq
    refine ⟨l,mark,n,{target:=.fn (.func f) cs,args:=#[.func (.yield l) #[] #[]]},n,f,#[.func (.yield l) #[] #[]] ++ cs,n,z,?_,fun _ _=>trivial,?_,fun h=>by simp [Fw] at h,?_⟩
    · simp only [resolve,bi];simp [Deferred.ofValue,Act.eval]
    · simp [invoke,y.1]
    · refine qo0 (CallsIn.mono (y.2 n Z _ _ az ?_) ?_)
      · refine ⟨by simp [ay.1];omega,fun i d c hd hc=>?_⟩
        cases i with
        | zero=>
          rw [Array.getElem?_append_left qe] at hc;simp at hd hc;subst hd hc;exact .yld q0 (Y2 _ _ _)
        | succ i=>
          rw [Array.getElem?_append_right qe] at hc;simp at hd hc;exact (ay.2 i d c hd hc).mono (fun b hz=>ab.keep b (h.heap.zs b hz) (h.heap.z_im hz)) (fun _ h=>h) ab.big (fun m hm=>ab.pinj m hm) q0
      · rintro e w3 ⟨x,Z',inj',rfl,bl,ak,cq,ck⟩
        obtain ⟨b3,r3,i3,bb,bq,aw,aj⟩:=quk (pin:=st.nx) bl ai
        obtain ⟨bm,bo⟩:=aj {r3 with state:=.exhausted} rfl
        have bh : b3 = l:=by
          have:=ak.pinj st.nx q0;rw [Y2,i3] at this;cases this;rfl
        subst bh
        refine ⟨r3.pending,_,run_endLoop bb (by rw [bq];exact bp),?_⟩
        have hE : Ext w Z inj st.hp (w3.putObj b3 (.loop {r3 with state:=.exhausted})) Z' inj' (repl hp st.nx .dead) st.nx:=(ab.trans ak q0).trans bo (Nat.le_refl _)
        have u : Kw base w Z inj st a Ds {sl:=st.sl,hp:=repl hp st.nx .dead,nx:=nx} {a with defers:=mark ++ a.defers} (w3.putObj b3 (.loop {r3 with state:=.exhausted})):=by
          refine ⟨Z',inj',Dn ++ Ds,⟨?_,bm,?_,bk,?_⟩,hE.pin_le hb,rfl,by show base≤nx;omega,?_⟩
          · exact h.slots.mono (hE.zkeep h.heap) hE.zin hE.big hE.pinj (by show st.nx≤nx;omega)
          · simp [af,h.defs]
          · intro D q;rcases List.mem_append.1 q with q | q
            · obtain ⟨h5,h6⟩:=aq D q;have h7:=ak.marks az h5;rw [World.putObj_heap_other (fun e=>by rw [e] at h7;rw [bb] at h7;cases h7)];exact h7
            · exact hE.marks h.heap (h.marks D q)
          · intro D q;rcases List.mem_append.1 q with q | q
            · exact .inr (aq D q).2
            · exact .inl q
        rw [aw,ba] at u
        rw [aw,ba]
        cases ex with
        | nor=>exact ⟨rfl,u⟩
        | exit id=>exact wpIn_exit ⟨rfl,u⟩
        | ret=>exact wpIn_ret ⟨rfl,u⟩
  have ad : ∀ (n : World) (l : Nat) (r : Loop),r.state = .ready→r.pending = none→r.tmps = a.tmps→r.params = k→r.assign = assign→r.body = body→Yv n Z (upd inj st.nx (some (l,0))) (st.nx + 1) st.sl a.tmps→
      n.heap[l]? = some (.loop r)→RelB n Z (upd inj st.nx (some (l,0))) (st.nx + 1) st.nx (.loop st.sl k.toList assign body .ready none):=by
    rintro n l r e1 e2 e3 e4 e5 e6 hs hl
    obtain ⟨f1,f2,f3,f4,f5,f6,f7,f8⟩:=r
    simp only at e1 e2 e3 e4 e5 e6
    subst e1 e2 e3 e4 e5 e6
    exact ⟨l,_,_,_,Y2 _ _ _,hl,⟨aa.1.2,aa.2,fun p hp=>aa.1.1 p hp⟩,hs⟩
  cases ro with
  | none=>
    have av : RelH (w.alloc (.deferred (some []))) Z inj st.hp st.nx:=h.heap.grow fun b hb=>J1 w _ hb
    have ah : ∀ o,Yv ((w.alloc (.deferred (some []))).alloc o) Z (upd inj st.nx (some (w.heap.size + 1,0))) (st.nx + 1) st.sl a.tmps:=fun o=>
      h.slots.mono (fun b hz=>by have:=h.heap.zs b hz;rw [J1 _ _ (by simp;omega),J1 _ _ this]) (fun _ h=>h)
        (fun b c e f hb=>by obtain ⟨c1,e1,f1,h1,s1⟩:=q2h w (.deferred (some [])) b c e f hb;obtain ⟨c2,e2,f2,h2,s2⟩:=q2h _ o b c1 e1 f1 h1;exact ⟨c2,e2,f2,h2,s2.trans s1⟩) (fun _ hm=>Ye _ _ hm) q0
    have j:=Jw (w.alloc (.deferred (some []))) (.loop {state:=.ready,pending:=none,fn,tmps:=a.tmps,params:=k,assign,body,defers:=w.heap.size});rw [World.size_alloc] at j;have hB:=ad _ (w.heap.size + 1) {state:=.ready,pending:=none,fn,tmps:=a.tmps,params:=k,assign,body,defers:=w.heap.size} rfl rfl rfl rfl rfl rfl (ah _) j;have hn:=av.new (.loop {state:=.ready,pending:=none,fn,tmps:=a.tmps,params:=k,assign,body,defers:=w.heap.size}) (.loop st.sl k.toList assign body .ready none) 0 (by rw [World.size_alloc];exact hB);have he:=Ext.new av (.loop {state:=.ready,pending:=none,fn,tmps:=a.tmps,params:=k,assign,body,defers:=w.heap.size}) (.loop st.sl k.toList assign body .ready none) 0;rw [World.size_alloc] at hn he;refine rest _ (w.heap.size + 1) _ _ [w.heap.size] (run_enterLoop_outer fn a.tmps k assign body) j rfl rfl hn ((Ext.alloc _).trans he (Nat.le_refl _)) rfl (qs2 h.nodup h.marks) ?_;intro D q;simp at q;subst q;exact ⟨by rw [J1 _ _ qe];exact Jw _ _,Nat.le_refl _⟩
  | some l0=>
    obtain ⟨r0,bj⟩:=bn l0 rfl
    have ah : ∀ o,Yv (w.alloc o) Z (upd inj st.nx (some (w.heap.size,0))) (st.nx + 1) st.sl a.tmps:=fun o=>
      h.slots.mono (fun b hz=>J1 _ _ (h.heap.zs b hz)) (fun _ h=>h) (q2h w o) (fun _ hm=>Ye _ _ hm) q0
    have j:=Jw w (.loop {state:=.ready,pending:=none,fn,tmps:=a.tmps,params:=k,assign,body,defers:=r0.defers});have hB:=ad _ w.heap.size {state:=.ready,pending:=none,fn,tmps:=a.tmps,params:=k,assign,body,defers:=r0.defers} rfl rfl rfl rfl rfl rfl (ah _) j;exact rest _ w.heap.size _ _ [] (run_enterLoop_inner bj fn a.tmps k assign body) j rfl rfl (h.heap.new _ _ 0 hB) (Ext.new h.heap _ _ 0) rfl (by simpa using h.nodup) qe
theorem qo2 {f : FuncId} {fn : Func} {c : Code} {g : List V} {hp : List (Nat × Blk)} {nx : Nat} {v : V} (z : Z6 P T) (r : P.funcs[f]? = some fn) (hb : fn.body = some c) (a : (fn.name == "runtime.NumGoroutine") = false) (k : codeOk fn.ntmps c = true) (s : g.length ≤ fn.ntmps)
    (hc : Kt P nx c {sl:=Y8 0 g,hp:=hp,nx:=nx} ex st) (t : ex = .nor∨ex = .ret) (d : resV T st fn.results.toList = some v) : Jq P f g hp nx v st.hp st.nx:=by
  refine ⟨fun args w=>?_,fun w Z inj xs h j=>?_⟩
  · unfold callFunc
    have n : ¬ fn.name = "runtime.NumGoroutine" := by simpa using a
    simp [r,n,hb]
  · refine callsIn_of_wp_marks r hb trivial ?_
    have m : (xs ++ Array.replicate (fn.ntmps - xs.size) undef).size = fn.ntmps:=by
      have:=j.1;simp;omega
    have h0 : RelS w Z inj {sl:=Y8 0 g,hp:=hp,nx:=nx} {tmps:=xs ++ Array.replicate (fn.ntmps - xs.size) undef,defers:=[]} []:=⟨qun _ j,h,rfl,qe,qe⟩
    refine wpIn_mono (hc none w Z inj _ [] h0 (by show codeOk (xs ++ Array.replicate (fn.ntmps - xs.size) undef).size c = true;rw [m];exact k) (Nat.le_refl _) (fun l j=>by cases j)).1 ?_;rintro e a' w' ⟨rfl,Z',inj',o,b,g2,g3,u,g5⟩
    have q:=qji (P:=P) (fn:=fn) (pin:=nx) (w0:=w) (Z0:=Z) (inj0:=inj) (hp0:=hp) z d
      (R:=fun e w'=>∃ x Z' inj',e = .returned x∧RelH w' Z' inj' st.hp st.nx∧Ext w Z inj hp w' Z' inj' st.hp nx∧RelV w' Z' inj' st.nx v x∧nx≤st.nx)
      (fun x w' Z' inj' k1 y k3=>⟨x,Z',inj',rfl,k1,y,k3,u⟩) o w' Z' inj' a' b.slots b.heap g2 b.nodup (fun D p=>⟨b.marks D p,(g5 D p).resolve_left qe⟩)
    rcases t with rfl | rfl
    · show LeavesInM (Fw none) 0 P fn a'.tmps _ a'.defers .returning w';rw [b.defs];exact q
    · show LeavesInM (Fw none) 0 P fn a'.tmps _ a'.defers .returning w';rw [b.defs];exact q
end
theorem qo1 {f : FuncId} {k : List V} {hp hp' hp1 : List (Nat × Blk)} {nx nx' nx1 : Nat} {v d : V} {ρ : Nat→Nat} {fz ph : List Nat} (h : Jq P f k hp nx v hp' nx') (m : Wk nx ρ fz ph {sl:=[(0,v)],hp:=hp',nx:=nx'} {sl:=[(0,d)],hp:=hp1,nx:=nx1}) : Jq P f k hp nx d hp1 nx1:=by
  refine ⟨h.1,fun w Z inj xs q r=>(h.2 w Z inj xs q r).mono ?_⟩;rintro e w' ⟨x,Z',inj',rfl,j,p,o,s⟩
  have b : RelS w' Z' inj' {sl:=[(0,v)],hp:=hp',nx:=nx'} {tmps:=#[x],defers:=[]} []:=by
    refine ⟨fun t u c=>?_,j,rfl,List.nodup_nil,qe⟩;rw [Kx] at c;split at c
    · rename_i e;subst e;cases c;exact ⟨x,rfl,o⟩
    · simp [find] at c
  obtain ⟨a,g⟩:=q1w b m;obtain ⟨y,l,n⟩:=a.slots 0 d (by simp [find]);simp at l;subst l;exact ⟨x,_,_,rfl,a.heap,p.trans g (Nat.le_refl _),n,m.bs⟩
theorem qo3 (hT : Z6 P T) (hm : P.follows .mixedOrders = true) {f : FuncId} {u : List V} {hp : List (Nat × Blk)} {nx : Nat} {v : V} {hp' : List (Nat × Blk)} {nx' : Nat} (h : K9 P T f u hp nx v hp' nx') : Jq P f u hp nx v hp' nx':=by
  refine K9.rec (motive_1:=fun base c st ex st' _=>Kt P base c st ex st') (motive_2:=fun base ops dr l st st' _=>Uz P base ops dr l st st') (motive_3:=fun f u hp nx v hp' nx' _=>Jq P f u hp nx v hp' nx')
    ?_ ?_ ?_ ?_ ?_ ?_ ?_ ?_ ?_ ?_ ?_ ?_ ?_ ?_ ?_ ?_ ?_ ?_ ?_ ?_ ?_ ?_ ?_ ?_ ?_ ?_ ?_ ?_ h
  · exact qop
  · exact fun _ _ a d=>qon a d
  · exact fun _ p a=>qoo a p
  · exact fun k _ a=>qod k a
  · exact fun k _ a=>qoc k a
  · exact fun _ a=>qob a
  · exact qoe
  · exact qol
  · exact fun _ _ a d=>qog a d
  · exact fun _ p a=>qoh a p
  · exact fun _ a=>qoj a
  · exact fun _ hd a=>qok hm a hd
  · exact fun t _ a=>qoq t a
  · exact fun b _ o y ac a=>qoi b a o y ac
  · exact qof
  · exact fun _ a=>qom a
  · exact fun {_ _ dr _}=>by cases dr <;> exact .nil
  · exact fun b _ a=>qo9 b a
  · exact fun b j o _ a=>qo7 hT b j o a
  · exact fun b j _ hn hh o x _ a=>qo8 hT b j hn hh o x a
  · exact fun b j k af _ ai ag hs x _ a d=>qo6 b j k af a ai ag hs x d
  · exact fun b j k _ _ a d=>Zm.cons (q10v b j k a) d
  · exact fun b j k g z _ w hb _ a d=>Zm.cons (qqk b j k g z a w hb) d
  · exact fun b j s ad m q g _ ab _ ae _ a d h3=>Zm.cons (qqn b j s ad m q g a ab d ae) h3
  · exact fun t _ a=>Zm.wk t a
  · exact fun hp _ _ a d=>Jr.piv hp a d
  · exact fun o hb n ah m _ p r a=>qo2 hT o hb n ah m a p r
  · exact fun _ t a=>qo1 a t
end Go.Am
namespace Go.Am
open Go
open Go.ChangeShapes Go.WideShapes Go.ChangeAt Go.RowKit Go.Deep
inductive CT where
  | int (k : IntKind)
  | bool
  | str
  | sl (l : List CT)
def qa7 (P : Program) (f : TypeId→Option (List CT)) : Nat→List Field→Option (List CT)
  | _,[]=>some []
  | o,x::r=>match f x.type with
    | some a=>if x.offset = o∧P.cellsOf x.type = a.length then
        match qa7 P f (o + a.length) r with
        | some b=>some (a ++ b)
        | none=>none
      else none
    | none=>none
def tyL (P : Program) : Nat→TypeId→Option (List CT)
  | 0,_=>none
  | f + 1,t=>match P.underlying t with
    | some .bool=>some [.bool]
    | some (.int k)=>some [.int k]
    | some .string=>some [.str]
    | some (.slice e)=>match tyL P f e with
      | some l=>if l.length = P.cellsOf e∧l.length≠0 then some [.sl l] else none
      | none=>none
    | some (.struct fs)=>match qa7 P (tyL P f) 0 fs.toList with
      | some l=>if l.length = P.cellsOf t then some l else none
      | none=>none
    | _=>none
inductive Ty : CT→DV→Prop
  | int {k : IntKind} {n : Int} : (Lit.int k n).wf = true→Ty (.int k) (.int k n)
  | bool (b : Bool) : Ty .bool (.bool b)
  | str {s : ByteArray} : s.size≤maxLen→Ty .str (.str s)
  | nil (l : List CT) : Ty (.sl l) .nilsl
  | sl {l : List CT} {xs : List (List DV)} : xs.length≤maxLen→(∀ (i : Nat) (x : List DV),xs[i]? = some x→x.length = l.length)→
      (∀ (i : Nat) (x : List DV) (j : Nat) (c : CT) (d : DV),xs[i]? = some x→l[j]? = some c→x[j]? = some d→Ty c d)→Ty (.sl l) (.sl l.length xs)
section
variable {H : Type} {enc : TypeId × Value→H} {P : Program} {w : World} {base : Nat} {held : Bool}
def ZC (w : World) (b : Nat) : Prop:=∃ c e f,w.heap[b]? = some (.cells c e f)
theorem Ty.cell {c : CT} {d : DV} (h : Ty c d) : Yl d = true:=by cases h <;> rfl
def Reads (w : World) (l : List CT) (cs : List Value) : Prop:=
  cs.length = l.length∧∃ ds : List DV,ds.length = l.length∧∀ (j : Nat) (c : CT) (v : Value),l[j]? = some c→cs[j]? = some v→∃ d,ds[j]? = some d∧Ty c d∧RelD w (ZC w) d v
theorem q5i {c : CT} {v : Value} {d : DV} (g : Ty c d) (f : RelD w (ZC w) d v) : Reads w [c] [v]:=by
  refine ⟨rfl,[d],rfl,fun j k h a b=>?_⟩
  cases j with
  | zero=>simp at a b;subst a b;exact ⟨d,rfl,g,f⟩
  | succ j=>simp at a
theorem qu4 {l l' : List CT} {cs a : List Value} (h : Reads w l cs) (r : Reads w l' a) : Reads w (l ++ l') (cs ++ a):=by
  obtain ⟨o,ds,n,s⟩:=h;obtain ⟨b1,m,q,p⟩:=r;refine ⟨by simp [o,b1],ds ++ m,by simp [n,q],fun j c v f b=>?_⟩;by_cases t : j < l.length
  · rw [List.getElem?_append_left t] at f;rw [List.getElem?_append_left q0] at b;obtain ⟨d,k,g⟩:=s j c v f b;exact ⟨d,by rw [List.getElem?_append_left q0];exact k,g⟩
  · rw [List.getElem?_append_right q0] at f;rw [List.getElem?_append_right q0,o] at b;obtain ⟨d,k,g⟩:=p _ c v f b;exact ⟨d,by rw [List.getElem?_append_right q0,n];exact k,g⟩
theorem qmu {f : TypeId→Option (List CT)} {g : Field→List Value→Prop} (c : ∀ (x : Field) (l : List CT) (cs : List Value),f x.type = some l→g x cs→Reads w l cs) :
    ∀ (j : List Field) (o : Nat) (l : List CT) (cs : List Value),qa7 P f o j = some l→o + l.length = cs.length→(∀ x∈j,g x ((cs.drop x.offset).take (P.cellsOf x.type)))→Reads w l (cs.drop o)
  | [],o,l,cs,h,hl,_=>by
    simp [qa7] at h;subst h
    simp at hl
    rw [hl]
    exact ⟨qe,[],rfl,qe⟩
  | x::r,o,l,cs,h,hl,hx=>by
    simp only [qa7] at h
    split at h <;> try simp at h
    rename_i a n
    obtain ⟨⟨m,p⟩,h⟩:=h
    split at h <;> simp at h
    rename_i b hb
    subst h
    have d:=c x a _ n (hx x qe)
    rw [m,p] at d
    have k:=qmu c r (o + a.length) b cs hb (by simp at hl;omega) (fun y q=>hx y (by simp [q]))
    have:=qu4 d k
    rw [← List.drop_drop] at this
    rwa [List.take_append_drop] at this
theorem qch : ∀ (f : Nat) (t : TypeId) (l : List CT) (fuel : Nat) (cs : List Value) (x : DataW H × List MemPlace),tyL P f t = some l→DataW.trod enc P w base (fun _=>true) held fuel t cs = some x→Reads w l cs
  | 0,t,l,fuel,cs,x,hl,h=>by simp [tyL] at hl
  | f + 1,t,l,fuel,cs,x,hl,h=>by
    simp only [tyL] at hl
    split at hl <;> try simp at hl
    · rename_i ht
      subst hl
      cases fuel with
      | zero=>simp [DataW.trod] at h
      | succ n=>
        unfold DataW.trod at h
        rw [ht] at h
        split at h <;> simp_all
        exact q5i (.bool _) (.bool _)
    · rename_i k ht
      subst hl
      obtain ⟨n,rfl,_,hw⟩:=DataW.trod_int ht h
      exact q5i (.int hw) (.int _ _)
    · rename_i ht
      subst hl
      cases fuel with
      | zero=>simp [DataW.trod] at h
      | succ n=>
        unfold DataW.trod at h
        rw [ht] at h
        split at h <;> simp_all
        exact q5i (.str q0) (.str _)
    · rename_i e ht
      split at hl <;> simp at hl
      rename_i le au
      obtain ⟨⟨u,aq⟩,rfl⟩:=hl
      rcases open_slice ht h with ⟨rfl,_⟩ | ⟨a,len,cap,m,n,D,Pl,rfl,_,ar,bd,hm,_,an⟩
      · exact q5i (.nil _) .nilsl
      · obtain rfl : cap = m:=by simpa using hm.symm
        have elem : ∀ i,i < cap→∃ p,w.cells? base (a.add (i * P.cellsOf e)) (P.cellsOf e) = some p∧Reads w le p:=by
          intro i hi;obtain ⟨p,h1,h2⟩:=an i hi;exact ⟨p,h1,qch f e le n p _ au h2⟩
        have az : 0 < P.cellsOf e:=by rw [← u];exact List.length_pos_iff.2 aq
        by_cases av : cap = 0
        · subst av
          have : len = 0:=by omega
          subst this
          exact q5i (.sl (xs:=[]) qe qe qe) (.slemp _ _)
        · have af : a.spot = none∧ZC w a.block:=by
            obtain ⟨p,h1,_⟩:=elem 0 q0;obtain ⟨_,h2,h3⟩:=World.cells?_some h1;have:=h3 0 q0;obtain ⟨v,hv⟩:=Zp (xs:=p) (i:=0) q0;rw [hv] at this;simp [World.cell?,Addr.add] at this;split at this <;> try simp at this
            rename_i c e' f' hc;exact ⟨this.1,c,e',f',hc⟩
          obtain ⟨b,o,sp⟩:=a
          obtain ⟨al,hz⟩:=af
          simp only at al hz;subst al
          have ag : ∀ i,i < len→∃ ds : List DV,ds.length = le.length∧∀ (j : Nat) (c : CT),le[j]? = some c→∃ d v,ds[j]? = some d∧Ty c d∧w.cell? ⟨b,o + (i * le.length + j),none⟩ = some v∧RelD w (ZC w) d v:=by
            intro i hi;obtain ⟨p,h1,h4,ds,h5,h6⟩:=elem i q0;obtain ⟨_,h2,h3⟩:=World.cells?_some h1;refine ⟨ds,h5,fun j c hj=>?_⟩;have bi:=Kh hj;obtain ⟨v,hv⟩:=Zp (xs:=p) (i:=j) q0;obtain ⟨d,z,g2,g3⟩:=h6 j c v hj hv;have:=h3 j q0;rw [hv,Jv,Jv,← u,Nat.add_assoc] at this;exact ⟨d,v,z,g2,this,g3⟩
          obtain ⟨F,hF⟩:=choose_lt ag
          have q : ∀ (i : Nat) (x : List DV),((List.range len).map F)[i]? = some x→i < len∧x = F i:=by
            intro i x s;simp only [List.getElem?_map,Y3] at s;obtain ⟨k,hk,rfl⟩:=s;have hi : i < len:=by simpa using Kh hk
            rw [List.getElem?_range hi] at hk;cases hk;exact ⟨hi,rfl⟩
          have r : ((List.range len).map F).length = len:=by simp
          have ab : RelD w (ZC w) (.sl le.length ((List.range len).map F)) (.slice (some ⟨b,o,none⟩) ((List.range len).map F).length cap):=by
            refine .sl (by rw [r];exact ar) (fun _=>hz) ?_ ?_ ?_
            · intro i x s;obtain ⟨hi,rfl⟩:=q i x s;exact (hF i hi).1
            · intro i x j d s hd;obtain ⟨hi,rfl⟩:=q i x s;obtain ⟨c,hc⟩:=Zp (xs:=le) (i:=j) (by rw [← (hF i hi).1];exact Kh hd);obtain ⟨d',v,z,g2,g3,g4⟩:=(hF i hi).2 j c hc;rw [hd] at z;cases z;exact ⟨g2.cell,v,g3⟩
            · intro i x j d v s hd hv;obtain ⟨hi,rfl⟩:=q i x s;obtain ⟨c,hc⟩:=Zp (xs:=le) (i:=j) (by rw [← (hF i hi).1];exact Kh hd);obtain ⟨d',v',z,g2,g3,g4⟩:=(hF i hi).2 j c hc;rw [hd] at z;cases z;rw [hv] at g3;cases g3;exact g4
          rw [r] at ab
          refine q5i (.sl (by rw [r];omega) ?_ ?_) ab
          · intro i x s
            obtain ⟨hi,rfl⟩:=q i x s
            exact (hF i hi).1
          · intro i x j c d s hc hd
            obtain ⟨hi,rfl⟩:=q i x s
            obtain ⟨d',v,z,g2,_⟩:=(hF i hi).2 j c hc
            rw [hd] at z;cases z
            exact g2
    · rename_i fs ht
      split at hl <;> simp at hl
      rename_i l' ao
      obtain ⟨u,rfl⟩:=hl
      obtain ⟨xs,n,_,_,bk,bf,hf⟩:=DataW.trod_struct ht h
      have:=qmu (P:=P) (w:=w) (f:=tyL P f) (g:=fun x cs=>∃ y,DataW.trod enc P w base (fun _=>true) held n x.type cs = some y) (fun x l cs h1 ⟨y,h2⟩=>qch f x.type l n cs y h1 h2) fs.toList 0 l' cs ao q0 ?_
      · simpa using this
      · intro x s
        obtain ⟨i,hi⟩:=List.getElem?_of_mem s
        have:=hf i x (by simpa using hi)
        obtain ⟨y,hy⟩:=Zp (xs:=xs) (i:=i) (by have:=Kh hi;simp at this;omega)
        exact ⟨y,by rw [this];exact hy⟩
end
end Go.Am
namespace Go.Am
open Go
open Go.ChangeShapes Go.WideShapes Go.ChangeAt Go.RowKit Go.Deep
theorem q115 {P : Program} {l : List (Nat × TI)} (h : l.map (fun x=>tiOf P x.1) = l.map (fun x=>some x.2)) : Z6 P (qmq l):=by
  intro t i b;have c:=J5 (show find l t = some i from b);obtain ⟨k,a⟩:=List.getElem?_of_mem c;have:=congrArg (fun r=>r[k]?) h;simp only [List.getElem?_map,a,Option.map_some] at this;exact qcq this
def aggT (P : Program) (t : TypeId) : Bool:=match P.underlying t with
  | some (.struct _) | some (.array _ _)=>true
  | _=>false
inductive Jp : List (Bool × List CT)→List DV→Prop
  | nil : Jp [] []
  | one {c : CT} {d : DV} {ps : List (Bool × List CT)} {ds : List DV} : Ty c d→Jp ps ds→Jp ((false,[c])::ps) (d::ds)
  | agg {l : List CT} {xs : List DV} {ps : List (Bool × List CT)} {ds : List DV} : xs.length = l.length→(∀ (j : Nat) (c : CT) (d : DV),l[j]? = some c→xs[j]? = some d→Ty c d)→Jp ps ds→Jp ((true,l)::ps) (.agg xs::ds)
section
variable {H : Type} {enc : TypeId × Value→H} {P : Program} {T : Tab} {W : World} {base : Nat}
theorem qnl {t : TypeId} {f : Nat} {l : List CT} {v : Value} {d : DataW H} {p : List MemPlace} (q : aggT P t = false) (o : tyL P f t = some l) (g : Value.okWide P W .any base t v) (h : DataW.Trod enc P W 0 (fun _=>true) true t v d p) :
    ∃ c x,l = [c]∧Ty c x∧RelD W (ZC W) x v:=by
  obtain ⟨fuel,hf⟩:=h;have m:=qch f t l fuel _ _ o hf
  have key : v.cells = #[v]→∃ c,l = [c]→∃ x,Ty c x∧RelD W (ZC W) x v:=by
    intro w;rw [w] at m;obtain ⟨z,ds,h2,r⟩:=m
    match l,z with
    | [c],_=>
      obtain ⟨x,_,u,y⟩:=r 0 c v rfl rfl;exact ⟨c,fun _=>⟨x,u,y⟩⟩
  have fin : v.cells = #[v]→∃ c x,l = [c]∧Ty c x∧RelD W (ZC W) x v:=by
    intro w;have j:=m.1;rw [w] at j m
    match l,j,m with
    | [c],_,m=>
      obtain ⟨_,ds,h2,r⟩:=m;obtain ⟨x,_,u,y⟩:=r 0 c v rfl rfl;exact ⟨c,x,rfl,u,y⟩
  cases f with
  | zero=>simp [tyL] at o
  | succ f=>
    simp only [tyL] at o;split at o <;> try simp at o
    · rename_i a;obtain ⟨b,rfl⟩:=okWide_bool a g;exact fin rfl
    · rename_i k a;obtain ⟨n,rfl⟩:=okWide_int a g;exact fin rfl
    · rename_i a;obtain ⟨s,rfl⟩:=okWide_string a g;exact fin rfl
    · rename_i e a;obtain ⟨a0,len,cap,rfl⟩:=okWide_slice a g;exact fin rfl
    · rename_i fs a;simp [aggT,a] at q
theorem qnk {t : TypeId} {f : Nat} {l : List CT} {v : Value} {d : DataW H} {p : List MemPlace} (b : aggT P t = true) (y : tyL P f t = some l) (a : Value.okWide P W .any base t v) (h : DataW.Trod enc P W 0 (fun _=>true) true t v d p) :
    ∃ xs : List DV,xs.length = l.length∧(∀ (j : Nat) (c : CT) (d : DV),l[j]? = some c→xs[j]? = some d→Ty c d)∧RelD W (ZC W) (.agg xs) v:=by
  obtain ⟨fuel,z⟩:=h
  have s : ∃ cs,v = .agg cs:=by
    unfold aggT at b;unfold Value.okWide at a;split at b
    · rename_i o;simp only [o] at a;obtain ⟨cs,h,_⟩:=a;exact ⟨cs,h⟩
    · rename_i o;simp only [o] at a;obtain ⟨cs,h,_⟩:=a;exact ⟨cs,h⟩
    · simp at b
  obtain ⟨cs,rfl⟩:=s;obtain ⟨n,ds,r,q⟩:=qch f t l fuel _ _ y z;simp only [Value.cells] at n q;refine ⟨ds,r,fun j c d k hd=>?_,.agg (by simpa [r] using n.symm) fun j d c hd k=>?_⟩
  · obtain ⟨v,s⟩:=Zp (xs:=cs.toList) (i:=j) (by rw [n];exact Kh k);obtain ⟨u,g,g2,_⟩:=q j c v k s;rw [hd] at g;cases g;exact g2
  · obtain ⟨x,m⟩:=Zp (xs:=l) (i:=j) (by rw [← r];exact Kh hd);obtain ⟨u,g,_,w⟩:=q j x c m (by simpa using k);rw [hd] at g;cases g;exact w
theorem qgn {f : Nat} : ∀ (o : List TypeId) (b : List (Bool × List CT)) (m : List Value) (ds : List (DataW H)) (p : List MemPlace),o.map (fun t=>(aggT P t,tyL P f t)) = b.map (fun x=>(x.1,some x.2))→
    (∀ (j : Nat) t v,o[j]? = some t→m[j]? = some v→Value.okWide P W .any base t v)→DataW.TrodAll enc P W 0 (fun _=>true) true o m ds p→
    ∃ xs : List DV,Jp b xs∧xs.length = m.length∧∀ (j : Nat) (x : DV) (v : Value),xs[j]? = some x→m[j]? = some v→RelD W (ZC W) x v
  | [],b,m,ds,p,hp,hok,h=>by
    obtain ⟨rfl,rfl,rfl⟩:=trodAll_nil h
    cases b with
    | nil=>exact ⟨[],.nil,rfl,qe⟩
    | cons _ _=>simp at hp
  | t::o,b,m,ds,p,hp,hok,h=>by
    obtain ⟨v,z,d,s,q,q',rfl,rfl,rfl,h1,h2⟩:=trodAll_cons h
    cases b with
    | nil=>simp at hp
    | cons pr b=>
      obtain ⟨ag,l⟩:=pr
      simp only [List.map_cons,List.cons.injEq,Prod.mk.injEq] at hp
      obtain ⟨⟨n,hl⟩,hp⟩:=hp
      obtain ⟨xs,g1,g2,g3⟩:=qgn o b z s q' hp (fun j t v ht hv=>hok (j + 1) t v (by simpa using ht) (by simpa using hv)) h2
      have a:=hok 0 t v rfl rfl
      cases ag with
      | false=>
        obtain ⟨c,x,rfl,w,r⟩:=qnl n hl a h1
        refine ⟨x::xs,.one w g1,by simp [g2],fun j y u k g=>?_⟩
        cases j with
        | zero=>simp at k g;subst k g;exact r
        | succ j=>exact g3 j y u (by simpa using k) (by simpa using g)
      | true=>
        obtain ⟨zs,k0,w,r⟩:=qnk n hl a h1
        refine ⟨.agg zs::xs,.agg k0 w g1,by simp [g2],fun j y u k g=>?_⟩
        cases j with
        | zero=>simp at k g;subst k g;exact r
        | succ j=>exact g3 j y u (by simpa using k) (by simpa using g)
theorem q11f {F : FuncId} {l : Array Value} {xs : List DV} (w : Z6 P T) (hm : P.follows .mixedOrders = true) (hp : Pure P T F xs (.bool true)) (hl : xs.length = l.size) (u : ∀ (j : Nat) (x : DV) (v : Value),xs[j]? = some x→l[j]? = some v→RelD W (ZC W) x v) :
    Calls P F l W fun e g=>e = .returned (.bool true)∧Grown W g∧Below W.heap.size W g:=by
  obtain ⟨v,hp',nx',r',he,r,q⟩:=hp;have t:=qo3 w hm he
  have h0 : RelH W (ZC W) (fun _=>none) [] 0:=⟨fun _ _ h=>by simp [find] at h,fun _ _ _ _ _ _ h=>by simp [find] at h,fun _ _ _ h=>by simp [find] at h,
    fun b ⟨c,e,f,h⟩=>Ja h,fun b h=>h⟩
  have hc:=t.2 W (ZC W) (fun _=>none) l h0 ⟨by simpa using hl,fun j x v s p=>by
    simp only [List.getElem?_map,Y3] at s;obtain ⟨y,hy,rfl⟩:=s
    exact .d (u j y v hy p)⟩
  refine (callsIn_wide (n:=0).1 hc).mono ?_;rintro e g ⟨x,Z',inj',rfl,hh,a,p,hn⟩;have z:=(qa8 hh 8 r p).le q;cases z;have m : ∀ k,k < W.heap.size→g.heap[k]? = W.heap[k]?:=fun k m=>a.keep k m (by rintro ⟨n,blk,o,h1,_⟩;simp [find] at h1);refine ⟨rfl,⟨⟨a.os,a.output,fun i hi=>?_⟩,a.frz,a.size⟩,⟨a.os,a.tape,a.output,a.size,m⟩⟩;rw [m i hi]
  cases hw : W.heap[i]? with
  | none=>simp
  | some o=>cases o <;> simp
theorem qgo (a : laidOutB P = true) {k : World} {l : Nat→Bool} : ∀ (c : List TypeId) (f : List Value) (ds : List (DataW H)) (p : List MemPlace),(∀ t∈c,P.readableRec t = true∧t < P.types.size)→DataW.TrodAll enc P W 0 (fun _=>true) true c f ds p→
    Below W.heap.size W k→(∀ x∈p,x.block < W.heap.size∧l x.block = true)→DataW.TrodAll enc P k 0 l true c f ds p
  | [],f,ds,p,_,h,_,_=>by obtain ⟨rfl,rfl,rfl⟩:=trodAll_nil h;exact trodAll_mk0
  | t::c,f,ds,p,ht,h,hb,hp=>by
    obtain ⟨v,g,d,j,q,o,rfl,rfl,rfl,m,n⟩:=trodAll_cons h
    refine trodAll_cons_mk (WideElems.Trod_stays a (ht t qe).1 (ht t qe).2 m (fun x b=>hb.same (hp x (by simp [b])).1) (fun x b=>(hp x (by simp [b])).2))
      (qgo a c g j o (fun u r=>ht u (by simp [r])) n hb (fun x b=>hp x (by simp [b])))
theorem contract {f : Func} {F : FuncId} {s : ChangeSpec} {tb : TypeId} {fuel : Nat} {ps : List (Bool × List CT)} (hT : Z6 P T) (hm : P.follows .mixedOrders = true) (y : laidOutB P = true)
    (a : s.vars = []) (c : f.resultTypes = #[tb]) (u : P.underlying tb = some .bool) (m : ∀ t∈f.params.toList,P.readableRec t = true∧t < P.types.size)
    (af : f.params.toList.map (fun t=>(aggT P t,tyL P fuel t)) = ps.map (fun x=>(x.1,some x.2)))
    (hs : ∀ ds : List (DataW H),ds.length = f.params.size→s.fn H ds = {results:=[.lit (.bool true)],args:=ds})
    (k : ∀ xs,Jp ps xs→Pure P T F xs (.bool true))
    {args : Array Value} {ds gs : List (DataW H)} {before : List MemPlace} (r : ∀ (j : Nat) t v,f.params[j]? = some t→args[j]? = some v→Value.okWide P W .any base t v)
    (hW : DataW.Whole enc P f.params.toList s.vars false W args.toList ds gs before) :
    Calls P F args W fun e W'=>∃ v,e = .returned v∧s.post enc P f false true false false W args v W':=by
  have g:=hW;obtain ⟨p,q,hA,hV,rfl,au,av⟩:=hW;rw [a] at hV;obtain ⟨rfl,rfl⟩:=trodVars_none hV;have n:=g.lt;simp only [List.append_nil] at g n;obtain ⟨xs,g1,g2,g3⟩:=qgn (base:=base) f.params.toList ps args.toList ds p af (fun j t v ht hv=>r j t v (by simpa using ht) (by simpa using hv)) hA;refine (q11f hT hm (k xs g1) (by simpa using g2) (fun j x v hx hv=>g3 j x v hx (by simpa using hv))).mono ?_;rintro e W' ⟨rfl,hg,hb⟩
  have w : ds.length = f.params.size:=by
    have : ∀ (z : List TypeId) (vs : List Value) (ds : List (DataW H)) (p : List MemPlace),DataW.TrodAll enc P W 0 (fun _=>true) true z vs ds p→ds.length = z.length:=by
      intro z
      induction z with
      | nil=>intro vs ds p h;obtain ⟨_,rfl,_⟩:=trodAll_nil h;rfl
      | cons t z ih=>intro vs ds p h;obtain ⟨v,aw,d,ao,q,q',rfl,rfl,rfl,_,h2⟩:=trodAll_cons h;simp [ih _ _ _ h2]
    simpa using this _ _ _ _ hA
  have l:=hs (ds ++ []) (by simpa using w);refine ⟨_,rfl,post_of_same (pa:=p) (pv:=[]) g ?_ ?_ ?_ qe (hg.frame _) hg.2.1 (ok_one c rfl (okWide_bool_mk u _))⟩
  · intro b sp hd;rw [c,l];exact trodAll_cons_mk (shut_bool u _) trodAll_mk0
  · intro sp o;rw [l];show DataW.TrodAll enc P W' 0 sp true f.params.toList args.toList (ds ++ []) p;rw [List.append_nil];exact qgo y _ _ _ _ m hA hb fun x hx=>⟨n x hx,o x hx⟩
  · intro sp o;rw [l,a];rfl
end
end Go.Am
namespace Go.Am
open Go
variable {P : Program} {T : Tab}
section
variable {base : Nat} {ops : Array Oper} {dr : Dr} {l : List Oper} {sl sl1 : List (Nat × V)} {hp hp1 : List (Nat × Blk)} {nx nx1 : Nat} {K : AS→Prop} {ty : TypeId} {pos : String} {af : Array Edge} {t : Tmp} {g : Option (Nat × Bool)} {v : V}
theorem qqc {st : AS} {op : Op} (h : touch op = 0) : fp st op = (some [],[]):=by
  unfold touch at h;split at h <;> first | rfl | (simp at h;done) | (exact absurd h qn)
theorem qs4 {dr : Dr} {k : Nat} {st st1 : AS} {t : TypeId} {p : Operand} (h : okF dr k (fp st (.load t p)) = true) : okO dr k st (.load t p) st1 = true:=by
  cases dr with
  | none=>rfl
  | some F=>simp only [okF] at h;simp only [okO,h,Bool.true_and,q3d,touch]
theorem qf2 {dr : Dr} {k n es : Nat} {st st1 : AS} {op : Op} {xs : List (List DV)} {r : List (Nat × Blk)} (a : st1.hp = (n,.dat es xs)::r) (h : okF dr k (fp st op) = true) : okO dr k st op st1 = true:=by
  cases dr with
  | none=>rfl
  | some F=>
    simp only [okF] at h;simp only [okO,h,Bool.true_and,q3d,a];split <;> rfl
theorem Zv {dr : Dr} {k : Nat} {st st1 : AS} {op : Op} (h : touch op = 0) : okO dr k st op st1 = true:=by
  cases dr with
  | none=>rfl
  | some F=>simp only [okO,qqc h,qij,Bool.true_and,q3d,h]
theorem fin {ex : Ex} {st : AS} {b : List ResultVar} {v : V} {r a : DV} (c : ex = .nor∨ex = .ret) (d : resV T st b = some v) (f : toD st.hp 8 v = some a) (g : a = r) : (ex = .nor∨ex = .ret)∧∃ v a,resV T st b = some v∧toD st.hp 8 v = some a∧DLe a r:=
  ⟨c,v,a,d,f,g ▸ .refl _⟩
theorem qs8 {x y : Operand} {a : TypeId} {i : TI} {k : IntKind} {n : Int} {m es off len : Nat} (c : Qr ops ⟨sl,hp,nx⟩ ⟨some t,.indexAddr a x y,ty,pos,af,g⟩ = some true) (j : T a = some i)
    (f : AS.ev ⟨sl,hp,nx⟩ x = some (.hs m es off len)) (o : AS.ev ⟨sl,hp,nx⟩ y = some (.d (.int k n))) (p : i.kind = .slice) (q : es = i.esize) (b : 0≤n) (hi : n < len)
    (h : OpsK P T base ops dr l ⟨(t,.ref m es (off + n.toNat) 0)::sl,hp,nx⟩ K) : OpsK P T base ops dr (⟨some t,.indexAddr a x y,ty,pos,af,g⟩::l) ⟨sl,hp,nx⟩ K:=
  Ya c (v:=.ref m es (off + n.toNat) 0) (st1:=⟨sl,hp,nx⟩) (by simp [opFn,f,o,j,q3o,p,q,b,hi]) h (Zv rfl)
theorem qf4 {p : Operand} {b : TypeId} {i : TI} {m es a j : Nat} {xs : List (List DV)} {cs r : List DV} {w : V} (c : Qr ops ⟨sl,hp,nx⟩ ⟨some t,.load b p,ty,pos,af,g⟩ = some true) (o : T b = some i)
    (k : AS.ev ⟨sl,hp,nx⟩ p = some (.ref m es a j)) (hb : find hp m = some (.dat es xs)) (hi : xs[a]? = some cs) (hs : sub cs j i.size = some r) (n : (Uu i.agg r).map .d = some w)
    (h : OpsK P T base ops dr l ⟨(t,w)::sl,hp,nx⟩ K) (f : okF dr l.length (fp ⟨sl,hp,nx⟩ (.load b p)) = true:=by rfl) : OpsK P T base ops dr (⟨some t,.load b p,ty,pos,af,g⟩::l) ⟨sl,hp,nx⟩ K:=
  Ya c (v:=w) (st1:=⟨sl,hp,nx⟩) (by simp only [opFn,k,o,U0,AS.blk,hb,Nat.beq_refl,hi,hs,n,Option.map_some]) h (qs4 f)
end
end Go.Am
namespace Go.Am
open Go
variable {P : Program} {T : Tab}
section
variable {base : Nat} {ops : Array Oper} {dr : Dr} {l : List Oper} {sl : List (Nat × V)} {hp : List (Nat × Blk)} {nx : Nat} {K : AS→Prop} {ty : TypeId} {pos : String} {af : Array Edge} {t : Tmp} {g : Option (Nat × Bool)} {v : V}
theorem Qs {a : TypeId} {i : TI} (b : Qr ops ⟨sl,hp,nx⟩ ⟨some t,.alloc a,ty,pos,af,g⟩ = some true) (d : T a = some i)
    (h : OpsK P T base ops dr l ⟨(t,.ref nx i.size 0 0)::sl,(nx,.dat i.size [i.zero])::hp,nx + 1⟩ K) (c : okF dr l.length (fp ⟨sl,hp,nx⟩ (.alloc a)) = true:=by rfl) : OpsK P T base ops dr (⟨some t,.alloc a,ty,pos,af,g⟩::l) ⟨sl,hp,nx⟩ K:=
  Ya b (v:=.ref nx i.size 0 0) (st1:=⟨sl,(nx,.dat i.size [i.zero])::hp,nx + 1⟩) (by simp only [opFn,d,Option.map_some];rfl) h (qf2 rfl c)
theorem q110 {cs : List DV} : sub cs 0 cs.length = some cs:=by simp [sub]
theorem qs5 {x y : Operand} {a b : TypeId} {i j : TI} {n es len : Nat} {xs ys : List (List DV)} {c : V} (k : Qr ops ⟨sl,hp,nx⟩ ⟨some t,.call {callee:=.builtin .append,args:=#[x,y],argTypes:=#[a,b]},ty,pos,af,g⟩ = some true)
    (r : T a = some i) (f : T b = some j) (m : AS.ev ⟨sl,hp,nx⟩ x = some (.hs n es 0 len)) (s : AS.ev ⟨sl,hp,nx⟩ y = some c) (hb : find hp n = some (.dat es xs)) (q : len = xs.length) (hc : Yx ⟨sl,hp,nx⟩ c = some ys)
    (w : i.kind = .slice) (d : j.kind = .slice) (z : es = i.esize) (u : J4 i.esize c = true) (p : (len + ys.length) * (i.ebytes * 4)≤4294967296)
    (h : OpsK P T base ops dr l ⟨(t,.hs nx es 0 (len + ys.length))::sl,(nx,.dat es (xs ++ ys))::repl hp n .dead,nx + 1⟩ K) (o : okF dr l.length (fp ⟨sl,hp,nx⟩ (.call {callee:=.builtin .append,args:=#[x,y],argTypes:=#[a,b]})) = true:=by rfl) : OpsK P T base ops dr (⟨some t,.call {callee:=.builtin .append,args:=#[x,y],argTypes:=#[a,b]},ty,pos,af,g⟩::l) ⟨sl,hp,nx⟩ K:=by
  refine Ya k (v:=.hs nx es 0 (len + ys.length)) (st1:=⟨sl,(nx,.dat es (xs ++ ys))::repl hp n .dead,nx + 1⟩) ?_ h (qf2 rfl o);subst q;have e : ((xs.drop 0).take xs.length ++ ys) = xs ++ ys:=by simp
  simp only [opFn,evL,m,s,Y9];simp only [List.getElem?_toArray,List.getElem?_cons_zero,List.getElem?_cons_succ,r,f];rw [qs ⟨w,d,u⟩];simp only [Z9,AS.blk,hb,hc];rw [qs ⟨q0,trivial,p,z⟩,e];rfl
theorem qf5 {x : Operand} (b : Qr ops ⟨sl,hp,nx⟩ ⟨some t,.move x,ty,pos,af,g⟩ = some true) (a : AS.ev ⟨sl,hp,nx⟩ x = some v)
    (h : OpsK P T base ops dr l ⟨(t,v)::sl,hp,nx⟩ K) : OpsK P T base ops dr (⟨some t,.move x,ty,pos,af,g⟩::l) ⟨sl,hp,nx⟩ K:=
  Ya b (v:=v) (st1:=⟨sl,hp,nx⟩) (by simp only [opFn,a,Option.map_some]) h (Zv rfl)
theorem qs6 {x : Operand} (b : Qr ops ⟨sl,hp,nx⟩ ⟨some t,.assign x,ty,pos,af,g⟩ = some true) (a : AS.ev ⟨sl,hp,nx⟩ x = some v)
    (h : OpsK P T base ops dr l ⟨(t,v)::sl,hp,nx⟩ K) : OpsK P T base ops dr (⟨some t,.assign x,ty,pos,af,g⟩::l) ⟨sl,hp,nx⟩ K:=
  Ya b (v:=v) (st1:=⟨sl,hp,nx⟩) (by simp only [opFn,a,Option.map_some]) h (Zv rfl)
theorem qd {op : Op} {j : Nat} {w : Bool} (a : Qr ops ⟨sl,hp,nx⟩ ⟨some t,op,ty,pos,af,some (j,w)⟩ = some false) (h : OpsK P T base ops dr l ⟨(t,.d (.tup []))::sl,hp,nx⟩ K) : OpsK P T base ops dr (⟨some t,op,ty,pos,af,some (j,w)⟩::l) ⟨sl,hp,nx⟩ K:=
  qsi a h
theorem qsc {x : Operand} {a : TypeId} {i : TI} {es : Nat} {xs : List (List DV)} {m : Nat} (b : Qr ops ⟨sl,hp,nx⟩ ⟨some t,.call {callee:=.builtin .len,args:=#[x],argTypes:=#[a]},ty,pos,af,g⟩ = some true) (f : T a = some i) (j : i.kind = .slice) (c : AS.ev ⟨sl,hp,nx⟩ x = some (.d (.sl es xs))) (k : xs.length = m)
    (h : OpsK P T base ops dr l ⟨(t,.d (.int .i64 m))::sl,hp,nx⟩ K) : OpsK P T base ops dr (⟨some t,.call {callee:=.builtin .len,args:=#[x],argTypes:=#[a]},ty,pos,af,g⟩::l) ⟨sl,hp,nx⟩ K:=by
  subst k;exact Ya b (v:=.d (.int .i64 xs.length)) (st1:=⟨sl,hp,nx⟩) (by simp only [opFn,evL,c,Y9];simp only [List.getElem?_toArray,List.getElem?_cons_zero,f,j]) h (Zv rfl)
end
end Go.Am
namespace Go.Am
open Go
def iter {α β : Type} (f : α→Option (α ⊕ β)) : Nat→α→Option β
  | 0,_=>none
  | n + 1,a=>match f a with
    | none=>none
    | some (.inl a')=>iter f n a'
    | some (.inr b)=>some b
theorem qei {α β : Type} {f : α→Option (α ⊕ β)} : ∀ {n : Nat} {a : α} {b : β},iter f n a = some b→∀ m,n≤m→iter f m a = some b
  | 0,_,_,h,_,_=>by simp [iter] at h
  | n + 1,a,b,h,m,hm=>by
    obtain ⟨k,rfl⟩ : ∃ k,m = k + 1:=⟨m - 1,q0⟩
    simp only [iter] at h ⊢
    split at h
    · simp at h
    · rename_i a' c;exact qei h k q0
    · exact h
theorem qr5 {α β : Type} {f : α→Option (α ⊕ β)} {n m : Nat} {a : α} {b c : β} (h : iter f n a = some b) (d : iter f m a = some c) : b = c:=by
  have g:=qei h (max n m) q0;have j:=qei d (max n m) q0;grind
open Classical in
noncomputable def loop {α β : Type} (f : α→Option (α ⊕ β)) (a : α) : Option β:=
  if h : ∃ b n,iter f n a = some b then some h.choose else none
theorem q83 {α β : Type} {f : α→Option (α ⊕ β)} {a : α} {b : β} : loop f a = some b↔∃ n,iter f n a = some b:=by
  unfold loop;split
  · rename_i h;constructor
    · grind
    · rintro ⟨n,d⟩;obtain ⟨m,c⟩:=h.choose_spec;rw [qr5 c d]
  grind
theorem Ke {α β : Type} {f : α→Option (α ⊕ β)} {a a' : α} (h : f a = some (.inl a')) : loop f a = loop f a':=by
  apply Option.ext;intro b;rw [q83,q83];constructor
  · rintro ⟨n,c⟩
    cases n with
    | zero=>simp [iter] at c
    | succ n=>simp only [iter,h] at c;exact ⟨n,c⟩
  · rintro ⟨n,c⟩;exact ⟨n + 1,by simp only [iter,h];exact c⟩
theorem Kg {α β : Type} {f : α→Option (α ⊕ β)} {a : α} {b : β} (h : f a = some (.inr b)) : loop f a = some b:=
  q83.2 ⟨1,by simp [iter,h]⟩
theorem qel {α β : Type} {f : α→Option (α ⊕ β)} (I : α→Prop) (μ : α→Nat) (Q : β→Prop) (step : ∀ a,I a→(∃ a',f a = some (.inl a')∧I a'∧μ a' < μ a)∨∃ b,f a = some (.inr b)∧Q b) {a : α} (h : I a) : ∃ b,loop f a = some b∧Q b:=by
  generalize j : μ a = n
  induction n using Nat.strongRecOn generalizing a with
  | _ n ih=>
    rcases step a h with ⟨a',c,d,g⟩ | ⟨b,c,d⟩
    · rw [Ke c];exact ih _ (j ▸ g) d rfl
    · exact ⟨b,Kg c,d⟩
def w64 (x : Int) : Int:=IntKind.i64.wrap x
theorem Q5 {x : Int} (h : -9223372036854775808≤x∧x≤9223372036854775807) : w64 x = x:=qg5 h
def idx {α : Type} (xs : List α) (i : Int) : Option α:=if 0≤i then xs[i.toNat]? else none
def J7 (x y : Int) : Option Int:=if y = 0 then none else some (w64 (x.tdiv y))
def app {α : Type} (c : Nat) (xs ys : List α) : Option (List α):=if (xs.length + ys.length) * (c * 4)≤4294967296 then some (xs ++ ys) else none
def slc {α : Type} (xs : List α) (a b : Int) : Option (List α):=if 0≤a∧a≤b∧b≤xs.length then some ((xs.drop a.toNat).take (b.toNat - a.toNat)) else none
def mks {α : Type} (c : Nat) (n : Int) (z : α) : Option (List α):=if 0≤n∧n * (c * 4)≤4294967296 then some (List.replicate n.toNat z) else none
def sub2 (n : Nat) (a b : Int) : Option (Nat × Nat):=if 0≤a∧a≤b∧b≤n then some (a.toNat,b.toNat - a.toNat) else none
def cpyw {α : Type} (xs : List α) (w : Nat × Nat) (ys : List α) : List α:=splice xs w.1 (ys.take (min ys.length w.2))
theorem leb {n m : Nat} (h : Nat.ble n m = true) : n≤m:=by simpa using h
theorem q7m {α : Type} {xs ys : List α} {w : Nat × Nat} (h : w.1 + w.2≤xs.length) : (cpyw xs w ys).length = xs.length:=by
  simp [cpyw,splice];omega
theorem ltd {n m : Nat} (h : Nat.blt n m = true) : n < m:=by simpa [Nat.blt_eq] using h
def eI (k : IntKind) (x : Int) : List DV:=[.int k x]
theorem qb4 {α : Type} {xs : List α} {i : Int} {v : α} (h : idx xs i = some v) : 0≤i∧xs[i.toNat]? = some v∧i.toNat < xs.length:=by
  unfold idx at h;grind
theorem q11z {α β : Type} {o : Option α} {f : α→Option β} {x : β} (h : o.bind f = some x) : ∃ v,o = some v∧f v = some x:=by
  cases o with
  | none=>cases h
  | some v=>exact ⟨v,rfl,h⟩
theorem qt {α : Type} {a b : α} (h : some a = some b) : a = b:=qcq h
section
variable {P : Program} {T : Tab} {base : Nat} {cs : List Code} {st : AS} {K : Ex→AS→Prop}
theorem RunK.mono {a : Ex→AS→Prop} : ∀ {cs : List Code} {st : AS},RunK P T base cs st K→(∀ ex st,K ex st→a ex st)→RunK P T base cs st a
  | [],_,h,hk=>hk _ _ h
  | c::cs,st,h,hk=>q34.mono h fun ex st h=>by
    cases ex with
    | nor=>exact RunK.mono (cs:=cs) h hk
    | exit i=>exact hk _ _ h
    | ret=>exact hk _ _ h
theorem qo {α : Type} {c : Operand} {a b : Code} {t : Bool} {X Y : Option α} {x : α} (f : st.ev c = some (.d (.bool t))) (h : cond t X Y = some x) (j : t = true→X = some x→RunK P T base (a::cs) st K) (g : t = false→Y = some x→RunK P T base (b::cs) st K) :
    RunK P T base (.cond c a b::cs) st K:=by
  cases t with
  | true=>exact Zj f (j rfl h)
  | false=>exact Z2 f (g rfl h)
theorem Qo {α β : Type} {body : Code} (f : α→Option (α ⊕ β)) (S : α→AS) (g : α) (m : β) (o : loop f g = some m) (l : WkE base st (S g))
    (round : ∀ a y,f a = some y→RunK P T base [body] (S a) (fun ex st'=>match ex with
      | .nor=>∃ a',y = .inl a'∧WkE base st' (S a')
      | ex=>∃ b,y = .inr b∧(b = m→K ex st'))) : RunK P T base (.loop body::cs) st K:=by
  obtain ⟨n,q⟩:=q83.1 o;refine qux (fun x : Nat × α=>S x.2) (fun x=>iter f x.1 x.2 = some m) (fun x=>x.1) (n,g) l q ?_;rintro ⟨k,a⟩ c
  cases k with
  | zero=>simp [iter] at c
  | succ k=>
    simp only [iter] at c;split at c
    · cases c
    · rename_i a' j;refine (round a _ j).mono ?_;intro ex st' h
      cases ex with
      | nor=>
        obtain ⟨a'',d,p⟩:=h;cases d;exact ⟨(k,a'),c,qe,p⟩
      | exit i=>obtain ⟨b,d,_⟩:=h;cases d
      | ret=>obtain ⟨b,d,_⟩:=h;cases d
    · rename_i b j;cases c;refine (round a _ j).mono ?_;grind
theorem Jx {id : Nat} {N : AS→Prop} (h : N st) : q38 id N K (.exit id) st:=by simpa [q38] using h
theorem Qm {id : Nat} {N : AS→Prop} (h : N st) : q38 id N K .nor st:=h
theorem Z4 {β : Type} {c : Code} (E : β→Prop) (S : β→AS) (f : cs≠[]) (j : RunK P T base [c] st (qa6 (fun st'=>∃ b,E b∧WkE base st' (S b)) K)) (a : ∀ b,E b→RunK P T base cs (S b) K) : RunK P T base (c::cs) st K:=by
  obtain ⟨ex,st1,h,d⟩:=q4s j;refine ⟨ex,st1,h,?_⟩
  cases ex with
  | nor=>obtain ⟨b,hb,g⟩:=d;exact Yq g (a b hb) f
  | exit i=>exact d
  | ret=>exact d
theorem Qt {β : Type} {id : Nat} {a : Code} (E : β→Prop) (S : β→AS) (d : cs≠[]) (g : RunK P T base [a] st (q38 id (fun st'=>∃ b,E b∧WkE base st' (S b)) K)) (c : ∀ b,E b→RunK P T base cs (S b) K) : RunK P T base (.block id a::cs) st K:=by
  refine Q4 (g.mono ?_);intro ex st' h
  cases ex with
  | nor=>obtain ⟨b,hb,f⟩:=h;exact Yq f (c b hb) d
  | ret=>exact h
  | exit i=>
    simp only [q38] at h ⊢;split
    · rename_i hi;rw [qs hi] at h;obtain ⟨b,hb,f⟩:=h;exact Yq f (c b hb) d
    grind
theorem q3y {β : Type} {c : Code} (E : β→Prop) (S : β→AS) (f : RunK P T base [c] st (qa6 (fun st'=>∃ b,E b∧WkE base st' (S b)) K)) (a : ∀ b st',E b→WkE base st' (S b)→K .nor st') : RunK P T base [c] st K:=by
  refine f.mono ?_;intro ex st' h
  cases ex with
  | nor=>obtain ⟨b,hb,d⟩:=h;exact a b st' hb d
  | exit i=>exact h
  | ret=>exact h
end
section
variable {P : Program} {T : Tab} {base : Nat} {ops : Array Oper} {dr : Dr} {l : List Oper} {sl : List (Nat × V)} {hp : List (Nat × Blk)} {nx : Nat} {K : AS→Prop} {ty : TypeId} {pos : String} {af : Array Edge} {t : Tmp} {g : Option (Nat × Bool)}
theorem qsk {op : Op} (v : V) (a : Qr ops ⟨sl,hp,nx⟩ ⟨some t,op,ty,pos,af,g⟩ = some true) (c : opFn T ⟨sl,hp,nx⟩ op = some (v,⟨sl,hp,nx⟩)) (h : OpsK P T base ops dr l ⟨(t,v)::sl,hp,nx⟩ K) (b : okO dr l.length ⟨sl,hp,nx⟩ (op) ⟨sl,hp,nx⟩ = true:=by rfl) : OpsK P T base ops dr (⟨some t,op,ty,pos,af,g⟩::l) ⟨sl,hp,nx⟩ K:=
  Ya a c h b
theorem qse {op : Op} (v : V) (b : Blk) (a : Qr ops ⟨sl,hp,nx⟩ ⟨some t,op,ty,pos,af,g⟩ = some true) (d : opFn T ⟨sl,hp,nx⟩ op = some (v,⟨sl,(nx,b)::hp,nx + 1⟩)) (h : OpsK P T base ops dr l ⟨(t,v)::sl,(nx,b)::hp,nx + 1⟩ K) (c : okO dr l.length ⟨sl,hp,nx⟩ (op) ⟨sl,(nx,b)::hp,nx + 1⟩ = true:=by rfl) : OpsK P T base ops dr (⟨some t,op,ty,pos,af,g⟩::l) ⟨sl,hp,nx⟩ K:=
  Ya a d h c
theorem q5c {op : Op} {es len : Nat} (xs : List (List DV)) (a : Qr ops ⟨sl,hp,nx⟩ ⟨some t,op,ty,pos,af,g⟩ = some true) (j : opFn T ⟨sl,hp,nx⟩ op = some (.hs nx es 0 len,⟨sl,(nx,.dat es xs)::hp,nx + 1⟩)) (k : len = xs.length) (f : touch op = 2) (c : find hp nx = none) (h : OpsK P T base ops dr l ⟨(t,.d (.sl es xs))::sl,hp,nx + 1⟩ K) (b : okF dr l.length (fp ⟨sl,hp,nx⟩ op) = true:=by rfl) : OpsK P T base ops dr (⟨some t,op,ty,pos,af,g⟩::l) ⟨sl,hp,nx⟩ K:=by
  subst k;exact qsf (n:=nx) (hp2:=hp) (st1:=⟨sl,(nx,.dat es xs)::hp,nx + 1⟩) a j f ⟨rfl,rfl⟩ rfl c h b
theorem qsj {op : Op} (n : Nat) (b : Blk) (a : Qr ops ⟨sl,hp,nx⟩ ⟨none,op,ty,pos,af,g⟩ = some true) (d : opFn T ⟨sl,hp,nx⟩ op = some (.dead,⟨sl,repl hp n b,nx⟩)) (h : OpsK P T base ops dr l ⟨sl,repl hp n b,nx⟩ K) (c : okO dr l.length ⟨sl,hp,nx⟩ (op) ⟨sl,repl hp n b,nx⟩ = true:=by rfl) : OpsK P T base ops dr (⟨none,op,ty,pos,af,g⟩::l) ⟨sl,hp,nx⟩ K:=
  Ya a d h c
theorem Qe {α : Type} {x : Operand} {b : Bool} {X Y : Option α} {m : α} (a : Qr ops ⟨sl,hp,nx⟩ ⟨some t,.move x,ty,pos,af,g⟩ = some true) (c : AS.ev ⟨sl,hp,nx⟩ x = some (.d (.bool b))) (h : cond b X Y = some m)
    (j : X = some m→OpsK P T base ops dr l ⟨(t,.d (.bool true))::sl,hp,nx⟩ K) (f : Y = some m→OpsK P T base ops dr l ⟨(t,.d (.bool false))::sl,hp,nx⟩ K) : OpsK P T base ops dr (⟨some t,.move x,ty,pos,af,g⟩::l) ⟨sl,hp,nx⟩ K:=by
  cases b with
  | true=>exact qf5 a c (j h)
  | false=>exact qf5 a c (f h)
theorem q14 {dr : Dr} (hd : dr = none) {m n : List Oper} {st st1 st2 : AS} : Kr P T base ops dr m st st1→Kr P T base ops dr n st1 st2→Kr P T base ops dr (m ++ n) st st2
  | .nil,h2=>h2
  | .skip a b,h2=>.skip a (q14 hd b h2)
  | .op a b _ c,h2=>.op a b (by subst hd;rfl) (q14 hd c h2)
  | .opF a b c d e f _ g,h2=>.opF a b c d e f (by subst hd;rfl) (q14 hd g h2)
  | .callP a b c d e f g h _ i,h2=>.callP a b c d e f g h (by subst hd;rfl) (q14 hd i h2)
  | .callS a b c d e,h2=>.callS a b c d (q14 hd e h2)
  | .callF a b c d e f g h i,h2=>.callF a b c d e f g h (q14 hd i h2)
  | .callY a b c d e f g h i j k l,h2=>.callY a b c d e f g h i j k (q14 hd l h2)
  | .wk a b,h2=>.wk a (q14 hd b h2)
  | .piv _ _ _,_=>by cases hd
theorem qe3 {F : List Fp} {m k : Nat} : fpAt (F.drop m) k = fpAt F (k + m):=by
  unfold fpAt;grind
theorem qs3 {F : List Fp} {l a : List Oper} {dr : Dr} (hd : dr = some (F.drop a.length)) {st st1 : AS} {op : Op} (h : okO dr l.length st op st1 = true) : okO (some F) (l ++ a).length st op st1 = true:=by
  subst hd;simp only [okO,qe3] at h;simpa only [okO,List.length_append] using h
theorem qk5 {F : List Fp} {l a : List Oper} {dr : Dr} (hd : dr = some (F.drop a.length)) {x : Fp} (h : okF dr l.length x = true) : okF (some F) (l ++ a).length x = true:=by
  subst hd;simp only [okF,qe3] at h;simpa only [okF,List.length_append] using h
theorem qpz {F : List Fp} {m : List Oper} {dr : Dr} {k : Dr} (q : k = some F) (hd : dr = some (F.drop m.length)) {n : List Oper} {st st1 st2 : AS} (p : Kr P T base ops dr n st st1) (r : Kr P T base ops k m st1 st2) : Kr P T base ops k (n ++ m) st st2:=by
  subst q
  induction n generalizing st with
  | nil=>cases p with
    | nil=>exact r
    | wk _ _=>cases hd
  | cons o l ih=>
    cases p with
    | skip a b=>exact .skip a (ih b)
    | op a b c d=>exact .op a b (qs3 hd c) (ih d)
    | opF a b c d e f g h=>exact .opF a b c d e f (qk5 hd g) (ih h)
    | callP a b c d e f g h i j=>exact .callP a b c d e f g h (qk5 hd i) (ih j)
    | callS _ _ _ _ _=>cases hd
    | callF _ _ _ _ _ _ _ _ _=>cases hd
    | callY _ _ _ _ _ _ _ _ _ _ _ _=>cases hd
    | wk _ _=>cases hd
    | piv a b c=>
      cases hd;rw [qe3] at a;exact .piv (by show Ur (fpAt F (l ++ m).length) = true;rw [List.length_append];exact a) b (ih c)
def qht (dr : Dr) (k : Nat) : Dr:=match dr with
  | none=>none
  | some F=>some (F.drop k)
theorem qpy {dr : Dr} {b a : List Oper} {st st1 st2 : AS} (c : Kr P T base ops (qht dr a.length) b st st1) (d : Kr P T base ops dr a st1 st2) : Kr P T base ops dr (b ++ a) st st2:=by
  cases dr with
  | none=>exact q14 rfl c d
  | some F=>exact qpz rfl rfl c d
theorem Qg (n : Nat) (Q : (List (Nat × V)→AS)→AS→Prop) (c : OpsK P T base ops (qht dr (l.drop n).length) (l.take n) ⟨sl,hp,nx⟩ (Q fun p=>⟨p ++ sl,hp,nx⟩)) (g : ∀ st',Q (fun p=>⟨p ++ sl,hp,nx⟩) st'→OpsK P T base ops dr (l.drop n) st' K) : OpsK P T base ops dr l ⟨sl,hp,nx⟩ K:=by
  obtain ⟨st1,d,f⟩:=c;obtain ⟨st2,a,b⟩:=g st1 f;refine ⟨st2,?_,b⟩;have:=qpy d a;simp_all
theorem qsa {α : Type} {x y : Operand} {a : TypeId} {i : TI} {k : IntKind} {n : Int} {es : Nat} {xs : List α} {enc : α→List DV} {v : α} (p : idx xs n = some v) (c : Qr ops ⟨sl,hp,nx⟩ ⟨some t,.indexAddr a x y,ty,pos,af,g⟩ = some true) (m : T a = some i)
    (f : AS.ev ⟨sl,hp,nx⟩ x = some (.d (.sl es (xs.map enc)))) (o : AS.ev ⟨sl,hp,nx⟩ y = some (.d (.int k n))) (q : i.kind = .slice) (r : es = i.esize)
    (h : OpsK P T base ops dr l ⟨(t,.dref (enc v) 0)::sl,hp,nx⟩ K) : OpsK P T base ops dr (⟨some t,.indexAddr a x y,ty,pos,af,g⟩::l) ⟨sl,hp,nx⟩ K:=by
  obtain ⟨b,j,_⟩:=qb4 p;exact Ya c (v:=.dref (enc v) 0) (st1:=⟨sl,hp,nx⟩) (by simp [opFn,f,o,m,q3o,q,r,b,j]) h (Zv rfl)
theorem qs9 {α : Type} {x y : Operand} {a : TypeId} {i : TI} {k : IntKind} {n : Int} {m es len : Nat} {xs : List α} {v : α} (q : idx xs n = some v) (j : len = xs.length) (c : Qr ops ⟨sl,hp,nx⟩ ⟨some t,.indexAddr a x y,ty,pos,af,g⟩ = some true) (o : T a = some i)
    (f : AS.ev ⟨sl,hp,nx⟩ x = some (.hs m es 0 len)) (p : AS.ev ⟨sl,hp,nx⟩ y = some (.d (.int k n))) (r : i.kind = .slice) (s : es = i.esize)
    (h : OpsK P T base ops dr l ⟨(t,.ref m es n.toNat 0)::sl,hp,nx⟩ K) : OpsK P T base ops dr (⟨some t,.indexAddr a x y,ty,pos,af,g⟩::l) ⟨sl,hp,nx⟩ K:=by
  subst j;obtain ⟨b,_,u⟩:=qb4 q;exact Ya c (v:=.ref m es n.toNat 0) (st1:=⟨sl,hp,nx⟩) (by simp [opFn,f,p,o,q3o,r,s,b];omega) h (Zv rfl)
theorem qsd {α : Type} {p : Operand} {a : TypeId} {i : TI} {m es j : Nat} {n : Int} {xs : List α} {enc : α→List DV} {r : List DV} {v : α} (w : V) (q : idx xs n = some v) (b : Qr ops ⟨sl,hp,nx⟩ ⟨some t,.load a p,ty,pos,af,g⟩ = some true) (o : T a = some i)
    (c : AS.ev ⟨sl,hp,nx⟩ p = some (.ref m es n.toNat j)) (hb : find hp m = some (.dat es (xs.map enc))) (hs : sub (enc v) j i.size = some r) (k : (Uu i.agg r).map .d = some w)
    (h : OpsK P T base ops dr l ⟨(t,w)::sl,hp,nx⟩ K) (f : okF dr l.length (fp ⟨sl,hp,nx⟩ (.load a p)) = true:=by rfl) : OpsK P T base ops dr (⟨some t,.load a p,ty,pos,af,g⟩::l) ⟨sl,hp,nx⟩ K:=
  qf4 b o c hb (by rw [List.getElem?_map,(qb4 q).2.1];rfl) hs k h f
theorem K0 {α : Type} {p x : Operand} {f : TypeId} {i : TI} {m es j : Nat} {n : Int} {xs : List α} {enc : α→List DV} {v : α} (k : α) {u : V} {ds : List DV} (y : idx xs n = some v) (q : Qr ops ⟨sl,hp,nx⟩ ⟨none,.store f p x,ty,pos,af,g⟩ = some true) (w : T f = some i)
    (hp' : AS.ev ⟨sl,hp,nx⟩ p = some (.ref m es n.toNat j)) (r : AS.ev ⟨sl,hp,nx⟩ x = some u) (hb : find hp m = some (.dat es (xs.map enc))) (o : cellsOf u = ds.map .d) (t : ds.length = i.size) (z : ds.all Yl = true) (hj : j + i.size≤(enc v).length) (hs : splice (enc v) j ds = enc k)
    (h : OpsK P T base ops dr l ⟨sl,repl hp m (.dat es ((xs.set n.toNat k).map enc)),nx⟩ K) (s : okO dr l.length ⟨sl,hp,nx⟩ (.store f p x) ⟨sl,repl hp m (.dat es ((xs.set n.toNat k).map enc)),nx⟩ = true:=by rfl) : OpsK P T base ops dr (⟨none,.store f p x,ty,pos,af,g⟩::l) ⟨sl,hp,nx⟩ K:=by
  refine Ya q (v:=.dead) (st1:=⟨sl,repl hp m (.dat es ((xs.set n.toNat k).map enc)),nx⟩) ?_ h s;have b : (cellsOf u).all Kp = true:=by rw [o,List.all_map];exact z
  have a : (cellsOf u).length = i.size:=by rw [o];simpa using t
  have c : (xs.map enc)[n.toNat]? = some (enc v):=by rw [List.getElem?_map,(qb4 y).2.1];rfl
  simp only [opFn,w,hp',r,Jn,AS.blk,hb,Nat.beq_refl,c];rw [qx (by simp [b,a]),qs hj,o,qcz];simp only [hs,List.map_set,AS.setBlk];rfl
theorem qka {α : Type} {x : Operand} {a : TypeId} {i : TI} {es : Nat} {xs : List α} {enc : α→List DV} (b : Qr ops ⟨sl,hp,nx⟩ ⟨some t,.call {callee:=.builtin .len,args:=#[x],argTypes:=#[a]},ty,pos,af,g⟩ = some true) (f : T a = some i) (j : i.kind = .slice) (c : AS.ev ⟨sl,hp,nx⟩ x = some (.d (.sl es (xs.map enc))))
    (h : OpsK P T base ops dr l ⟨(t,.d (.int .i64 (xs.length : Int)))::sl,hp,nx⟩ K) : OpsK P T base ops dr (⟨some t,.call {callee:=.builtin .len,args:=#[x],argTypes:=#[a]},ty,pos,af,g⟩::l) ⟨sl,hp,nx⟩ K:=
  qsc b f j c qe h
theorem Yz {α : Type} {x y : Operand} {a d : TypeId} {i j : TI} {n es len : Nat} {xs ys zs : List α} {enc : α→List DV} (f : V) (c : app i.ebytes xs ys = some zs) (b : len = xs.length) (o : Qr ops ⟨sl,hp,nx⟩ ⟨some t,.call {callee:=.builtin .append,args:=#[x,y],argTypes:=#[a,d]},ty,pos,af,g⟩ = some true)
    (s : T a = some i) (m : T d = some j) (p : AS.ev ⟨sl,hp,nx⟩ x = some (.hs n es 0 len)) (u : AS.ev ⟨sl,hp,nx⟩ y = some f) (hb : find hp n = some (.dat es (xs.map enc))) (hc : Yx ⟨sl,hp,nx⟩ f = some (ys.map enc))
    (w : i.kind = .slice) (k : j.kind = .slice) (z : es = i.esize) (v : J4 i.esize f = true)
    (h : OpsK P T base ops dr l ⟨(t,.hs nx es 0 zs.length)::sl,(nx,.dat es (zs.map enc))::repl hp n .dead,nx + 1⟩ K) (q : okF dr l.length (fp ⟨sl,hp,nx⟩ (.call {callee:=.builtin .append,args:=#[x,y],argTypes:=#[a,d]})) = true:=by rfl) : OpsK P T base ops dr (⟨some t,.call {callee:=.builtin .append,args:=#[x,y],argTypes:=#[a,d]},ty,pos,af,g⟩::l) ⟨sl,hp,nx⟩ K:=by
  subst b;unfold app at c;split at c
  · rename_i r;cases c;refine qs5 o s m p u hb qe hc w k z v (by simpa [Nat.mul_assoc] using r) ?_ q;grind
  · cases c
theorem Yy {α : Type} {n es len : Nat} {ys : List α} {enc : α→List DV} (a : len = ys.length) (hb : find hp n = some (.dat es (ys.map enc))) : Yx ⟨sl,hp,nx⟩ (.hs n es 0 len) = some (ys.map enc):=by
  subst a;simp only [Yx,AS.blk,hb];grind
theorem qp9 {α : Type} {es : Nat} {ys : List α} {enc : α→List DV} : Yx ⟨sl,hp,nx⟩ (.d (.sl es (ys.map enc))) = some (ys.map enc):=rfl
theorem qkc {α : Type} {x : Operand} {f : TypeId} {lo hi : Option Operand} {i : TI} {es : Nat} {a b : Int} {xs zs : List α} {enc : α→List DV} (c : slc xs a b = some zs) (m : Qr ops ⟨sl,hp,nx⟩ ⟨some t,.slice f x lo hi none,ty,pos,af,g⟩ = some true) (p : T f = some i) (q : i.kind = .slice) (r : es = i.esize)
    (n : AS.ev ⟨sl,hp,nx⟩ x = some (.d (.sl es (xs.map enc)))) (k : 0≤a→bound ⟨sl,hp,nx⟩ 0 lo = some a.toNat) (j : 0≤b→bound ⟨sl,hp,nx⟩ xs.length hi = some b.toNat)
    (h : OpsK P T base ops dr l ⟨(t,.d (.sl es (zs.map enc)))::sl,hp,nx⟩ K) : OpsK P T base ops dr (⟨some t,.slice f x lo hi none,ty,pos,af,g⟩::l) ⟨sl,hp,nx⟩ K:=by
  unfold slc at c;split at c
  · rename_i o;cases c;refine Ya m (v:=.d (.sl es ((((xs.drop a.toNat).take (b.toNat - a.toNat))).map enc))) (st1:=⟨sl,hp,nx⟩) ?_ h (Zv rfl);simp only [opFn,p,n,q,lenV,List.length_map,k o.1,j q0,q8p];rw [qs ⟨trivial,rfl⟩];rw [qs ⟨q0,by simp;omega,r⟩];simp
  · cases c
theorem q39 {o : Operand} {k : IntKind} {a : Int} {d : Nat} {st : AS} (h : st.ev o = some (.d (.int k a))) (b : 0≤a) : bound st d (some o) = some a.toNat:=by
  simp [bound,h,b]
theorem q86 {x : Operand} {d : TypeId} {lo hi : Option Operand} {i : TI} {n es len : Nat} {a b : Int} {w : Nat × Nat} (c : sub2 len a b = some w) (k : Qr ops ⟨sl,hp,nx⟩ ⟨some t,.slice d x lo hi none,ty,pos,af,g⟩ = some true) (p : T d = some i) (q : i.kind = .slice) (r : es = i.esize)
    (m : AS.ev ⟨sl,hp,nx⟩ x = some (.hs n es 0 len)) (j : 0≤a→bound ⟨sl,hp,nx⟩ 0 lo = some a.toNat) (f : 0≤b→bound ⟨sl,hp,nx⟩ len hi = some b.toNat)
    (h : OpsK P T base ops dr l ⟨(t,.hs n es w.1 w.2)::sl,hp,nx⟩ K) : OpsK P T base ops dr (⟨some t,.slice d x lo hi none,ty,pos,af,g⟩::l) ⟨sl,hp,nx⟩ K:=by
  unfold sub2 at c;split at c
  · rename_i o;cases c;refine Ya k (v:=.hs n es a.toNat (b.toNat - a.toNat)) (st1:=⟨sl,hp,nx⟩) ?_ h (Zv rfl);simp only [opFn,p,m,q,lenV,j o.1,f q0,q8p];grind
  · cases c
theorem qa4 {n : Nat} {a b : Int} {w : Nat × Nat} (h : sub2 n a b = some w) : w.1 + w.2≤n:=by
  unfold sub2 at h;grind
theorem q10e {α β : Type} (f : α→β) (xs ys : List α) (j : Nat) : splice (xs.map f) j (ys.map f) = (splice xs j ys).map f:=by
  simp [splice,List.map_take,List.map_drop]
theorem qk7 {α : Type} {x y : Operand} {a b : TypeId} {i j : TI} {n es : Nat} {w : Nat × Nat} {xs ys : List α} {enc : α→List DV} (c : V) (q : w.1 + w.2≤xs.length) (m : Qr ops ⟨sl,hp,nx⟩ ⟨some t,.call {callee:=.builtin .copy,args:=#[x,y],argTypes:=#[a,b]},ty,pos,af,g⟩ = some true)
    (r : T a = some i) (k : T b = some j) (o : AS.ev ⟨sl,hp,nx⟩ x = some (.hs n es w.1 w.2)) (s : AS.ev ⟨sl,hp,nx⟩ y = some c) (hb : find hp n = some (.dat es (xs.map enc))) (hc : Yx ⟨sl,hp,nx⟩ c = some (ys.map enc))
    (z : i.kind = .slice) (f : j.kind = .slice) (he : es = i.esize) (u : J4 i.esize c = true)
    (h : OpsK P T base ops dr l ⟨(t,.d (.int .i64 (min ys.length w.2 : Nat)))::sl,repl hp n (.dat es ((cpyw xs w ys).map enc)),nx⟩ K) (p : okO dr l.length ⟨sl,hp,nx⟩ (.call {callee:=.builtin .copy,args:=#[x,y],argTypes:=#[a,b]}) ⟨sl,repl hp n (.dat es ((cpyw xs w ys).map enc)),nx⟩ = true:=by rfl) : OpsK P T base ops dr (⟨some t,.call {callee:=.builtin .copy,args:=#[x,y],argTypes:=#[a,b]},ty,pos,af,g⟩::l) ⟨sl,hp,nx⟩ K:=by
  refine Ya m (v:=.d (.int .i64 (min ys.length w.2 : Nat))) (st1:=⟨sl,repl hp n (.dat es ((cpyw xs w ys).map enc)),nx⟩) ?_ h p;simp only [opFn,evL,o,s,Y9];simp only [List.getElem?_toArray,List.getElem?_cons_zero,List.getElem?_cons_succ,r,k];rw [qs ⟨z,f,by simp [J4,he],u⟩];simp only [copyV,AS.blk,hb,hc];rw [qs ⟨by simpa using q,trivial⟩];simp only [List.length_map,cpyw,← List.map_take,q10e,AS.setBlk]
theorem qpa {α : Type} {n es : Nat} {w : Nat × Nat} {ys : List α} {enc : α→List DV} (a : w.1 + w.2≤ys.length) (hb : find hp n = some (.dat es (ys.map enc))) : Yx ⟨sl,hp,nx⟩ (.hs n es w.1 w.2) = some (((ys.drop w.1).take w.2).map enc):=by
  simp only [Yx,AS.blk,hb];simp_all
theorem qkb {α : Type} {c a : Operand} {f : TypeId} {i : TI} {k u : IntKind} {n : Int} {z : α} {zs : List α} {enc : α→List DV} (b : mks i.ebytes n z = some zs) (m : Qr ops ⟨sl,hp,nx⟩ ⟨some t,.makeSlice f a c,ty,pos,af,g⟩ = some true) (q : T f = some i) (s : i.kind = .slice)
    (o : AS.ev ⟨sl,hp,nx⟩ a = some (.d (.int k n))) (r : AS.ev ⟨sl,hp,nx⟩ c = some (.d (.int u n))) (w : enc z = i.ezero)
    (h : OpsK P T base ops dr l ⟨(t,.hs nx i.esize 0 zs.length)::sl,(nx,.dat i.esize (zs.map enc))::hp,nx + 1⟩ K) (p : okF dr l.length (fp ⟨sl,hp,nx⟩ (.makeSlice f a c)) = true:=by rfl) : OpsK P T base ops dr (⟨some t,.makeSlice f a c,ty,pos,af,g⟩::l) ⟨sl,hp,nx⟩ K:=by
  unfold mks at b;split at b
  · rename_i j;cases b;refine Ya m (v:=.hs nx i.esize 0 n.toNat) (st1:=⟨sl,(nx,.dat i.esize (List.replicate n.toNat i.ezero))::hp,nx + 1⟩) ?_ (by simp [w] at h;exact h) (qf2 rfl p);simp only [opFn,q,o,r];rw [qs ⟨s,j.1,q0,by have:=j.2;simpa [room] using this⟩];rfl
  · cases b
theorem q59 {k c : IntKind} {a b : Int} {r : List V} : minI false (.d (.int k a)) (.d (.int c b)::r) = minI false (.d (.int k (min a b))) r:=by
  simp only [minI];grind
theorem q3p {k c : IntKind} {a b : Int} {r : List V} : minI true (.d (.int k a)) (.d (.int c b)::r) = minI true (.d (.int k (max a b))) r:=by
  simp only [minI];grind
theorem q5e {xs : Array Operand} {ats : Array TypeId} {b : List V} {k : IntKind} {a : Int} {r : Int} (c : Qr ops ⟨sl,hp,nx⟩ ⟨some t,.call {callee:=.builtin .min,args:=xs,argTypes:=ats},ty,pos,af,g⟩ = some true) (f : evL (AS.ev ⟨sl,hp,nx⟩) xs.toList = some (.d (.int k a)::b)) (j : minI false (.d (.int k a)) b = some (.d (.int k r)))
    (h : OpsK P T base ops dr l ⟨(t,.d (.int k r))::sl,hp,nx⟩ K) : OpsK P T base ops dr (⟨some t,.call {callee:=.builtin .min,args:=xs,argTypes:=ats},ty,pos,af,g⟩::l) ⟨sl,hp,nx⟩ K:=
  Ya c (v:=.d (.int k r)) (st1:=⟨sl,hp,nx⟩) (by simp [opFn,f,Y9,j]) h (Zv rfl)
theorem q3q {xs : Array Operand} {ats : Array TypeId} {b : List V} {k : IntKind} {a : Int} {r : Int} (c : Qr ops ⟨sl,hp,nx⟩ ⟨some t,.call {callee:=.builtin .max,args:=xs,argTypes:=ats},ty,pos,af,g⟩ = some true) (f : evL (AS.ev ⟨sl,hp,nx⟩) xs.toList = some (.d (.int k a)::b)) (j : minI true (.d (.int k a)) b = some (.d (.int k r)))
    (h : OpsK P T base ops dr l ⟨(t,.d (.int k r))::sl,hp,nx⟩ K) : OpsK P T base ops dr (⟨some t,.call {callee:=.builtin .max,args:=xs,argTypes:=ats},ty,pos,af,g⟩::l) ⟨sl,hp,nx⟩ K:=
  Ya c (v:=.d (.int k r)) (st1:=⟨sl,hp,nx⟩) (by simp [opFn,f,Y9,j]) h (Zv rfl)
theorem qbe {x y : Operand} {f j : TypeId} {a b r : Int} (c : J7 a b = some r) (m : Qr ops ⟨sl,hp,nx⟩ ⟨some t,.binOp .quo f x y j,ty,pos,af,g⟩ = some true) (n : AS.ev ⟨sl,hp,nx⟩ x = some (.d (.int .i64 a))) (o : AS.ev ⟨sl,hp,nx⟩ y = some (.d (.int .i64 b)))
    (h : OpsK P T base ops dr l ⟨(t,.d (.int .i64 r))::sl,hp,nx⟩ K) : OpsK P T base ops dr (⟨some t,.binOp .quo f x y j,ty,pos,af,g⟩::l) ⟨sl,hp,nx⟩ K:=by
  unfold J7 at c;split at c
  · cases c
  · rename_i k;cases c;exact Ya m (v:=.d (.int .i64 (w64 (a.tdiv b)))) (st1:=⟨sl,hp,nx⟩) (by simp [opFn,n,o,binD,binI,k];rfl) h (Zv rfl)
theorem q3r {c : Call} {f : FuncId} {ds : List DV} {r : DV} (a : List V) (b : Pure P T f ds r) (j : Qr ops ⟨sl,hp,nx⟩ ⟨some t,.call c,ty,pos,af,g⟩ = some true) (m : callee ⟨sl,hp,nx⟩ c = some (f,a)) (hd : Kv hp a = some ds)
    (hs : (a.all V.isD = true∨r.scalar = true)) (h : OpsK P T base ops dr l ⟨(t,.d r)::sl,hp,nx⟩ K) (k : okF dr l.length (fpC a) = true:=by rfl) : OpsK P T base ops dr (⟨some t,.call c,ty,pos,af,g⟩::l) ⟨sl,hp,nx⟩ K:=
  qk6 j rfl m hd hs b h k
theorem Zw {hp : List (Nat × Blk)} {v : V} {d : DV} {a : List V} {ds : List DV} (h : toD hp 8 v = some d) (b : Kv hp a = some ds) : Kv hp (v::a) = some (d::ds):=by
  simp [Kv,h,b]
theorem Zk {α : Type} {k n es len : Nat} {ys : List α} {enc : α→List DV} (a : len = ys.length) (hb : find hp n = some (.dat es (ys.map enc))) : toD hp (k + 1) (.hs n es 0 len) = some (.sl es (ys.map enc)):=by
  subst a;simp only [toD,hb];grind
theorem q32 {k : Nat} {a : List V} {ds : List DV} (h : Zt (toD hp k) a = some ds) : toD hp (k + 1) (.tup a) = some (.tup ds):=by simp [toD,h]
theorem Zu {k : Nat} {v : V} {d : DV} {a : List V} {ds : List DV} (h : toD hp k v = some d) (b : Zt (toD hp k) a = some ds) : Zt (toD hp k) (v::a) = some (d::ds):=by simp [Zt,h,b]
inductive DLeL : List DV→List DV→Prop
  | nil : DLeL [] []
  | cons {x y : DV} {xs ys : List DV} : DLe x y→DLeL xs ys→DLeL (x::xs) (y::ys)
theorem DLeL.len {xs ys : List DV} (h : DLeL xs ys) : xs.length = ys.length:=by
  induction h with
  | nil=>rfl
  | cons _ _ ih=>simp [ih]
theorem DLeL.get {xs ys : List DV} (h : DLeL xs ys) : ∀ (i : Nat) (x y : DV),xs[i]? = some x→ys[i]? = some y→DLe x y:=by
  induction h with
  | nil=>intro i x y h;simp at h
  | cons h1 _ ih=>grind
theorem Y4 {xs ys : List DV} (h : DLeL xs ys) : DLe (.tup xs) (.tup ys):=.tup h.len h.get
theorem finD {ex : Ex} {st : AS} {b : List ResultVar} {v : V} {r a : DV} (c : ex = .nor∨ex = .ret) (d : resV T st b = some v) (f : toD st.hp 8 v = some a) (g : DLe a r) : (ex = .nor∨ex = .ret)∧∃ v a,resV T st b = some v∧toD st.hp 8 v = some a∧DLe a r:=
  ⟨c,v,a,d,f,g⟩
end
theorem qn4 {α : Type} {st : AS} {ρ : Nat→Nat} {fz ph : List Nat} {nx n es len : Nat} {ys : List α} {enc : α→List DV} (b : len = ys.length) (hb : st.blk n = some (.dat es (ys.map enc))) (a : n∈fz) : Wv st ρ fz ph nx (.hs n es 0 len) (.d (.sl es (ys.map enc))):=by
  subst b;exact .frz hb a qe (by rw [List.drop_zero,List.take_of_length_le qe]) rfl
theorem K4 {st : AS} {ρ : Nat→Nat} {fz ph : List Nat} {nx n m es o l l' : Nat} (d : l = l') (a : ρ m = n) (c : m ∉ ph) (b : m < nx) : Wv st ρ fz ph nx (.hs n es o l) (.hs m es o l'):=d ▸ .hs a c b
inductive WvC (st : AS) (ρ : Nat→Nat) (fz ph : List Nat) (nx : Nat) : List V→List V→Prop
  | nil : WvC st ρ fz ph nx [] []
  | cons {c d : V} {cs ds : List V} : Wv st ρ fz ph nx c d→Kp d = true→WvC st ρ fz ph nx cs ds→WvC st ρ fz ph nx (c::cs) (d::ds)
theorem WvC.len {st : AS} {ρ : Nat→Nat} {fz ph : List Nat} {nx : Nat} {cs ds : List V} (h : WvC st ρ fz ph nx cs ds) : cs.length = ds.length:=by
  induction h with
  | nil=>rfl
  | cons _ _ _ ih=>simp [ih]
theorem WvC.get {st : AS} {ρ : Nat→Nat} {fz ph : List Nat} {nx : Nat} {cs ds : List V} (h : WvC st ρ fz ph nx cs ds) : ∀ (j : Nat) (c d : V),cs[j]? = some c→ds[j]? = some d→Wv st ρ fz ph nx c d∧Kp d = true:=by
  induction h with
  | nil=>intro i x y h;simp at h
  | cons h1 h2 _ ih=>grind
theorem Zl {st : AS} {ρ : Nat→Nat} {fz ph : List Nat} {nx es : Nat} {cs ds : List V} (h : WvC st ρ fz ph nx cs ds) : Wb st ρ fz ph nx (.cel es [cs]) (.cel es [ds]):=by
  refine .cel rfl fun i x y a b=>?_
  cases i with
  | zero=>simp at a b;subst a b;exact ⟨h.len,h.get⟩
  | succ i=>simp at a
theorem qg4 {st : AS} {ρ : Nat→Nat} {fz ph : List Nat} {nx es : Nat} {cs : List DV} {ds : List V} (h : WvC st ρ fz ph nx (cs.map .d) ds) : Wb st ρ fz ph nx (.dat es [cs]) (.cel es [ds]):=by
  refine .datcel rfl fun i x y a b=>?_
  cases i with
  | zero=>
    simp at a b;subst a b;exact ⟨by simpa using h.len,fun j c d f hd=>h.get j (.d c) d (by simp [f]) hd⟩
  | succ i=>simp at a
inductive WvL (st : AS) (ρ : Nat→Nat) (fz ph : List Nat) (nx : Nat) : List V→List V→Prop
  | nil : WvL st ρ fz ph nx [] []
  | cons {c d : V} {cs ds : List V} : Wv st ρ fz ph nx c d→WvL st ρ fz ph nx cs ds→WvL st ρ fz ph nx (c::cs) (d::ds)
theorem WvL.len {st : AS} {ρ : Nat→Nat} {fz ph : List Nat} {nx : Nat} {cs ds : List V} (h : WvL st ρ fz ph nx cs ds) : cs.length = ds.length:=by
  induction h with
  | nil=>rfl
  | cons _ _ ih=>simp [ih]
theorem WvL.get {st : AS} {ρ : Nat→Nat} {fz ph : List Nat} {nx : Nat} {cs ds : List V} (h : WvL st ρ fz ph nx cs ds) : ∀ (j : Nat) (c d : V),cs[j]? = some c→ds[j]? = some d→Wv st ρ fz ph nx c d:=by
  induction h with
  | nil=>intro i x y h;simp at h
  | cons h1 _ ih=>grind
theorem Uy {st : AS} {ρ : Nat→Nat} {fz ph : List Nat} {nx : Nat} {f : FuncId} {cs ds : List V} (h : WvL st ρ fz ph nx cs ds) : Wv st ρ fz ph nx (.fn f cs) (.fn f ds):=.fn h.len h.get
theorem qg8 {st : AS} {ρ : Nat→Nat} {fz ph : List Nat} {nx : Nat} {cs ds : List V} (h : WvL st ρ fz ph nx cs ds) : Wv st ρ fz ph nx (.tup cs) (.tup ds):=.tup h.len h.get
theorem q11o {st : AS} {ρ : Nat→Nat} {fz ph : List Nat} {nx : Nat} {cs : List DV} {ds : List V} (h : WvL st ρ fz ph nx (cs.map .d) ds) : Wv st ρ fz ph nx (.d (.tup cs)) (.tup ds):=
  .dtup (by have:=h.len;simpa using this) fun i c d a hd=>h.get i _ d (by simp [a]) hd
theorem q11n {st : AS} {ρ : Nat→Nat} {fz ph : List Nat} {nx : Nat} {cs : List DV} {ds : List V} (h : WvL st ρ fz ph nx (cs.map .d) ds) : Wv st ρ fz ph nx (.d (.agg cs)) (.agg ds):=
  .dagg (by have:=h.len;simpa using this) fun i c d a hd=>h.get i _ d (by simp [a]) hd
theorem qcn {st : AS} {ρ : Nat→Nat} {fz ph : List Nat} {nx : Nat} {cs ds : List V} (h : WvL st ρ fz ph nx cs ds) : Wv st ρ fz ph nx (.agg cs) (.agg ds):=.agg h.len h.get
theorem qi6 {P : Program} {T : Tab} {f : FuncId} {ds g : List DV} (j : DLeL g ds) {l : List V} {hp hp' : List (Nat × Blk)} {nx nx' : Nat} {v : V} : K9 P T f l hp nx v hp' nx'→l = ds.map .d→hp = []→nx = 0→K9 P T f (g.map .d) [] 0 v hp' nx'
  | .wk e w,a,hh,hn=>by
    have h:=qi6 j e a hh hn
    subst hh hn
    exact .wk h w
  | .mk h1 h2 h3 h4 h5 h6 h7 h8,a,hh,hn=>by
    subst a hh hn
    refine .mk h1 h2 h3 h4 (by simpa [j.len] using h5) (.wk (ρ:=fun n=>n) (fz:=[]) (ph:=[]) ⟨?_,?_,?_,?_,?_,?_,?_,?_⟩ h6) h7 h8
    · intro t p a
      simp only [AS.get,qag] at a ⊢
      simp only [Nat.zero_le,if_true,Nat.sub_zero,List.getElem?_map,Y3] at a ⊢
      obtain ⟨y,o,rfl⟩:=a
      obtain ⟨x,k⟩:=Zp (xs:=g) (i:=t) (by rw [j.len];exact Kh o)
      exact ⟨_,⟨x,k,rfl⟩,.d (j.get t x y k o)⟩
    · intro n b h;simp [AS.blk,find] at h
    · intro n m b c h;simp [AS.blk,find] at h
    · intro n b h;simp [AS.blk,find] at h
    · intro n h;rfl
    · exact Nat.le_refl _
    · intro n h;cases h
    · intro n h;cases h
theorem qtt {P : Program} {T : Tab} {f : FuncId} {ds a : List DV} {r : DV} (c : DLeL a ds) (h : Pure P T f ds r) : Pure P T f a r:=by
  obtain ⟨v,hp,nx,d,e,g,b⟩:=h;exact ⟨v,hp,nx,d,qi6 c e rfl rfl rfl,g,b⟩
end Go.Am
namespace Go.Sh
open Go Go.Am
theorem q7y {α : Type} (xs : List α) (k : Nat) : idx xs (k : Int) = xs[k]?:=by simp [idx]
theorem K5 {α : Type} {xs : List α} {k : Nat} (h : k < xs.length) : idx xs (k : Int) = some xs[k]:=by simp [idx,h]
theorem Zr {α : Type} {xs : List α} {i : Int} {k : Nat} (hi : i = k) (h : k < xs.length) : idx xs i = some xs[k]:=by subst hi;exact K5 h
theorem Z7 {α : Type} {c : Nat} {xs ys : List α} (h : (xs.length + ys.length) * (c * 4)≤4294967296) : app c xs ys = some (xs ++ ys):=by simp [app,h]
theorem qp6 {α : Type} {c : Bool} {a b : α} : (cond c (some a) (some b)) = some (cond c a b):=by cases c <;> rfl
theorem Yg {α β σ : Type} {f : α→Option (α ⊕ β)} (mk : Nat→σ→α) (n : Nat) (I : Nat→σ→Prop) (Q : β→Prop)
    (step : ∀ k c,k < n→I k c→(∃ g,f (mk k c) = some (.inl (mk (k + 1) g))∧I (k + 1) g)∨∃ b,f (mk k c) = some (.inr b)∧Q b)
    (done : ∀ c,I n c→∃ b,f (mk n c) = some (.inr b)∧Q b) {k0 : Nat} {c0 : σ} (h : k0≤n) (j : I k0 c0) : ∃ b,loop f (mk k0 c0) = some b∧Q b:=by
  have key : ∀ m k c,n - k = m→k≤n→I k c→∃ b,loop f (mk k c) = some b∧Q b:=by
    intro m
    induction m with
    | zero=>
      intro k c l h hi;obtain rfl : k = n:=by omega
      obtain ⟨b,a,d⟩:=done c hi;exact ⟨b,Kg a,d⟩
    | succ m ih=>
      intro k c l h hi;rcases step k c q0 hi with ⟨g,a,d⟩ | ⟨b,a,d⟩
      · rw [Ke a];exact ih (k + 1) g q0 q0 d
      · exact ⟨b,Kg a,d⟩
  exact key _ k0 c0 rfl h j
def I64 (x : Int) : Prop:=-9223372036854775808≤x∧x≤9223372036854775807
end Go.Sh
