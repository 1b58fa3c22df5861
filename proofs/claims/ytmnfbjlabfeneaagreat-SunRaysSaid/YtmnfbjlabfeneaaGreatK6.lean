/- Am26 Am27 Am28 Am29 Am30 Am31 Lf1 Pl0 Su1 -/
import Derived.Test.YtmnfbjlabfeneaaGreatK5
import Derived.ProofKit
import Derived.OpenShut
import Derived.Deep.Slices
namespace Go.Am
open Go
variable {P : Program} {T : Tab}
def wpL (F : Fence) (P : Program) (c : Code) (Q : Exit→Act→World→Prop) (a : Act) (w : World) : Prop:=
  ∀ (b : Frame) (k : List Item) (cs : List Frame),b.roundOf = F.round→F.fn b.fn→F.room (cs.length + 1 + 0)→
    ∃ e a' w',Q e a' w'∧ArrivesIn (Machine.fenced P F) P (lone (b.atR a (.code c::.inLoop c::k)) cs w) b k cs e a' w'
theorem qlh {F : Fence} {c : Code} {Q : Exit→Act→World→Prop} {a : Act} {w : World} (h : c.wpIn F 0 P (Exit.then (wpL F P c Q) Q) a w) : wpL F P c Q a w:=by
  intro b k cs n hb o;obtain ⟨e,m,j,g,d⟩:=h b (.inLoop c::k) cs n hb o
  cases e with
  | normal=>
    obtain ⟨s,q,r,p,f⟩:=g b k cs n hb o;exact ⟨s,q,r,p,.of_steps (StepsIn.trans d (.one (fenced_calm hb o rfl) stepR_inLoop)) f⟩
  | exit id=>exact ⟨_,m,j,g,.pass (x:=.inLoop c) rfl (fun _ _=>.inl qd) d⟩
  | goto l=>exact ⟨_,m,j,g,.pass (x:=.inLoop c) rfl (fun _ _=>.inl qd) d⟩
  | ret=>exact ⟨_,m,j,g,.pass (x:=.inLoop c) rfl (fun _ _=>.inl qd) d⟩
  | panic ch=>exact ⟨_,m,j,g,.pass (x:=.inLoop c) rfl (fun _ _=>.inl qd) d⟩
  | outgrown=>exact ⟨_,m,j,g,.pass (x:=.inLoop c) rfl (fun _ _=>.inl qd) d⟩
theorem qza {F : Fence} {c : Code} {Q : Exit→Act→World→Prop} {a : Act} {w : World} (h : wpL F P c Q a w) : (Code.loop c).wpIn F 0 P Q a w:=by
  intro b k cs f hb g;obtain ⟨e,a',w',j,d⟩:=h b k cs f hb g;exact ⟨e,a',w',j,.of_steps (.one (fenced_calm hb g rfl) stepR_loop) d⟩
theorem qlg {F : Fence} {c : Code} {Q d : Exit→Act→World→Prop} {a : Act} {w : World} (h : wpL F P c Q a w) (j : ∀ e a w,Q e a w→d e a w) : wpL F P c d a w:=
  fun b k cs g l f=>let ⟨e,a',w',q,r⟩:=h b k cs g l f;⟨e,a',w',j _ _ _ q,r⟩
def CP (base : Nat) (w : World) (Z : Nat→Prop) (inj : Inj) (st : AS) (a : Act) (Ds : List Nat) (ex : Ex) (st' : AS) (e : Exit) (a' : Act) (w' : World) : Prop:=e = toE ex∧Kk base w Z inj st a Ds st' a' w'
def Kg (P : Program) (base : Nat) (c : Code) (st : AS) (ex : Ex) (st' : AS) : Prop:=
  ∀ (ro : Option Nat) (w : World) (Z : Nat→Prop) (inj : Inj) (a : Act) (Ds : List Nat),RelS w Z inj st a Ds→codeOk a.tmps.size c = true→base≤st.nx→Y5 ro w→
    c.wpIn (Fw ro) 0 P (CP base w Z inj st a Ds ex st') a w∧∀ d,c = .loop d→wpL (Fw ro) P d (CP base w Z inj st a Ds ex st') a w
section
variable {base : Nat} {st st1 st2 : AS} {ex : Ex}
theorem Zo {c : Code} (k : ∀ d,c≠.loop d) (h : ∀ (ro : Option Nat) (w : World) (Z : Nat→Prop) (inj : Inj) (a : Act) (Ds : List Nat),RelS w Z inj st a Ds→codeOk a.tmps.size c = true→base≤st.nx→Y5 ro w→
    c.wpIn (Fw ro) 0 P (CP base w Z inj st a Ds ex st1) a w) : Kg P base c st ex st1:=
  fun ro w Z inj a Ds g f b j=>⟨h ro w Z inj a Ds g f b j,fun d hd=>absurd hd (k d)⟩
theorem Kk.round {w : World} {Z : Nat→Prop} {inj : Inj} {a : Act} {Ds : List Nat} {a' : Act} {w' : World} {ro : Option Nat} (h : Kk base w Z inj st a Ds st1 a' w') (b : Y5 ro w) : Y5 ro w':=by
  obtain ⟨_,_,_,_,e,_⟩:=h;exact b.ext e
theorem qmy : Kg P base .skip st .nor st:=
  Zo qd fun ro w Z inj a Ds h _ hb _=>wpIn_skip ⟨rfl,Kk.refl h hb⟩
theorem qmn {id : Nat} : Kg P base (.exit id) st (.exit id) st:=
  Zo qd fun ro w Z inj a Ds h _ hb _=>wpIn_exit ⟨rfl,Kk.refl h hb⟩
theorem qmu : Kg P base .ret st .ret st:=
  Zo qd fun ro w Z inj a Ds h _ hb _=>wpIn_ret ⟨rfl,Kk.refl h hb⟩
theorem qmw {a b : Code} (n : Kg P base a st .nor st1) (m : Kg P base b st1 ex st2) : Kg P base (.seq a b) st ex st2:=by
  refine Zo qd fun ro w Z inj act Ds h c hb j=>wpIn_seq (wpIn_mono (n ro w Z inj act Ds h ?_ hb j).1 ?_)
  · simp only [codeOk,Bool.and_eq_true] at c;exact c.1
  · rintro e a' w' ⟨rfl,hp⟩;refine hp.bind fun Z' inj' l k f g _ d=>?_;refine wpIn_mono (m ro w' Z' inj' a' l k ?_ g (hp.round j)).1 ?_
    · simp only [codeOk,Bool.and_eq_true] at c;rw [f];exact c.2
    · rintro e o p ⟨rfl,hp2⟩;exact ⟨rfl,d _ _ _ hp2⟩
theorem qmx {a b : Code} (g : Kg P base a st ex st1) (f : ex≠.nor) : Kg P base (.seq a b) st ex st1:=by
  refine Zo qd fun ro w Z inj act Ds h c hb d=>wpIn_seq (wpIn_mono (g ro w Z inj act Ds h ?_ hb d).1 ?_)
  · simp only [codeOk,Bool.and_eq_true] at c;exact c.1
  · rintro e a' w' ⟨rfl,hp⟩
    cases ex with
    | nor=>exact absurd rfl f
    | exit id=>exact ⟨rfl,hp⟩
    | ret=>exact ⟨rfl,hp⟩
theorem qmm {c : Operand} {a b : Code} (j : st.ev c = some (.d (.bool true))) (k : Kg P base a st ex st1) : Kg P base (.cond c a b) st ex st1:=by
  refine Zo qd fun ro w Z inj act Ds h f hb g=>wpIn_cond_true ?_ (k ro w Z inj act Ds h ?_ hb g).1
  · have:=Ka h j;generalize act.eval c = x at this
    cases this with | d this=>cases this;rfl
  · simp only [codeOk,Bool.and_eq_true] at f;exact f.1
theorem qml {c : Operand} {a b : Code} (j : st.ev c = some (.d (.bool false))) (k : Kg P base b st ex st1) : Kg P base (.cond c a b) st ex st1:=by
  refine Zo qd fun ro w Z inj act Ds h f hb g=>wpIn_cond_false ?_ (k ro w Z inj act Ds h ?_ hb g).1
  · have:=Ka h j;generalize act.eval c = x at this
    cases this with | d this=>cases this;rfl
  · simp only [codeOk,Bool.and_eq_true] at f;exact f.2
theorem qmk {id : Nat} {a : Code} (d : Kg P base a st ex st1) : Kg P base (.block id a) st (ex.block id) st1:=by
  refine Zo qd fun ro w Z inj act Ds h b hb c=>wpIn_block (wpIn_mono (d ro w Z inj act Ds h b hb c).1 ?_);rintro e a' w' ⟨rfl,hp⟩
  cases ex with
  | nor=>exact ⟨rfl,hp⟩
  | ret=>exact ⟨rfl,hp⟩
  | exit i=>
    by_cases hi : i = id
    · simp only [toE,Exit.inBlock,hi,if_true,Ex.block];exact ⟨rfl,hp⟩
    · simp only [toE,Exit.inBlock,hi,if_false,Ex.block];exact ⟨rfl,hp⟩
theorem qmo {l : Nat} : Kg P base (.label l) st .nor st:=
  Zo qd fun ro w Z inj a Ds h _ hb _=>wpIn_label ⟨rfl,Kk.refl h hb⟩
theorem qmv {a : Code} (p : Kg P base a st ex st1) : Kg P base (.scope a) st ex st1:=by
  refine Zo qd fun ro w Z inj act Ds h n hb o=>?_;intro b k cs f d m;have j : ∀ {g : Act} {w0 : World},step P (lone (b.atR g (.code (.scope a)::k)) cs w0) = .next (lone (b.atR g (.code a::.inScope a::k)) cs w0):=step_lone_go (by simp [stepG,stepG.exec,Frame.atR]);have v : ∀ {g : Act} {w0 : World},step P (lone (b.atR g (.inScope a::k)) cs w0) = .next (lone (b.atR g k) cs w0):=step_lone_go (by simp [stepG,stepG.exec,Frame.atR]);have l : (lone (b.atR act (.code (.scope a)::k)) cs w).fenced P (Fw ro):=fenced_calm d m rfl;obtain ⟨e,u,t,s,c⟩:=(p ro w Z inj act Ds h n hb o).1 b (.inScope a::k) cs f d m;refine ⟨e,u,t,s,?_⟩;obtain ⟨rfl,_⟩:=s
  cases ex with
  | nor=>exact .head l j (StepsIn.trans c (.one (fenced_calm d m rfl) v))
  | exit id=>exact ⟨fun x q=>.head l j (c.1 x (by simp [exitTo,q])),fun r q=>let ⟨k₁,p,h2⟩:=c.2 r (by simp [exitTo,q]);⟨k₁,p,.head l j h2⟩⟩
  | ret=>exact .of_steps (.one l j) c
theorem qfg {a : Code} (h : ∀ (ro : Option Nat) (w : World) (Z : Nat→Prop) (inj : Inj) (act : Act) (Ds : List Nat),RelS w Z inj st act Ds→codeOk act.tmps.size (.loop a) = true→base≤st.nx→Y5 ro w→
    wpL (Fw ro) P a (CP base w Z inj st act Ds ex st1) act w) : Kg P base (.loop a) st ex st1:=
  fun ro w Z inj act Ds f c b g=>⟨qza (h ro w Z inj act Ds f c b g),fun d hd=>by cases hd;exact h ro w Z inj act Ds f c b g⟩
theorem qmp {a : Code} (m : Kg P base a st .nor st1) (l : Kg P base (.loop a) st1 ex st2) : Kg P base (.loop a) st ex st2:=by
  refine qfg fun ro w Z inj act Ds h f hb g=>qlh (wpIn_mono (m ro w Z inj act Ds h f hb g).1 ?_);rintro e a' w' ⟨rfl,hp⟩;refine hp.bind fun Z' inj' k j c d _ b=>?_;refine qlg ((l ro w' Z' inj' a' k j (by rw [c];exact f) d (hp.round g)).2 a rfl) ?_;rintro e n o ⟨rfl,hp2⟩;exact ⟨rfl,b _ _ _ hp2⟩
theorem qmq {a : Code} (d : Kg P base a st ex st1) (f : ex≠.nor) : Kg P base (.loop a) st ex st1:=by
  refine qfg fun ro w Z inj act Ds h b hb c=>qlh (wpIn_mono (d ro w Z inj act Ds h b hb c).1 ?_);rintro e a' w' ⟨rfl,hp⟩
  cases ex with
  | nor=>exact absurd rfl f
  | exit id=>exact ⟨rfl,hp⟩
  | ret=>exact ⟨rfl,hp⟩
theorem qmz {ρ : Nat→Nat} {fz ph : List Nat} {c : Code} (k : Wk base ρ fz ph st st1) (q : Kg P base c st1 ex st2) : Kg P base c st ex st2:=by
  intro ro w Z inj a Ds h g hb j;obtain ⟨f,s⟩:=q1o h k
  have b : ∀ e a' w',CP base w (wkZ Z inj st fz) (wkI inj ρ ph) st1 a Ds ex st2 e a' w'→CP base w Z inj st a Ds ex st2 e a' w':=by
    rintro e a' w' ⟨rfl,u,v,o,t,m,r,x,p⟩;exact ⟨rfl,u,v,o,t,s.trans m (Nat.le_refl _),r,x,p⟩
  obtain ⟨l,n⟩:=q ro w _ _ a Ds f g k.bs j;exact ⟨wpIn_mono l b,fun d hd=>qlg (n d hd) b⟩
theorem qn2 {ops : Array Oper} {ro : Option Nat} {w0 : World} {Z0 : Nat→Prop} {inj0 : Inj} {d : AS} {k : Act} {Ds0 : List Nat} {Q : Exit→Act→World→Prop} {l : List Oper} {st st' : AS} (v : Z6 P base ops l st st')
    (hd : ∀ o∈ops,Zq k.tmps.size o.dst = true) (q : ∀ a' w',Kk base w0 Z0 inj0 d k Ds0 st' a' w'→Q .normal a' w') : ∀ (pre : List Oper) (a : Act) (w : World),ops.toList = pre ++ l→Kk base w0 Z0 inj0 d k Ds0 st a w→Y5 ro w→
    wpOpsIn (Fw ro) 0 P ops Q (List.range' pre.length l.length) a w:=by
  have one : ∀ {o : Oper} {l : List Oper} {st st1 st2 : AS},J8 P base ops o st st1→(∀ (pre : List Oper) (a : Act) (w : World),ops.toList = pre ++ l→Kk base w0 Z0 inj0 d k Ds0 st1 a w→Y5 ro w→wpOpsIn (Fw ro) 0 P ops Q (List.range' pre.length l.length) a w)→
      ∀ (pre : List Oper) (a : Act) (w : World),ops.toList = pre ++ o::l→Kk base w0 Z0 inj0 d k Ds0 st a w→Y5 ro w→wpOpsIn (Fw ro) 0 P ops Q (List.range' pre.length (o::l).length) a w:=by
    intro o l st st1 st2 hs n pre a w p hp c
    have r : ops[pre.length]? = some o:=by rw [← Array.getElem?_toList,p];simp
    rw [List.length_cons,List.range'_succ,wpOpsIn_cons]
    refine qej r ?_
    refine hp.bind fun Z' inj' h b f j _ g=>?_
    refine hs ro Q w Z' inj' a h _ b (by rw [f];exact hd o (Array.mem_of_getElem? r)) j c fun a' w' hp'=>?_
    have:=n (pre ++ [o]) a' w' (by rw [p];simp) (g _ _ _ hp') (hp'.round c)
    simpa using this
  induction v with
  | nil=>intro pre a w _ hp _;simpa [wpOpsIn] using q _ _ hp
  | cons hs _ n=>exact one (st2:=st) hs (n q)
  | wk hw _ n=>
    intro pre a w p hp c;refine n q pre a w p ?_ c;obtain ⟨Z',inj',h,t,u,s,y,x⟩:=hp;obtain ⟨b,m⟩:=q1o t hw;exact ⟨_,_,h,b,u.trans m (Nat.le_refl _),s,hw.bs,x⟩
theorem qms {id : Nat} {ops : Array Oper} (f : Z6 P base ops ops.toList st st1) : Kg P base (.region id ops false) st .nor st1:=by
  refine Zo qd fun ro w Z inj a Ds h b hb c=>wpIn_region ?_
  have hd : ∀ o∈ops,Zq a.tmps.size o.dst = true:=by
    intro o d;simp only [codeOk,List.all_eq_true] at b;exact b o (by simpa using d)
  have:=qn2 (Q:=CP base w Z inj st a Ds .nor st1) f hd (fun a' w' hp=>⟨rfl,hp⟩) [] a w rfl (Kk.refl h hb) c;rw [List.range_eq_range'];simpa using this
theorem qmt {id : Nat} {ops : Array Oper} {F : List Fp} (d : P.follows .mixedOrders = true) (f : J7 P base ops F ops.toList st st1) (hd : q75 F ops = true) : Kg P base (.region id ops true) st .nor st1:=
  Zo qd fun ro w Z inj a Ds h b hb c=>qsx d (qnp hd) f h b hb c fun a' w' hp=>⟨rfl,hp⟩
theorem qoo {ops : Array Oper} {o : Oper} {c : Call} {g : Operand} {n : Nat} {vs : List V} {s s1 s2 : List (Nat × V)} {k : List Tmp} {assign body : Code}
    (hg : Qr ops st o = some true) (ho : o.op = .call c) (v : c.callee = .value g) (av : st.ev g = some (.yld n)) (ax : evL st.ev c.args.toList = some vs)
    (u : st.blk n = some (.loop s k assign body .ready none)) (an : k.length = vs.length)
    (h1 : Kg P st.nx assign {sl:=q1h s k vs,hp:=st.hp,nx:=st.nx} .nor st1) (bc : st1.blk n = some (.loop s1 k assign body .ready none))
    (h2 : Kg P st.nx body (st1.setBlk n (.loop s1 k assign body .busy none)) ex st2) (bj : st2.blk n = some (.loop s2 k assign body .busy none)) :
    J8 P base ops o st ({sl:=st.sl,hp:=repl st2.hp n (.loop s2 k assign body (if ex = .nor then .ready else .done) ex.code),nx:=st2.nx : AS}.putD o.dst (.d (.bool (decide (ex = .nor))))):=by
  intro ro Q w Z inj a Ds K h hd hb cx hK;unfold Jt;rw [q34 h hg];simp only [if_true];refine ⟨fun _ _=>trivial,?_⟩;have hr:=Ka h av;obtain ⟨b,r,hi,hw,es,ep,ai,bh,bn,ad,bi,_⟩:=qe3 (ls':=.ready) (pe':=none) (pin:=0) h.heap u;generalize bm : a.eval g = gv at hr
  cases hr with | @yld _ b' o' hlt hi'=>
  rw [hi] at hi';cases hi';have hl:=q31 h ax;have e2 : (c.args.toList.map a.eval).toArray = c.args.map a.eval:=by apply Array.ext';simp
  rw [e2] at hl;have az : (c.args.map a.eval).size = r.params.size:=by rw [← hl.1,ai];simp [an]
  have aq : (execOp a.eval o).run P w = .ok (.round b r.fn ((r.params.zip (c.args.map a.eval)).foldl (fun tmps (t,a)=>tmps.setIfInBounds t a) r.tmps) r.assign r.body) w:=by
    have:=run_yield (P:=P) hw az;obtain ⟨dst,op,type,pos,after,guard⟩:=o;simp only at ho;subst ho;obtain ⟨cy,args,argTypes⟩:=c;simp only at v;subst v;simp only [execOp,resolve,Sem.run_bind,bm,Deferred.ofValue,Sem.run_pure,Result.andThen_ok,invoke];simpa using this
  rw [show (Fw ro).round = ro from rfl,Oper.semAt_eq ro _ o (by rintro c' h';rw [ho] at h';cases h'),aq,Oper.uponIn_round];refine ⟨fun h=>by simp [Fw] at h,?_⟩;refine roundIn_of_wpIn trivial ?_
  have aa : (r.params.zip (c.args.map a.eval)).foldl (fun tmps (t,a)=>tmps.setIfInBounds t a) r.tmps = (k.zip (c.args.map a.eval).toList).foldl (fun tmps (x : Tmp × Value)=>tmps.setIfInBounds x.1 x.2) r.tmps:=by
    rw [ai,← Array.foldl_toList,Array.toList_zip]
  obtain ⟨y,f⟩:=qjz k vs (c.args.map a.eval).toList s r.tmps (by rw [Array.length_toList];exact hl.1) (fun i d c h1 h2=>hl.2 i d c h1 (by rw [← Array.getElem?_toList];exact h2)) ad.2.2 bi;rw [aa,bh,bn];generalize (k.zip (c.args.map a.eval).toList).foldl (fun tmps (x : Tmp × Value)=>tmps.setIfInBounds x.1 x.2) r.tmps = tm at y f;have ae : RelS w Z inj {sl:=q1h s k vs,hp:=st.hp,nx:=st.nx} {tmps:=tm,defers:=[]} []:=⟨y,h.heap,rfl,qd,qd⟩
  have z : Y5 (some b) w:=fun l hl=>by cases hl;exact ⟨r,hw⟩
  refine wpIn_mono (h1 (some b) w Z inj _ [] ae (by show codeOk tm.size assign = true;rw [f];exact ad.1) (Nat.le_refl _) z).1 ?_;rintro e a1 w1 ⟨rfl,Z1,q,ap,g1,g2,g3,g4,g5⟩;have ab : n < st.nx:=(h.heap.blk n _ u).1;obtain ⟨b1,r1,i1,bf,be,aj,bs,bp,bx,cd,cc,bg,j⟩:=qe3 (ls':=.busy) (pe':=none) (pin:=st.nx) g1.heap bc;rw [g2.pinj n ab,hi] at i1;cases i1;refine ⟨_,run_beginRound bf be,?_⟩;have e5 : ({r1 with state:=.busy} : Loop) = {r1 with state:=.busy,pending:=none}:=by cases r1;simp only at aj;subst aj;rfl
  rw [e5]
  have af : RelS (w1.putObj b (.loop {r1 with state:=.busy,pending:=none})) Z1 q (st1.setBlk n (.loop s1 k assign body .busy none)) a1 ap:=
    ⟨g1.slots.mono (j.zkeep g1.heap) j.zin j.big (fun _ _=>rfl) (Nat.le_refl _),bg,g1.defs,g1.nodup,fun D hD=>j.marks g1.heap (g1.marks D hD)⟩
  have al : Y5 (some b) (w1.putObj b (.loop {r1 with state:=.busy,pending:=none})):=(z.ext g2).ext j;refine wpIn_mono (h2 (some b) _ Z1 q a1 ap af (by rw [g3];show codeOk tm.size body = true;rw [f];exact ad.2.1) g4 al).1 ?_;rintro e a3 w3 ⟨rfl,Z3,am,co,k1,k2,k3,k4,k5⟩;obtain ⟨b3,r3,i3,bk,cn,cz,ce,ch,br,cf,bz,bl,ay⟩:=qe3 (ls':=if ex = .nor then .ready else .done) (pe':=ex.code) (pin:=st.nx) k1.heap bj;have bb : q n = some (b,0):=(g2.pinj n ab).trans hi;rw [k2.pinj n ab,bb] at i3;cases i3
  have m : K (a.put o.dst (.bool (decide (ex = .nor)))) (w3.putObj b (.loop {r3 with state:=if ex = .nor then .ready else .done,pending:=ex.code})):=by
    have ak : Ext w Z inj st.hp (w3.putObj b (.loop {r3 with state:=if ex = .nor then .ready else .done,pending:=ex.code})) Z3 am (repl st2.hp n (.loop s2 k assign body (if ex = .nor then .ready else .done) ex.code)) st.nx:=
      ((g2.trans j (Nat.le_refl _)).trans k2 (Nat.le_refl _)).trans ay (Nat.le_refl _)
    exact hK _ _ (q39 h hb ak bl k4 (.d (.bool _)) hd)
  have p:=run_endRound (P:=P) ex.code bk
  cases ex with
  | nor=>exact ⟨_,_,p,m⟩
  | ret=>exact ⟨_,_,p,m⟩
  | exit id=>exact ⟨_,_,p,m⟩
end
end Go.Am
namespace Go.Am
open Go
variable {P : Program} {T : Tab}
section
variable {base : Nat} {st st1 st2 : AS} {ex : Ex}
theorem qm8 {ro : Option Nat} {f : FuncId} {xs : Array Value} {w : World} {R : Ending→World→Prop} (h : CallsIn (Fw none) 0 P f xs w R) : CallsIn (Fw ro) 0 P f xs w R:=by
  cases ro <;> exact h
theorem qq1 {w : World} {Ds : List Nat} (h : Ds.Nodup) (b : ∀ D∈Ds,w.heap[D]? = some (.deferred (some []))) : (w.heap.size::Ds).Nodup:=
  List.nodup_cons.2 ⟨fun a=>by have:=J1 (b _ a);omega,h⟩
theorem qmr {g : Operand} {k : Array Tmp} {assign body : Code} {f : FuncId} {u : List V} {v : V} {hp : List (Nat × Blk)} {nx : Nat} {pe : Option Code} {s : List (Nat × V)} {ls : LoopState}
    (hg : st.ev g = some (.fn f u)∨∃ ds,st.ev g = some (.d (.fn f ds))∧u = ds.map .d)
    (y : J6 P f (.yld st.nx::u) ((st.nx,.loop st.sl k.toList assign body .ready none)::st.hp) (st.nx + 1) v hp nx)
    (ak : find hp st.nx = some (.loop s k.toList assign body ls pe)) (bi : ls≠.busy) (aw : pe = ex.code) : Kg P base (.rangeFunc g k assign body) st ex {sl:=st.sl,hp:=repl hp st.nx .dead,nx:=nx}:=by
  refine Zo qd fun ro w Z inj a Ds h z hb br=>wpIn_rangeFunc fun fn _=>?_;simp only [codeOk,Bool.and_eq_true,List.all_eq_true,Nat.blt_eq] at z
  have az : ∃ cs : Array Value,a.eval g = .func (.func f) #[] cs∧LRel w Z inj st.nx u cs:=by
    rcases hg with hg | ⟨ds,hg,rfl⟩
    · have hr:=Ka h hg;generalize a.eval g = gv at hr ⊢
      cases hr with | @fn _ _ cs h1 h2=>
      exact ⟨cs,rfl,h1,h2⟩
    · have hr:=Ka h hg;generalize a.eval g = gv at hr ⊢
      cases hr with | d hr=>
      cases hr with | @fn _ _ cs h1 h2=>
      refine ⟨cs,rfl,by simpa using h1,fun i d c hd hc=>?_⟩;simp only [List.getElem?_map,Ks] at hd;obtain ⟨d',hd,rfl⟩:=hd;exact .d (h2 i d' c hd hc)
  obtain ⟨cs,bq,an⟩:=az
  have rest : ∀ (n : World) (l : Nat) (mark : List Deferred) (r : Loop) (Dn : List Nat),(Instr.enterLoop fn a.tmps k assign body (Fw ro).round).run P w = .ok (l,mark) n→
      n.heap[l]? = some (.loop r)→r.state = .ready→r.pending = none→
      RelH n Z (upd inj st.nx (some (l,0))) ((st.nx,.loop st.sl k.toList assign body .ready none)::st.hp) (st.nx + 1)→
      Ext w Z inj st.hp n Z (upd inj st.nx (some (l,0))) ((st.nx,.loop st.sl k.toList assign body .ready none)::st.hp) st.nx→
      mark = Dn.map (fun D=>{target:=.collected D,args:=#[]})→(Dn ++ Ds).Nodup→(∀ D∈Dn,n.heap[D]? = some (.deferred (some []))∧w.heap.size≤D)→
      ∃ (l : Nat) (mark : List Deferred) (w₁ : World) (d : Deferred) (ai : World) (f : FuncId) (args : Array Value) (w₂ : World),
      (Instr.enterLoop fn a.tmps k assign body (Fw ro).round).run P w = .ok (l,mark) w₁∧
      (resolve a.eval (rangeCall g l) 0).run P w₁ = .ok d ai∧
      (∀ f',Target.leads P ai d.target d.args = some f'→(Fw ro).fn f')∧
      (invoke d.target d.args).run P ai = .ok (.enter f args) w₂∧
      ((Fw ro).depth.isSome = true→1≤0)∧
      CallsIn (Fw ro) (0 - 1) P f args w₂ (rangePost (Fw ro) 0 P l (CP base w Z inj st a Ds ex {sl:=st.sl,hp:=repl hp st.nx .dead,nx:=nx}) {a with defers:=mark ++ a.defers}):=by
    intro n l mark r Dn ab ci ch cf ap aa ae bm au
    refine ⟨l,mark,n,{target:=.fn (.func f) cs,args:=#[.func (.yield l) #[] #[]]},n,f,#[.func (.yield l) #[] #[]] ++ cs,n,ab,?_,fun _ _=>trivial,?_,fun h=>by simp [Fw] at h,?_⟩
    · simp only [resolve,bq];simp [Deferred.ofValue,Act.eval]
    · simp [invoke,y.1]
    · refine qm8 (CallsIn.mono (y.2 n Z _ _ ap ?_) ?_)
      · refine ⟨by simp [an.1];omega,fun i d c hd hc=>?_⟩
        cases i with
        | zero=>
          rw [Array.getElem?_append_left qd] at hc;simp at hd hc;subst hd hc;exact .yld q6 (Kt _ _ _)
        | succ i=>
          rw [Array.getElem?_append_right qd] at hc;simp at hd hc;exact (an.2 i d c hd hc).mono (fun b hz=>aa.keep b (h.heap.zs b hz) (h.heap.z_im hz)) (fun _ h=>h) aa.big (fun m hm=>aa.pinj m hm) q6
      · rintro e w3 ⟨x,Z',inj',rfl,bp,ag,cj,cn⟩
        obtain ⟨b3,r3,i3,ay,bg,bb,af⟩:=qt2 (pin:=st.nx) bp ak
        obtain ⟨bk,bl⟩:=af {r3 with state:=.exhausted} rfl
        have bn : b3 = l:=by
          have:=ag.pinj st.nx q6;rw [Kt,i3] at this;cases this;rfl
        subst bn
        refine ⟨r3.pending,_,run_endLoop ay (by rw [bg];exact bi),?_⟩
        have hE : Ext w Z inj st.hp (w3.putObj b3 (.loop {r3 with state:=.exhausted})) Z' inj' (repl hp st.nx .dead) st.nx:=(aa.trans ag q6).trans bl (Nat.le_refl _)
        have q : Kk base w Z inj st a Ds {sl:=st.sl,hp:=repl hp st.nx .dead,nx:=nx} {a with defers:=mark ++ a.defers} (w3.putObj b3 (.loop {r3 with state:=.exhausted})):=by
          refine ⟨Z',inj',Dn ++ Ds,⟨?_,bk,?_,bm,?_⟩,hE.pin_le hb,rfl,by show base≤nx;omega,?_⟩
          · exact h.slots.mono (hE.zkeep h.heap) hE.zin hE.big hE.pinj (by show st.nx≤nx;omega)
          · simp [ae,h.defs]
          · intro D t;rcases List.mem_append.1 t with t | t
            · obtain ⟨h5,h6⟩:=au D t;have h7:=ag.marks ap h5;rw [World.putObj_heap_other (fun e=>by rw [e] at h7;rw [ay] at h7;cases h7)];exact h7
            · exact hE.marks h.heap (h.marks D t)
          · intro D t;rcases List.mem_append.1 t with t | t
            · exact .inr (au D t).2
            · exact .inl t
        rw [bb,aw] at q
        rw [bb,aw]
        cases ex with
        | nor=>exact ⟨rfl,q⟩
        | exit id=>exact wpIn_exit ⟨rfl,q⟩
        | ret=>exact wpIn_ret ⟨rfl,q⟩
  have ac : ∀ (n : World) (l : Nat) (r : Loop),r.state = .ready→r.pending = none→r.tmps = a.tmps→r.params = k→r.assign = assign→r.body = body→Yg n Z (upd inj st.nx (some (l,0))) (st.nx + 1) st.sl a.tmps→
      n.heap[l]? = some (.loop r)→RelB n Z (upd inj st.nx (some (l,0))) (st.nx + 1) st.nx (.loop st.sl k.toList assign body .ready none):=by
    rintro n l r e1 e2 e3 e4 e5 e6 hs hl
    obtain ⟨f1,f2,f3,f4,f5,f6,f7,f8⟩:=r
    simp only at e1 e2 e3 e4 e5 e6
    subst e1 e2 e3 e4 e5 e6
    exact ⟨l,_,_,_,Kt _ _ _,hl,⟨z.1.2,z.2,fun p hp=>z.1.1 p hp⟩,hs⟩
  cases ro with
  | none=>
    have ba : RelH (w.alloc (.deferred (some []))) Z inj st.hp st.nx:=h.heap.grow fun b hb=>Zf w _ hb
    have aj : ∀ o,Yg ((w.alloc (.deferred (some []))).alloc o) Z (upd inj st.nx (some (w.heap.size + 1,0))) (st.nx + 1) st.sl a.tmps:=fun o=>
      h.slots.mono (fun b hz=>by have:=h.heap.zs b hz;rw [Zf _ _ (by simp;omega),Zf _ _ this]) (fun _ h=>h)
        (fun b c e f hb=>by obtain ⟨c1,e1,f1,h1,s1⟩:=q23 w (.deferred (some [])) b c e f hb;obtain ⟨c2,e2,f2,h2,s2⟩:=q23 _ o b c1 e1 f1 h1;exact ⟨c2,e2,f2,h2,s2.trans s1⟩) (fun _ hm=>Y3 _ _ hm) q6
    have j:=Jl (w.alloc (.deferred (some []))) (.loop {state:=.ready,pending:=none,fn,tmps:=a.tmps,params:=k,assign,body,defers:=w.heap.size});rw [World.size_alloc] at j;have hB:=ac _ (w.heap.size + 1) {state:=.ready,pending:=none,fn,tmps:=a.tmps,params:=k,assign,body,defers:=w.heap.size} rfl rfl rfl rfl rfl rfl (aj _) j;have hn:=ba.new (.loop {state:=.ready,pending:=none,fn,tmps:=a.tmps,params:=k,assign,body,defers:=w.heap.size}) (.loop st.sl k.toList assign body .ready none) 0 (by rw [World.size_alloc];exact hB);have he:=Ext.new ba (.loop {state:=.ready,pending:=none,fn,tmps:=a.tmps,params:=k,assign,body,defers:=w.heap.size}) (.loop st.sl k.toList assign body .ready none) 0;rw [World.size_alloc] at hn he;refine rest _ (w.heap.size + 1) _ _ [w.heap.size] (run_enterLoop_outer fn a.tmps k assign body) j rfl rfl hn ((Ext.alloc _).trans he (Nat.le_refl _)) rfl (qq1 h.nodup h.marks) ?_;intro D t;simp at t;subst t;exact ⟨by rw [Zf _ _ qd];exact Jl _ _,Nat.le_refl _⟩
  | some l0=>
    obtain ⟨r0,bj⟩:=br l0 rfl
    have aj : ∀ o,Yg (w.alloc o) Z (upd inj st.nx (some (w.heap.size,0))) (st.nx + 1) st.sl a.tmps:=fun o=>
      h.slots.mono (fun b hz=>Zf _ _ (h.heap.zs b hz)) (fun _ h=>h) (q23 w o) (fun _ hm=>Y3 _ _ hm) q6
    have j:=Jl w (.loop {state:=.ready,pending:=none,fn,tmps:=a.tmps,params:=k,assign,body,defers:=r0.defers});have hB:=ac _ w.heap.size {state:=.ready,pending:=none,fn,tmps:=a.tmps,params:=k,assign,body,defers:=r0.defers} rfl rfl rfl rfl rfl rfl (aj _) j;exact rest _ w.heap.size _ _ [] (run_enterLoop_inner bj fn a.tmps k assign body) j rfl rfl (h.heap.new _ _ 0 hB) (Ext.new h.heap _ _ 0) rfl (by simpa using h.nodup) qd
theorem qma {f : FuncId} {fn : Func} {c : Code} {j : List V} {hp : List (Nat × Blk)} {nx : Nat} {v : V} (t : Yp P T) (p : P.funcs[f]? = some fn) (hb : fn.body = some c) (a : (fn.name == "runtime.NumGoroutine") = false) (k : codeOk fn.ntmps c = true) (u : j.length ≤ fn.ntmps)
    (hc : Kg P nx c {sl:=Ku 0 j,hp:=hp,nx:=nx} ex st) (hx : ex = .nor∨ex = .ret) (d : resV T st fn.results.toList = some v) : J6 P f j hp nx v st.hp st.nx:=by
  refine ⟨fun args w=>?_,fun w Z inj xs h g=>?_⟩
  · unfold callFunc
    have n : ¬ fn.name = "runtime.NumGoroutine" := by simpa using a
    simp [p,n,hb]
  · refine callsIn_of_wp_marks p hb trivial ?_
    have m : (xs ++ Array.replicate (fn.ntmps - xs.size) undef).size = fn.ntmps:=by
      have:=g.1;simp;omega
    have h0 : RelS w Z inj {sl:=Ku 0 j,hp:=hp,nx:=nx} {tmps:=xs ++ Array.replicate (fn.ntmps - xs.size) undef,defers:=[]} []:=⟨qt5 _ g,h,rfl,qd,qd⟩
    refine wpIn_mono (hc none w Z inj _ [] h0 (by show codeOk (xs ++ Array.replicate (fn.ntmps - xs.size) undef).size c = true;rw [m];exact k) (Nat.le_refl _) (fun l g=>by cases g)).1 ?_;rintro e a' w' ⟨rfl,Z',inj',o,b,z,g3,g4,g5⟩
    have q:=qhs (P:=P) (fn:=fn) (pin:=nx) (w0:=w) (Z0:=Z) (inj0:=inj) (hp0:=hp) t d
      (R:=fun e w'=>∃ x Z' inj',e = .returned x∧RelH w' Z' inj' st.hp st.nx∧Ext w Z inj hp w' Z' inj' st.hp nx∧RelV w' Z' inj' st.nx v x∧nx≤st.nx)
      (fun x w' Z' inj' k1 s y=>⟨x,Z',inj',rfl,k1,s,y,g4⟩) o w' Z' inj' a' b.slots b.heap z b.nodup (fun D r=>⟨b.marks D r,(g5 D r).resolve_left qd⟩)
    rcases hx with rfl | rfl
    · show LeavesInM (Fw none) 0 P fn a'.tmps _ a'.defers .returning w';rw [b.defs];exact q
    · show LeavesInM (Fw none) 0 P fn a'.tmps _ a'.defers .returning w';rw [b.defs];exact q
end
theorem qm9 {f : FuncId} {m : List V} {hp hp' hp1 : List (Nat × Blk)} {nx nx' nx1 : Nat} {v j : V} {ρ : Nat→Nat} {fz ph : List Nat} (h : J6 P f m hp nx v hp' nx') (l : Wk nx ρ fz ph {sl:=[(0,v)],hp:=hp',nx:=nx'} {sl:=[(0,j)],hp:=hp1,nx:=nx1}) : J6 P f m hp nx j hp1 nx1:=by
  refine ⟨h.1,fun w Z inj xs r o=>(h.2 w Z inj xs r o).mono ?_⟩;rintro e w' ⟨x,Z',inj',rfl,d,q,n,s⟩
  have b : RelS w' Z' inj' {sl:=[(0,v)],hp:=hp',nx:=nx'} {tmps:=#[x],defers:=[]} []:=by
    refine ⟨fun t u c=>?_,d,rfl,List.nodup_nil,qd⟩;rw [Km] at c;split at c
    · rename_i e;subst e;cases c;exact ⟨x,rfl,n⟩
    · simp [find] at c
  obtain ⟨a,g⟩:=q1o b l;obtain ⟨y,k,p⟩:=a.slots 0 j (by simp [find]);simp at k;subst k;exact ⟨x,_,_,rfl,a.heap,q.trans g (Nat.le_refl _),p,l.bs⟩
theorem qmb (y : Yp P T) (hm : P.follows .mixedOrders = true) {f : FuncId} {u : List V} {hp : List (Nat × Blk)} {nx : Nat} {v : V} {hp' : List (Nat × Blk)} {nx' : Nat} (h : K6 P T f u hp nx v hp' nx') : J6 P f u hp nx v hp' nx':=by
  refine K6.rec (motive_1:=fun base c st ex st' _=>Kg P base c st ex st') (motive_2:=fun base ops dr l st st' _=>Uo P base ops dr l st st') (motive_3:=fun f u hp nx v hp' nx' _=>J6 P f u hp nx v hp' nx')
    ?_ ?_ ?_ ?_ ?_ ?_ ?_ ?_ ?_ ?_ ?_ ?_ ?_ ?_ ?_ ?_ ?_ ?_ ?_ ?_ ?_ ?_ ?_ ?_ ?_ ?_ ?_ ?_ h
  · exact qmy
  · exact fun _ _ a d=>qmw a d
  · exact fun _ s a=>qmx a s
  · exact fun k _ a=>qmm k a
  · exact fun k _ a=>qml k a
  · exact fun _ a=>qmk a
  · exact qmn
  · exact qmu
  · exact fun _ _ a d=>qmp a d
  · exact fun _ s a=>qmq a s
  · exact fun _ a=>qms a
  · exact fun _ hd a=>qmt hm a hd
  · exact fun q _ a=>qmz q a
  · exact fun b _ m aj ai a=>qmr b a m aj ai
  · exact qmo
  · exact fun _ a=>qmv a
  · exact fun {_ _ dr _}=>by cases dr <;> exact .nil
  · exact fun b _ a=>qmi b a
  · exact fun b g m _ a=>qmg y b g m a
  · exact fun b g _ hn hh m hF _ a=>qmh y b g hn hh m hF a
  · exact fun b g k ad _ ag ac hs hF _ a d=>qmf b g k ad a ag ac hs hF d
  · exact fun b g k _ _ a d=>Z6.cons (qye b g k a) d
  · exact fun b g k j ab _ x hb _ a d=>Z6.cons (qol b g k j ab a x hb) d
  · exact fun b g p z o t j _ ah _ ae _ a d h3=>Z6.cons (qoo b g p z o t j a ah d ae) h3
  · exact fun q _ a=>Z6.wk q a
  · exact fun hp _ _ a d=>J7.piv hp a d
  · exact fun m hb n aa o _ s r a=>qma y m hb n aa o a s r
  · exact fun _ q a=>qm9 a q
end Go.Am
namespace Go.Am
open Go
open Go.ChangeShapes Go.WideShapes Go.ChangeAt Go.RowKit Go.Deep
inductive CT where
  | int (k : IntKind)
  | bool
  | str
  | sl (l : List CT)
def q9m (P : Program) (f : TypeId→Option (List CT)) : Nat→List Field→Option (List CT)
  | _,[]=>some []
  | o,x::r=>match f x.type with
    | some a=>if x.offset = o∧P.cellsOf x.type = a.length then
        match q9m P f (o + a.length) r with
        | some b=>some (a ++ b)
        | none=>none
      else none
    | none=>none
def tyL (P : Program) : Nat→TypeId→Option (List CT)
  | 0,_=>none
  | f + 1,t=>match P.underlying t with
    | some .bool=>some [.bool]
    | some (.int k)=>some [.int k]
    | some .string=>some [.str]
    | some (.slice e)=>match tyL P f e with
      | some l=>if l.length = P.cellsOf e∧l.length≠0 then some [.sl l] else none
      | none=>none
    | some (.struct fs)=>match q9m P (tyL P f) 0 fs.toList with
      | some l=>if l.length = P.cellsOf t then some l else none
      | none=>none
    | _=>none
inductive Ty : CT→DV→Prop
  | int {k : IntKind} {n : Int} : (Lit.int k n).wf = true→Ty (.int k) (.int k n)
  | bool (b : Bool) : Ty .bool (.bool b)
  | str {s : ByteArray} : s.size≤maxLen→Ty .str (.str s)
  | nil (l : List CT) : Ty (.sl l) .nilsl
  | sl {l : List CT} {xs : List (List DV)} : xs.length≤maxLen→(∀ (i : Nat) (x : List DV),xs[i]? = some x→x.length = l.length)→
      (∀ (i : Nat) (x : List DV) (j : Nat) (c : CT) (d : DV),xs[i]? = some x→l[j]? = some c→x[j]? = some d→Ty c d)→Ty (.sl l) (.sl l.length xs)
section
variable {H : Type} {enc : TypeId × Value→H} {P : Program} {w : World} {base : Nat} {held : Bool}
def ZC (w : World) (b : Nat) : Prop:=∃ c e f,w.heap[b]? = some (.cells c e f)
theorem Ty.cell {c : CT} {d : DV} (h : Ty c d) : Z9 d = true:=by cases h <;> rfl
def Reads (w : World) (l : List CT) (cs : List Value) : Prop:=
  cs.length = l.length∧∃ ds : List DV,ds.length = l.length∧∀ (j : Nat) (c : CT) (v : Value),l[j]? = some c→cs[j]? = some v→∃ d,ds[j]? = some d∧Ty c d∧RelD w (ZC w) d v
theorem q5e {c : CT} {v : Value} {d : DV} (g : Ty c d) (f : RelD w (ZC w) d v) : Reads w [c] [v]:=by
  refine ⟨rfl,[d],rfl,fun j h k a b=>?_⟩
  cases j with
  | zero=>simp at a b;subst a b;exact ⟨d,rfl,g,f⟩
  | succ j=>simp at a
theorem qsq {l l' : List CT} {cs a : List Value} (h : Reads w l cs) (s : Reads w l' a) : Reads w (l ++ l') (cs ++ a):=by
  obtain ⟨n,ds,o,t⟩:=h;obtain ⟨b1,m,r,q⟩:=s;refine ⟨by simp [n,b1],ds ++ m,by simp [o,r],fun j c v f b=>?_⟩;by_cases p : j < l.length
  · rw [List.getElem?_append_left p] at f;rw [List.getElem?_append_left q6] at b;obtain ⟨d,g,k⟩:=t j c v f b;exact ⟨d,by rw [List.getElem?_append_left q6];exact g,k⟩
  · rw [List.getElem?_append_right q6] at f;rw [List.getElem?_append_right q6,n] at b;obtain ⟨d,g,k⟩:=q _ c v f b;exact ⟨d,by rw [List.getElem?_append_right q6,o];exact g,k⟩
theorem qla {f : TypeId→Option (List CT)} {g : Field→List Value→Prop} (j : ∀ (x : Field) (l : List CT) (cs : List Value),f x.type = some l→g x cs→Reads w l cs) :
    ∀ (d : List Field) (o : Nat) (l : List CT) (cs : List Value),q9m P f o d = some l→o + l.length = cs.length→(∀ x∈d,g x ((cs.drop x.offset).take (P.cellsOf x.type)))→Reads w l (cs.drop o)
  | [],o,l,cs,h,hl,_=>by
    simp [q9m] at h;subst h
    simp at hl
    rw [hl]
    exact ⟨qd,[],rfl,qd⟩
  | x::r,o,l,cs,h,hl,hx=>by
    simp only [q9m] at h
    split at h <;> try simp at h
    rename_i a q
    obtain ⟨⟨p,n⟩,h⟩:=h
    split at h <;> simp at h
    rename_i b hb
    subst h
    have c:=j x a _ q (hx x qd)
    rw [p,n] at c
    have m:=qla j r (o + a.length) b cs hb (by simp at hl;omega) (fun y k=>hx y (by simp [k]))
    have:=qsq c m
    rw [← List.drop_drop] at this
    rwa [List.take_append_drop] at this
theorem qbr : ∀ (f : Nat) (t : TypeId) (l : List CT) (fuel : Nat) (cs : List Value) (x : DataW H × List MemPlace),tyL P f t = some l→DataW.trod enc P w base (fun _=>true) held fuel t cs = some x→Reads w l cs
  | 0,t,l,fuel,cs,x,hl,h=>by simp [tyL] at hl
  | f + 1,t,l,fuel,cs,x,hl,h=>by
    simp only [tyL] at hl
    split at hl <;> try simp at hl
    · rename_i ht
      subst hl
      cases fuel with
      | zero=>simp [DataW.trod] at h
      | succ n=>
        unfold DataW.trod at h
        rw [ht] at h
        split at h <;> simp_all
        exact q5e (.bool _) (.bool _)
    · rename_i k ht
      subst hl
      obtain ⟨n,rfl,_,hw⟩:=DataW.trod_int ht h
      exact q5e (.int hw) (.int _ _)
    · rename_i ht
      subst hl
      cases fuel with
      | zero=>simp [DataW.trod] at h
      | succ n=>
        unfold DataW.trod at h
        rw [ht] at h
        split at h <;> simp_all
        exact q5e (.str q6) (.str _)
    · rename_i e ht
      split at hl <;> simp at hl
      rename_i le ar
      obtain ⟨⟨u,ao⟩,rfl⟩:=hl
      rcases open_slice ht h with ⟨rfl,_⟩ | ⟨a,len,cap,m,n,D,Pl,rfl,_,av,bk,hm,_,am⟩
      · exact q5e (.nil _) .nilsl
      · obtain rfl : cap = m:=by simpa using hm.symm
        have elem : ∀ i,i < cap→∃ p,w.cells? base (a.add (i * P.cellsOf e)) (P.cellsOf e) = some p∧Reads w le p:=by
          intro i hi;obtain ⟨p,h1,h2⟩:=am i hi;exact ⟨p,h1,qbr f e le n p _ ar h2⟩
        have ax : 0 < P.cellsOf e:=by rw [← u];exact List.length_pos_iff.2 ao
        by_cases aq : cap = 0
        · subst aq
          have : len = 0:=by omega
          subst this
          exact q5e (.sl (xs:=[]) qd qd qd) (.slemp _ _)
        · have ad : a.spot = none∧ZC w a.block:=by
            obtain ⟨p,h1,_⟩:=elem 0 q6;obtain ⟨_,h2,h3⟩:=World.cells?_some h1;have:=h3 0 q6;obtain ⟨v,hv⟩:=Zc (xs:=p) (i:=0) q6;rw [hv] at this;simp [World.cell?,Addr.add] at this;split at this <;> try simp at this
            rename_i c e' f' hc;exact ⟨this.1,c,e',f',hc⟩
          obtain ⟨b,o,sp⟩:=a
          obtain ⟨al,hz⟩:=ad
          simp only at al hz;subst al
          have ag : ∀ i,i < len→∃ ds : List DV,ds.length = le.length∧∀ (j : Nat) (c : CT),le[j]? = some c→∃ d v,ds[j]? = some d∧Ty c d∧w.cell? ⟨b,o + (i * le.length + j),none⟩ = some v∧RelD w (ZC w) d v:=by
            intro i hi;obtain ⟨p,h1,h4,ds,h5,h6⟩:=elem i q6;obtain ⟨_,h2,h3⟩:=World.cells?_some h1;refine ⟨ds,h5,fun j c hj=>?_⟩;have bb:=Kb hj;obtain ⟨v,hv⟩:=Zc (xs:=p) (i:=j) q6;obtain ⟨d,z,g2,g3⟩:=h6 j c v hj hv;have:=h3 j q6;rw [hv,Jb,Jb,← u,Nat.add_assoc] at this;exact ⟨d,v,z,g2,this,g3⟩
          obtain ⟨F,hF⟩:=choose_lt ag
          have q : ∀ (i : Nat) (x : List DV),((List.range len).map F)[i]? = some x→i < len∧x = F i:=by
            intro i x s;simp only [List.getElem?_map,Ks] at s;obtain ⟨k,hk,rfl⟩:=s;have hi : i < len:=by simpa using Kb hk
            rw [List.getElem?_range hi] at hk;cases hk;exact ⟨hi,rfl⟩
          have r : ((List.range len).map F).length = len:=by simp
          have ab : RelD w (ZC w) (.sl le.length ((List.range len).map F)) (.slice (some ⟨b,o,none⟩) ((List.range len).map F).length cap):=by
            refine .sl (by rw [r];exact av) (fun _=>hz) ?_ ?_ ?_
            · intro i x s;obtain ⟨hi,rfl⟩:=q i x s;exact (hF i hi).1
            · intro i x j d s hd;obtain ⟨hi,rfl⟩:=q i x s;obtain ⟨c,hc⟩:=Zc (xs:=le) (i:=j) (by rw [← (hF i hi).1];exact Kb hd);obtain ⟨d',v,z,g2,g3,g4⟩:=(hF i hi).2 j c hc;rw [hd] at z;cases z;exact ⟨g2.cell,v,g3⟩
            · intro i x j d v s hd hv;obtain ⟨hi,rfl⟩:=q i x s;obtain ⟨c,hc⟩:=Zc (xs:=le) (i:=j) (by rw [← (hF i hi).1];exact Kb hd);obtain ⟨d',v',z,g2,g3,g4⟩:=(hF i hi).2 j c hc;rw [hd] at z;cases z;rw [hv] at g3;cases g3;exact g4
          rw [r] at ab
          refine q5e (.sl (by rw [r];omega) ?_ ?_) ab
          · intro i x s
            obtain ⟨hi,rfl⟩:=q i x s
            exact (hF i hi).1
          · intro i x j c d s hc hd
            obtain ⟨hi,rfl⟩:=q i x s
            obtain ⟨d',v,z,g2,_⟩:=(hF i hi).2 j c hc
            rw [hd] at z;cases z
            exact g2
    · rename_i fs ht
      split at hl <;> simp at hl
      rename_i l' ap
      obtain ⟨u,rfl⟩:=hl
      obtain ⟨xs,n,_,_,bg,bm,hf⟩:=DataW.trod_struct ht h
      have:=qla (P:=P) (w:=w) (f:=tyL P f) (g:=fun x cs=>∃ y,DataW.trod enc P w base (fun _=>true) held n x.type cs = some y) (fun x l cs h1 ⟨y,h2⟩=>qbr f x.type l n cs y h1 h2) fs.toList 0 l' cs ap q6 ?_
      · simpa using this
      · intro x s
        obtain ⟨i,hi⟩:=List.getElem?_of_mem s
        have:=hf i x (by simpa using hi)
        obtain ⟨y,hy⟩:=Zc (xs:=xs) (i:=i) (by have:=Kb hi;simp at this;omega)
        exact ⟨y,by rw [this];exact hy⟩
end
end Go.Am
namespace Go.Am
open Go
open Go.ChangeShapes Go.WideShapes Go.ChangeAt Go.RowKit Go.Deep
theorem qys {P : Program} {l : List (Nat × TI)} (h : l.map (fun x=>tiOf P x.1) = l.map (fun x=>some x.2)) : Yp P (ql7 l):=by
  intro t i b;have c:=Zj (show find l t = some i from b);obtain ⟨k,a⟩:=List.getElem?_of_mem c;have:=congrArg (fun r=>r[k]?) h;simp only [List.getElem?_map,a,Option.map_some] at this;exact q6t this
def aggT (P : Program) (t : TypeId) : Bool:=match P.underlying t with
  | some (.struct _) | some (.array _ _)=>true
  | _=>false
inductive J5 : List (Bool × List CT)→List DV→Prop
  | nil : J5 [] []
  | one {c : CT} {d : DV} {ps : List (Bool × List CT)} {ds : List DV} : Ty c d→J5 ps ds→J5 ((false,[c])::ps) (d::ds)
  | agg {l : List CT} {xs : List DV} {ps : List (Bool × List CT)} {ds : List DV} : xs.length = l.length→(∀ (j : Nat) (c : CT) (d : DV),l[j]? = some c→xs[j]? = some d→Ty c d)→J5 ps ds→J5 ((true,l)::ps) (.agg xs::ds)
section
variable {H : Type} {enc : TypeId × Value→H} {P : Program} {T : Tab} {W : World} {base : Nat}
theorem qlx {t : TypeId} {f : Nat} {l : List CT} {v : Value} {d : DataW H} {p : List MemPlace} (u : aggT P t = false) (o : tyL P f t = some l) (a : Value.okWide P W .any base t v) (h : DataW.Trod enc P W 0 (fun _=>true) true t v d p) :
    ∃ c x,l = [c]∧Ty c x∧RelD W (ZC W) x v:=by
  obtain ⟨fuel,hf⟩:=h;have m:=qbr f t l fuel _ _ o hf
  have key : v.cells = #[v]→∃ c,l = [c]→∃ x,Ty c x∧RelD W (ZC W) x v:=by
    intro y;rw [y] at m;obtain ⟨h1,ds,h2,q⟩:=m
    match l,h1 with
    | [c],_=>
      obtain ⟨x,_,z,r⟩:=q 0 c v rfl rfl;exact ⟨c,fun _=>⟨x,z,r⟩⟩
  have fin : v.cells = #[v]→∃ c x,l = [c]∧Ty c x∧RelD W (ZC W) x v:=by
    intro y;have j:=m.1;rw [y] at j m
    match l,j,m with
    | [c],_,m=>
      obtain ⟨_,ds,h2,q⟩:=m;obtain ⟨x,_,z,r⟩:=q 0 c v rfl rfl;exact ⟨c,x,rfl,z,r⟩
  cases f with
  | zero=>simp [tyL] at o
  | succ f=>
    simp only [tyL] at o;split at o <;> try simp at o
    · rename_i g;obtain ⟨b,rfl⟩:=okWide_bool g a;exact fin rfl
    · rename_i k g;obtain ⟨n,rfl⟩:=okWide_int g a;exact fin rfl
    · rename_i g;obtain ⟨s,rfl⟩:=okWide_string g a;exact fin rfl
    · rename_i e g;obtain ⟨a0,len,cap,rfl⟩:=okWide_slice g a;exact fin rfl
    · rename_i fs g;simp [aggT,g] at u
theorem qlw {t : TypeId} {f : Nat} {l : List CT} {v : Value} {d : DataW H} {p : List MemPlace} (b : aggT P t = true) (x : tyL P f t = some l) (a : Value.okWide P W .any base t v) (h : DataW.Trod enc P W 0 (fun _=>true) true t v d p) :
    ∃ xs : List DV,xs.length = l.length∧(∀ (j : Nat) (c : CT) (d : DV),l[j]? = some c→xs[j]? = some d→Ty c d)∧RelD W (ZC W) (.agg xs) v:=by
  obtain ⟨fuel,y⟩:=h
  have n : ∃ cs,v = .agg cs:=by
    unfold aggT at b;unfold Value.okWide at a;split at b
    · rename_i r;simp only [r] at a;obtain ⟨cs,h,_⟩:=a;exact ⟨cs,h⟩
    · rename_i r;simp only [r] at a;obtain ⟨cs,h,_⟩:=a;exact ⟨cs,h⟩
    · simp at b
  obtain ⟨cs,rfl⟩:=n;obtain ⟨q,ds,o,m⟩:=qbr f t l fuel _ _ x y;simp only [Value.cells] at q m;refine ⟨ds,o,fun j c d k hd=>?_,.agg (by simpa [o] using q.symm) fun j d c hd k=>?_⟩
  · obtain ⟨v,n⟩:=Zc (xs:=cs.toList) (i:=j) (by rw [q];exact Kb k);obtain ⟨d',g,u,_⟩:=m j c v k n;rw [hd] at g;cases g;exact u
  · obtain ⟨ct,s⟩:=Zc (xs:=l) (i:=j) (by rw [← o];exact Kb hd);obtain ⟨d',g,_,z⟩:=m j ct c s (by simpa using k);rw [hd] at g;cases g;exact z
theorem qf4 {f : Nat} : ∀ (o : List TypeId) (b : List (Bool × List CT)) (m : List Value) (ds : List (DataW H)) (p : List MemPlace),o.map (fun t=>(aggT P t,tyL P f t)) = b.map (fun x=>(x.1,some x.2))→
    (∀ (j : Nat) t v,o[j]? = some t→m[j]? = some v→Value.okWide P W .any base t v)→DataW.TrodAll enc P W 0 (fun _=>true) true o m ds p→
    ∃ xs : List DV,J5 b xs∧xs.length = m.length∧∀ (j : Nat) (x : DV) (v : Value),xs[j]? = some x→m[j]? = some v→RelD W (ZC W) x v
  | [],b,m,ds,p,hp,hok,h=>by
    obtain ⟨rfl,rfl,rfl⟩:=trodAll_nil h
    cases b with
    | nil=>exact ⟨[],.nil,rfl,qd⟩
    | cons _ _=>simp at hp
  | t::o,b,m,ds,p,hp,hok,h=>by
    obtain ⟨v,s,d,aa,q,q',rfl,rfl,rfl,h1,h2⟩:=trodAll_cons h
    cases b with
    | nil=>simp at hp
    | cons pr b=>
      obtain ⟨ag,l⟩:=pr
      simp only [List.map_cons,List.cons.injEq,Prod.mk.injEq] at hp
      obtain ⟨⟨n,hl⟩,hp⟩:=hp
      obtain ⟨xs,g1,g2,g3⟩:=qf4 o b s aa q' hp (fun j t v ht hv=>hok (j + 1) t v (by simpa using ht) (by simpa using hv)) h2
      have a:=hok 0 t v rfl rfl
      cases ag with
      | false=>
        obtain ⟨c,x,rfl,z,r⟩:=qlx n hl a h1
        refine ⟨x::xs,.one z g1,by simp [g2],fun j y u g k=>?_⟩
        cases j with
        | zero=>simp at g k;subst g k;exact r
        | succ j=>exact g3 j y u (by simpa using g) (by simpa using k)
      | true=>
        obtain ⟨zs,k0,z,r⟩:=qlw n hl a h1
        refine ⟨.agg zs::xs,.agg k0 z g1,by simp [g2],fun j y u g k=>?_⟩
        cases j with
        | zero=>simp at g k;subst g k;exact r
        | succ j=>exact g3 j y u (by simpa using g) (by simpa using k)
theorem qz4 {F : FuncId} {g : Array Value} {xs : List DV} (u : Yp P T) (hm : P.follows .mixedOrders = true) (hp : Pure P T F xs (.bool true)) (hl : xs.length = g.size) (hr : ∀ (j : Nat) (x : DV) (v : Value),xs[j]? = some x→g[j]? = some v→RelD W (ZC W) x v) :
    Calls P F g W fun e l=>e = .returned (.bool true)∧Grown W l∧Below W.heap.size W l:=by
  obtain ⟨v,hp',nx',r',he,r,q⟩:=hp;have hg:=qmb u hm he
  have h0 : RelH W (ZC W) (fun _=>none) [] 0:=⟨fun _ _ h=>by simp [find] at h,fun _ _ _ _ _ _ h=>by simp [find] at h,fun _ _ _ h=>by simp [find] at h,
    fun b ⟨c,e,f,h⟩=>J1 h,fun b h=>h⟩
  have hc:=hg.2 W (ZC W) (fun _=>none) g h0 ⟨by simpa using hl,fun j x v s p=>by
    simp only [List.getElem?_map,Ks] at s;obtain ⟨y,t,rfl⟩:=s
    exact .d (hr j y v t p)⟩
  refine (callsIn_wide (n:=0).1 hc).mono ?_;rintro e l ⟨x,Z',inj',rfl,hh,a,p,hn⟩;have hD:=(q9n hh 8 r p).le q;cases hD;have m : ∀ k,k < W.heap.size→l.heap[k]? = W.heap[k]?:=fun k m=>a.keep k m (by rintro ⟨n,blk,o,z,_⟩;simp [find] at z);refine ⟨rfl,⟨⟨a.os,a.output,fun i hi=>?_⟩,a.frz,a.size⟩,⟨a.os,a.tape,a.output,a.size,m⟩⟩;rw [m i hi]
  cases hw : W.heap[i]? with
  | none=>simp
  | some o=>cases o <;> simp
theorem qf5 (a : laidOutB P = true) {k : World} {l : Nat→Bool} : ∀ (b : List TypeId) (f : List Value) (ds : List (DataW H)) (p : List MemPlace),(∀ t∈b,P.readableRec t = true∧t < P.types.size)→DataW.TrodAll enc P W 0 (fun _=>true) true b f ds p→
    Below W.heap.size W k→(∀ x∈p,x.block < W.heap.size∧l x.block = true)→DataW.TrodAll enc P k 0 l true b f ds p
  | [],f,ds,p,_,h,_,_=>by obtain ⟨rfl,rfl,rfl⟩:=trodAll_nil h;exact trodAll_mk0
  | t::b,f,ds,p,ht,h,hb,hp=>by
    obtain ⟨v,j,d,g,q,r,rfl,rfl,rfl,o,m⟩:=trodAll_cons h
    refine trodAll_cons_mk (WideElems.Trod_stays a (ht t qd).1 (ht t qd).2 o (fun x c=>hb.same (hp x (by simp [c])).1) (fun x c=>(hp x (by simp [c])).2))
      (qf5 a b j g r (fun u n=>ht u (by simp [n])) m hb (fun x c=>hp x (by simp [c])))
theorem contract {f : Func} {F : FuncId} {s : ChangeSpec} {tb : TypeId} {fuel : Nat} {ps : List (Bool × List CT)} (hT : Yp P T) (hm : P.follows .mixedOrders = true) (aa : laidOutB P = true)
    (a : s.vars = []) (c : f.resultTypes = #[tb]) (u : P.underlying tb = some .bool) (k : ∀ t∈f.params.toList,P.readableRec t = true∧t < P.types.size)
    (af : f.params.toList.map (fun t=>(aggT P t,tyL P fuel t)) = ps.map (fun x=>(x.1,some x.2)))
    (hs : ∀ ds : List (DataW H),ds.length = f.params.size→s.fn H ds = {results:=[.lit (.bool true)],args:=ds})
    (l : ∀ xs,J5 ps xs→Pure P T F xs (.bool true))
    {args : Array Value} {ds gs : List (DataW H)} {before : List MemPlace} (y : ∀ (j : Nat) t v,f.params[j]? = some t→args[j]? = some v→Value.okWide P W .any base t v)
    (hW : DataW.Whole enc P f.params.toList s.vars false W args.toList ds gs before) :
    Calls P F args W fun e W'=>∃ v,e = .returned v∧s.post enc P f false true false false W args v W':=by
  have g:=hW;obtain ⟨p,q,hA,hV,rfl,ay,ao⟩:=hW;rw [a] at hV;obtain ⟨rfl,rfl⟩:=trodVars_none hV;have o:=g.lt;simp only [List.append_nil] at g o;obtain ⟨xs,g1,g2,g3⟩:=qf4 (base:=base) f.params.toList ps args.toList ds p af (fun j t v ht hv=>y j t v (by simpa using ht) (by simpa using hv)) hA;refine (qz4 hT hm (l xs g1) (by simpa using g2) (fun j x v hx hv=>g3 j x v hx (by simpa using hv))).mono ?_;rintro e W' ⟨rfl,hg,hb⟩
  have r : ds.length = f.params.size:=by
    have : ∀ (n : List TypeId) (vs : List Value) (ds : List (DataW H)) (p : List MemPlace),DataW.TrodAll enc P W 0 (fun _=>true) true n vs ds p→ds.length = n.length:=by
      intro n
      induction n with
      | nil=>intro vs ds p h;obtain ⟨_,rfl,_⟩:=trodAll_nil h;rfl
      | cons t n ih=>intro vs ds p h;obtain ⟨v,ap,d,az,q,q',rfl,rfl,rfl,_,h2⟩:=trodAll_cons h;simp [ih _ _ _ h2]
    simpa using this _ _ _ _ hA
  have m:=hs (ds ++ []) (by simpa using r);refine ⟨_,rfl,post_of_same (pa:=p) (pv:=[]) g ?_ ?_ ?_ qd (hg.frame _) hg.2.1 (ok_one c rfl (okWide_bool_mk u _))⟩
  · intro b sp hd;rw [c,m];exact trodAll_cons_mk (shut_bool u _) trodAll_mk0
  · intro sp z;rw [m];show DataW.TrodAll enc P W' 0 sp true f.params.toList args.toList (ds ++ []) p;rw [List.append_nil];exact qf5 aa _ _ _ _ k hA hb fun x hx=>⟨o x hx,z x hx⟩
  · intro sp z;rw [m,a];rfl
end
end Go.Am
namespace Go.Am
open Go
variable {P : Program} {T : Tab}
section
variable {base : Nat} {ops : Array Oper} {dr : Dr} {l : List Oper} {sl sl1 : List (Nat × V)} {hp hp1 : List (Nat × Blk)} {nx nx1 : Nat} {K : AS→Prop} {ty : TypeId} {pos : String} {af : Array Edge} {t : Tmp} {g : Option (Nat × Bool)} {v : V}
theorem qod {st : AS} {op : Op} (h : touch op = 0) : fp st op = (some [],[]):=by
  unfold touch at h;split at h <;> first | rfl | (simp at h;done) | (exact absurd h qt)
theorem qq4 {dr : Dr} {k : Nat} {st st1 : AS} {t : TypeId} {p : Operand} (h : okF dr k (fp st (.load t p)) = true) : okO dr k st (.load t p) st1 = true:=by
  cases dr with
  | none=>rfl
  | some F=>simp only [okF] at h;simp only [okO,h,Bool.true_and,q2z,touch]
theorem qin {dr : Dr} {k n es : Nat} {st st1 : AS} {op : Op} {xs : List (List DV)} {r : List (Nat × Blk)} (a : st1.hp = (n,.dat es xs)::r) (h : okF dr k (fp st op) = true) : okO dr k st op st1 = true:=by
  cases dr with
  | none=>rfl
  | some F=>
    simp only [okF] at h;simp only [okO,h,Bool.true_and,q2z,a];split <;> rfl
theorem Z4 {dr : Dr} {k : Nat} {st st1 : AS} {op : Op} (h : touch op = 0) : okO dr k st op st1 = true:=by
  cases dr with
  | none=>rfl
  | some F=>simp only [okO,qod h,qgt,Bool.true_and,q2z,h]
theorem fin {ex : Ex} {st : AS} {b : List ResultVar} {v : V} {r a : DV} (c : ex = .nor∨ex = .ret) (d : resV T st b = some v) (f : toD st.hp 8 v = some a) (g : a = r) : (ex = .nor∨ex = .ret)∧∃ v a,resV T st b = some v∧toD st.hp 8 v = some a∧DLe a r:=
  ⟨c,v,a,d,f,g ▸ .refl _⟩
theorem qqa {x y : Operand} {a : TypeId} {i : TI} {k : IntKind} {n : Int} {m es off len : Nat} (p : Qr ops ⟨sl,hp,nx⟩ ⟨some t,.indexAddr a x y,ty,pos,af,g⟩ = some true) (f : T a = some i)
    (c : AS.ev ⟨sl,hp,nx⟩ x = some (.hs m es off len)) (b : AS.ev ⟨sl,hp,nx⟩ y = some (.d (.int k n))) (q : i.kind = .slice) (o : es = i.esize) (j : 0≤n) (hi : n < len)
    (h : OpsK P T base ops dr l ⟨(t,.ref m es (off + n.toNat) 0)::sl,hp,nx⟩ K) : OpsK P T base ops dr (⟨some t,.indexAddr a x y,ty,pos,af,g⟩::l) ⟨sl,hp,nx⟩ K:=
  Kw p (v:=.ref m es (off + n.toNat) 0) (st1:=⟨sl,hp,nx⟩) (by simp [opFn,c,b,f,q36,q,o,j,hi]) h (Z4 rfl)
theorem qiq {p : Operand} {b : TypeId} {i : TI} {m es a j : Nat} {xs : List (List DV)} {cs r : List DV} {w : V} (n : Qr ops ⟨sl,hp,nx⟩ ⟨some t,.load b p,ty,pos,af,g⟩ = some true) (k : T b = some i)
    (f : AS.ev ⟨sl,hp,nx⟩ p = some (.ref m es a j)) (hb : find hp m = some (.dat es xs)) (hi : xs[a]? = some cs) (hs : sub cs j i.size = some r) (c : (q1b i.agg r).map .d = some w)
    (h : OpsK P T base ops dr l ⟨(t,w)::sl,hp,nx⟩ K) (o : okF dr l.length (fp ⟨sl,hp,nx⟩ (.load b p)) = true:=by rfl) : OpsK P T base ops dr (⟨some t,.load b p,ty,pos,af,g⟩::l) ⟨sl,hp,nx⟩ K:=
  Kw n (v:=w) (st1:=⟨sl,hp,nx⟩) (by simp only [opFn,f,k,Je,AS.blk,hb,Nat.beq_refl,hi,hs,c,Option.map_some]) h (qq4 o)
end
end Go.Am
namespace Go.Am
open Go
variable {P : Program} {T : Tab}
section
variable {base : Nat} {ops : Array Oper} {dr : Dr} {l : List Oper} {sl : List (Nat × V)} {hp : List (Nat × Blk)} {nx : Nat} {K : AS→Prop} {ty : TypeId} {pos : String} {af : Array Edge} {t : Tmp} {g : Option (Nat × Bool)} {v : V}
theorem K1 {a : TypeId} {i : TI} (d : Qr ops ⟨sl,hp,nx⟩ ⟨some t,.alloc a,ty,pos,af,g⟩ = some true) (b : T a = some i)
    (h : OpsK P T base ops dr l ⟨(t,.ref nx i.size 0 0)::sl,(nx,.dat i.size [i.zero])::hp,nx + 1⟩ K) (c : okF dr l.length (fp ⟨sl,hp,nx⟩ (.alloc a)) = true:=by rfl) : OpsK P T base ops dr (⟨some t,.alloc a,ty,pos,af,g⟩::l) ⟨sl,hp,nx⟩ K:=
  Kw d (v:=.ref nx i.size 0 0) (st1:=⟨sl,(nx,.dat i.size [i.zero])::hp,nx + 1⟩) (by simp only [opFn,b,Option.map_some];rfl) h (qin rfl c)
theorem qq5 {x y : Operand} {a b : TypeId} {i j : TI} {n es len : Nat} {xs ys : List (List DV)} {f : V} (s : Qr ops ⟨sl,hp,nx⟩ ⟨some t,.call {callee:=.builtin .append,args:=#[x,y],argTypes:=#[a,b]},ty,pos,af,g⟩ = some true)
    (p : T a = some i) (d : T b = some j) (o : AS.ev ⟨sl,hp,nx⟩ x = some (.hs n es 0 len)) (k : AS.ev ⟨sl,hp,nx⟩ y = some f) (hb : find hp n = some (.dat es xs)) (q : len = xs.length) (z : Yk ⟨sl,hp,nx⟩ f = some ys)
    (hk : i.kind = .slice) (c : j.kind = .slice) (u : es = i.esize) (r : Zi i.esize f = true) (m : (len + ys.length) * (i.ebytes * 4)≤4294967296)
    (h : OpsK P T base ops dr l ⟨(t,.hs nx es 0 (len + ys.length))::sl,(nx,.dat es (xs ++ ys))::repl hp n .dead,nx + 1⟩ K) (hF : okF dr l.length (fp ⟨sl,hp,nx⟩ (.call {callee:=.builtin .append,args:=#[x,y],argTypes:=#[a,b]})) = true:=by rfl) : OpsK P T base ops dr (⟨some t,.call {callee:=.builtin .append,args:=#[x,y],argTypes:=#[a,b]},ty,pos,af,g⟩::l) ⟨sl,hp,nx⟩ K:=by
  refine Kw s (v:=.hs nx es 0 (len + ys.length)) (st1:=⟨sl,(nx,.dat es (xs ++ ys))::repl hp n .dead,nx + 1⟩) ?_ h (qin rfl hF);subst q;have e : ((xs.drop 0).take xs.length ++ ys) = xs ++ ys:=by simp
  simp only [opFn,evL,o,k,Ky];simp only [List.getElem?_toArray,List.getElem?_cons_zero,List.getElem?_cons_succ,p,d];rw [qp ⟨hk,c,r⟩];simp only [Yq,AS.blk,hb,z];rw [qp ⟨q6,trivial,m,u⟩,e];rfl
theorem qdp {x : Operand} (b : Qr ops ⟨sl,hp,nx⟩ ⟨some t,.move x,ty,pos,af,g⟩ = some true) (a : AS.ev ⟨sl,hp,nx⟩ x = some v)
    (h : OpsK P T base ops dr l ⟨(t,v)::sl,hp,nx⟩ K) : OpsK P T base ops dr (⟨some t,.move x,ty,pos,af,g⟩::l) ⟨sl,hp,nx⟩ K:=
  Kw b (v:=v) (st1:=⟨sl,hp,nx⟩) (by simp only [opFn,a,Option.map_some]) h (Z4 rfl)
theorem qq6 {x : Operand} (b : Qr ops ⟨sl,hp,nx⟩ ⟨some t,.assign x,ty,pos,af,g⟩ = some true) (a : AS.ev ⟨sl,hp,nx⟩ x = some v)
    (h : OpsK P T base ops dr l ⟨(t,v)::sl,hp,nx⟩ K) : OpsK P T base ops dr (⟨some t,.assign x,ty,pos,af,g⟩::l) ⟨sl,hp,nx⟩ K:=
  Kw b (v:=v) (st1:=⟨sl,hp,nx⟩) (by simp only [opFn,a,Option.map_some]) h (Z4 rfl)
theorem qb {op : Op} {j : Nat} {w : Bool} (a : Qr ops ⟨sl,hp,nx⟩ ⟨some t,op,ty,pos,af,some (j,w)⟩ = some false) (h : OpsK P T base ops dr l ⟨(t,.d (.tup []))::sl,hp,nx⟩ K) : OpsK P T base ops dr (⟨some t,op,ty,pos,af,some (j,w)⟩::l) ⟨sl,hp,nx⟩ K:=
  qql a h
theorem qqe {x : Operand} {a : TypeId} {i : TI} {es : Nat} {xs : List (List DV)} {m : Nat} (k : Qr ops ⟨sl,hp,nx⟩ ⟨some t,.call {callee:=.builtin .len,args:=#[x],argTypes:=#[a]},ty,pos,af,g⟩ = some true) (f : T a = some i) (b : i.kind = .slice) (c : AS.ev ⟨sl,hp,nx⟩ x = some (.d (.sl es xs))) (j : xs.length = m)
    (h : OpsK P T base ops dr l ⟨(t,.d (.int .i64 m))::sl,hp,nx⟩ K) : OpsK P T base ops dr (⟨some t,.call {callee:=.builtin .len,args:=#[x],argTypes:=#[a]},ty,pos,af,g⟩::l) ⟨sl,hp,nx⟩ K:=by
  subst j;exact Kw k (v:=.d (.int .i64 xs.length)) (st1:=⟨sl,hp,nx⟩) (by simp only [opFn,evL,c,Ky];simp only [List.getElem?_toArray,List.getElem?_cons_zero,f,b]) h (Z4 rfl)
end
end Go.Am
namespace Go.Am
open Go
def iter {α β : Type} (f : α→Option (α ⊕ β)) : Nat→α→Option β
  | 0,_=>none
  | n + 1,a=>match f a with
    | none=>none
    | some (.inl a')=>iter f n a'
    | some (.inr b)=>some b
theorem qd5 {α β : Type} {f : α→Option (α ⊕ β)} : ∀ {n : Nat} {a : α} {b : β},iter f n a = some b→∀ m,n≤m→iter f m a = some b
  | 0,_,_,h,_,_=>by simp [iter] at h
  | n + 1,a,b,h,m,hm=>by
    obtain ⟨k,rfl⟩ : ∃ k,m = k + 1:=⟨m - 1,q6⟩
    simp only [iter] at h ⊢
    split at h
    · simp at h
    · rename_i a' c;exact qd5 h k q6
    · exact h
theorem qp3 {α β : Type} {f : α→Option (α ⊕ β)} {n m : Nat} {a : α} {b c : β} (h : iter f n a = some b) (d : iter f m a = some c) : b = c:=by
  have g:=qd5 h (max n m) q6;have j:=qd5 d (max n m) q6;grind
open Classical in
noncomputable def loop {α β : Type} (f : α→Option (α ⊕ β)) (a : α) : Option β:=
  if h : ∃ b n,iter f n a = some b then some h.choose else none
theorem q7e {α β : Type} {f : α→Option (α ⊕ β)} {a : α} {b : β} : loop f a = some b↔∃ n,iter f n a = some b:=by
  unfold loop;split
  · rename_i h;constructor
    · grind
    · rintro ⟨n,d⟩;obtain ⟨m,c⟩:=h.choose_spec;rw [qp3 c d]
  grind
theorem Kc {α β : Type} {f : α→Option (α ⊕ β)} {a a' : α} (h : f a = some (.inl a')) : loop f a = loop f a':=by
  apply Option.ext;intro b;rw [q7e,q7e];constructor
  · rintro ⟨n,c⟩
    cases n with
    | zero=>simp [iter] at c
    | succ n=>simp only [iter,h] at c;exact ⟨n,c⟩
  · rintro ⟨n,c⟩;exact ⟨n + 1,by simp only [iter,h];exact c⟩
theorem K7 {α β : Type} {f : α→Option (α ⊕ β)} {a : α} {b : β} (h : f a = some (.inr b)) : loop f a = some b:=
  q7e.2 ⟨1,by simp [iter,h]⟩
theorem qpg {α β : Type} {f : α→Option (α ⊕ β)} (I : α→Prop) (μ : α→Nat) (Q : β→Prop) (step : ∀ a,I a→(∃ a',f a = some (.inl a')∧I a'∧μ a' < μ a)∨∃ b,f a = some (.inr b)∧Q b) {a : α} (h : I a) : ∃ b,loop f a = some b∧Q b:=by
  generalize j : μ a = n
  induction n using Nat.strongRecOn generalizing a with
  | _ n ih=>
    rcases step a h with ⟨a',c,d,g⟩ | ⟨b,c,d⟩
    · rw [Kc c];exact ih _ (j ▸ g) d rfl
    · exact ⟨b,K7 c,d⟩
def w64 (x : Int) : Int:=IntKind.i64.wrap x
theorem Q8 {x : Int} (h : -9223372036854775808≤x∧x≤9223372036854775807) : w64 x = x:=qep h
def idx {α : Type} (xs : List α) (i : Int) : Option α:=if 0≤i then xs[i.toNat]? else none
def q1c (x y : Int) : Option Int:=if y = 0 then none else some (w64 (x.tdiv y))
def qba (x y : Int) : Option Int:=if y = 0 then none else some (x.tmod y)
def app {α : Type} (c : Nat) (xs ys : List α) : Option (List α):=if (xs.length + ys.length) * (c * 4)≤4294967296 then some (xs ++ ys) else none
def sub2 (n : Nat) (a b : Int) : Option (Nat × Nat):=if 0≤a∧a≤b∧b≤n then some (a.toNat,b.toNat - a.toNat) else none
def cpyw {α : Type} (xs : List α) (w : Nat × Nat) (ys : List α) : List α:=splice xs w.1 (ys.take (min ys.length w.2))
theorem leb {n m : Nat} (h : Nat.ble n m = true) : n≤m:=by simpa using h
theorem qfy {α : Type} {xs ys : List α} {w : Nat × Nat} (h : w.1 + w.2≤xs.length) : (cpyw xs w ys).length = xs.length:=by
  simp [cpyw,splice];omega
theorem ltd {n m : Nat} (h : Nat.blt n m = true) : n < m:=by simpa [Nat.blt_eq] using h
def eI (k : IntKind) (x : Int) : List DV:=[.int k x]
def eB (b : Bool) : List DV:=[.bool b]
theorem qai {α : Type} {xs : List α} {i : Int} {v : α} (h : idx xs i = some v) : 0≤i∧xs[i.toNat]? = some v∧i.toNat < xs.length:=by
  unfold idx at h;grind
theorem qzm {α β : Type} {o : Option α} {f : α→Option β} {x : β} (h : o.bind f = some x) : ∃ v,o = some v∧f v = some x:=by
  cases o with
  | none=>cases h
  | some v=>exact ⟨v,rfl,h⟩
theorem qw {α : Type} {a b : α} (h : some a = some b) : a = b:=q6t h
section
variable {P : Program} {T : Tab} {base : Nat} {cs : List Code} {st : AS} {K : Ex→AS→Prop}
theorem RunK.mono {a : Ex→AS→Prop} : ∀ {cs : List Code} {st : AS},RunK P T base cs st K→(∀ ex st,K ex st→a ex st)→RunK P T base cs st a
  | [],_,h,hk=>hk _ _ h
  | c::cs,st,h,hk=>q2t.mono h fun ex st h=>by
    cases ex with
    | nor=>exact RunK.mono (cs:=cs) h hk
    | exit i=>exact hk _ _ h
    | ret=>exact hk _ _ h
theorem ql {α : Type} {c : Operand} {a b : Code} {t : Bool} {X Y : Option α} {x : α} (f : st.ev c = some (.d (.bool t))) (h : cond t X Y = some x) (g : t = true→X = some x→RunK P T base (a::cs) st K) (j : t = false→Y = some x→RunK P T base (b::cs) st K) :
    RunK P T base (.cond c a b::cs) st K:=by
  cases t with
  | true=>exact q5k f (g rfl h)
  | false=>exact Uh f (j rfl h)
theorem Qk {α β : Type} {body : Code} (f : α→Option (α ⊕ β)) (S : α→AS) (j : α) (m : β) (p : loop f j = some m) (o : WkE base st (S j))
    (round : ∀ a y,f a = some y→RunK P T base [body] (S a) (fun ex st'=>match ex with
      | .nor=>∃ a',y = .inl a'∧WkE base st' (S a')
      | ex=>∃ b,y = .inr b∧(b = m→K ex st'))) : RunK P T base (.loop body::cs) st K:=by
  obtain ⟨n,q⟩:=q7e.1 p;refine qtc (fun x : Nat × α=>S x.2) (fun x=>iter f x.1 x.2 = some m) (fun x=>x.1) (n,j) o q ?_;rintro ⟨k,a⟩ c
  cases k with
  | zero=>simp [iter] at c
  | succ k=>
    simp only [iter] at c;split at c
    · cases c
    · rename_i a' g;refine (round a _ g).mono ?_;intro ex st' h
      cases ex with
      | nor=>
        obtain ⟨a'',d,l⟩:=h;cases d;exact ⟨(k,a'),c,qd,l⟩
      | exit i=>obtain ⟨b,d,_⟩:=h;cases d
      | ret=>obtain ⟨b,d,_⟩:=h;cases d
    · rename_i b g;cases c;refine (round a _ g).mono ?_;grind
theorem q2w {id : Nat} {N : AS→Prop} (h : N st) : q2x id N K (.exit id) st:=by simpa [q2x] using h
theorem Qq {id : Nat} {N : AS→Prop} (h : N st) : q2x id N K .nor st:=h
theorem Y2 {β : Type} {c : Code} (E : β→Prop) (S : β→AS) (f : cs≠[]) (h : RunK P T base [c] st (q9l (fun st'=>∃ b,E b∧WkE base st' (S b)) K)) (a : ∀ b,E b→RunK P T base cs (S b) K) : RunK P T base (c::cs) st K:=by
  obtain ⟨ex,st1,g,d⟩:=q4c h;refine ⟨ex,st1,g,?_⟩
  cases ex with
  | nor=>obtain ⟨b,hb,j⟩:=d;exact Ze j (a b hb) f
  | exit i=>exact d
  | ret=>exact d
theorem Qo {β : Type} {id : Nat} {a : Code} (E : β→Prop) (S : β→AS) (d : cs≠[]) (g : RunK P T base [a] st (q2x id (fun st'=>∃ b,E b∧WkE base st' (S b)) K)) (c : ∀ b,E b→RunK P T base cs (S b) K) : RunK P T base (.block id a::cs) st K:=by
  refine Qa (g.mono ?_);intro ex st' h
  cases ex with
  | nor=>obtain ⟨b,hb,f⟩:=h;exact Ze f (c b hb) d
  | ret=>exact h
  | exit i=>
    simp only [q2x] at h ⊢;split
    · rename_i hi;rw [qp hi] at h;obtain ⟨b,hb,f⟩:=h;exact Ze f (c b hb) d
    grind
theorem qe5 {β : Type} {c : Code} (E : β→Prop) (S : β→AS) (d : RunK P T base [c] st (q9l (fun st'=>∃ b,E b∧WkE base st' (S b)) K)) (a : ∀ b st',E b→WkE base st' (S b)→K .nor st') : RunK P T base [c] st K:=by
  refine d.mono ?_;intro ex st' h
  cases ex with
  | nor=>obtain ⟨b,hb,f⟩:=h;exact a b st' hb f
  | exit i=>exact h
  | ret=>exact h
end
section
variable {P : Program} {T : Tab} {base : Nat} {ops : Array Oper} {dr : Dr} {l : List Oper} {sl : List (Nat × V)} {hp : List (Nat × Blk)} {nx : Nat} {K : AS→Prop} {ty : TypeId} {pos : String} {af : Array Edge} {t : Tmp} {g : Option (Nat × Bool)}
theorem qqo {op : Op} (v : V) (c : Qr ops ⟨sl,hp,nx⟩ ⟨some t,op,ty,pos,af,g⟩ = some true) (b : opFn T ⟨sl,hp,nx⟩ op = some (v,⟨sl,hp,nx⟩)) (h : OpsK P T base ops dr l ⟨(t,v)::sl,hp,nx⟩ K) (a : okO dr l.length ⟨sl,hp,nx⟩ (op) ⟨sl,hp,nx⟩ = true:=by rfl) : OpsK P T base ops dr (⟨some t,op,ty,pos,af,g⟩::l) ⟨sl,hp,nx⟩ K:=
  Kw c b h a
theorem qqg {op : Op} (v : V) (b : Blk) (d : Qr ops ⟨sl,hp,nx⟩ ⟨some t,op,ty,pos,af,g⟩ = some true) (c : opFn T ⟨sl,hp,nx⟩ op = some (v,⟨sl,(nx,b)::hp,nx + 1⟩)) (h : OpsK P T base ops dr l ⟨(t,v)::sl,(nx,b)::hp,nx + 1⟩ K) (a : okO dr l.length ⟨sl,hp,nx⟩ (op) ⟨sl,(nx,b)::hp,nx + 1⟩ = true:=by rfl) : OpsK P T base ops dr (⟨some t,op,ty,pos,af,g⟩::l) ⟨sl,hp,nx⟩ K:=
  Kw d c h a
theorem qq9 {op : Op} {es len : Nat} (xs : List (List DV)) (k : Qr ops ⟨sl,hp,nx⟩ ⟨some t,op,ty,pos,af,g⟩ = some true) (a : opFn T ⟨sl,hp,nx⟩ op = some (.hs nx es 0 len,⟨sl,(nx,.dat es xs)::hp,nx + 1⟩)) (b : len = xs.length) (f : touch op = 2) (j : find hp nx = none) (h : OpsK P T base ops dr l ⟨(t,.d (.sl es xs))::sl,hp,nx + 1⟩ K) (c : okF dr l.length (fp ⟨sl,hp,nx⟩ op) = true:=by rfl) : OpsK P T base ops dr (⟨some t,op,ty,pos,af,g⟩::l) ⟨sl,hp,nx⟩ K:=by
  subst b;exact qqh (n:=nx) (hp2:=hp) (st1:=⟨sl,(nx,.dat es xs)::hp,nx + 1⟩) k a f ⟨rfl,rfl⟩ rfl j h c
theorem qqn {op : Op} (n : Nat) (b : Blk) (d : Qr ops ⟨sl,hp,nx⟩ ⟨none,op,ty,pos,af,g⟩ = some true) (c : opFn T ⟨sl,hp,nx⟩ op = some (.dead,⟨sl,repl hp n b,nx⟩)) (h : OpsK P T base ops dr l ⟨sl,repl hp n b,nx⟩ K) (a : okO dr l.length ⟨sl,hp,nx⟩ (op) ⟨sl,repl hp n b,nx⟩ = true:=by rfl) : OpsK P T base ops dr (⟨none,op,ty,pos,af,g⟩::l) ⟨sl,hp,nx⟩ K:=
  Kw d c h a
theorem Qg {α : Type} {x : Operand} {b : Bool} {X Y : Option α} {m : α} (c : Qr ops ⟨sl,hp,nx⟩ ⟨some t,.move x,ty,pos,af,g⟩ = some true) (a : AS.ev ⟨sl,hp,nx⟩ x = some (.d (.bool b))) (h : cond b X Y = some m)
    (f : X = some m→OpsK P T base ops dr l ⟨(t,.d (.bool true))::sl,hp,nx⟩ K) (j : Y = some m→OpsK P T base ops dr l ⟨(t,.d (.bool false))::sl,hp,nx⟩ K) : OpsK P T base ops dr (⟨some t,.move x,ty,pos,af,g⟩::l) ⟨sl,hp,nx⟩ K:=by
  cases b with
  | true=>exact qdp c a (f h)
  | false=>exact qdp c a (j h)
theorem Ut {dr : Dr} (hd : dr = none) {n m : List Oper} {st st1 st2 : AS} : Kf P T base ops dr n st st1→Kf P T base ops dr m st1 st2→Kf P T base ops dr (n ++ m) st st2
  | .nil,h2=>h2
  | .skip a b,h2=>.skip a (Ut hd b h2)
  | .op a b _ c,h2=>.op a b (by subst hd;rfl) (Ut hd c h2)
  | .opF a b c d e f _ g,h2=>.opF a b c d e f (by subst hd;rfl) (Ut hd g h2)
  | .callP a b c d e f g h _ i,h2=>.callP a b c d e f g h (by subst hd;rfl) (Ut hd i h2)
  | .callS a b c d e,h2=>.callS a b c d (Ut hd e h2)
  | .callF a b c d e f g h i,h2=>.callF a b c d e f g h (Ut hd i h2)
  | .callY a b c d e f g h i j k l,h2=>.callY a b c d e f g h i j k (Ut hd l h2)
  | .wk a b,h2=>.wk a (Ut hd b h2)
  | .piv _ _ _,_=>by cases hd
theorem qcq {F : List Fp} {m k : Nat} : fpAt (F.drop m) k = fpAt F (k + m):=by
  unfold fpAt;grind
theorem qq3 {F : List Fp} {l a : List Oper} {dr : Dr} (hd : dr = some (F.drop a.length)) {st st1 : AS} {op : Op} (h : okO dr l.length st op st1 = true) : okO (some F) (l ++ a).length st op st1 = true:=by
  subst hd;simp only [okO,qcq] at h;simpa only [okO,List.length_append] using h
theorem qim {F : List Fp} {l a : List Oper} {dr : Dr} (hd : dr = some (F.drop a.length)) {x : Fp} (h : okF dr l.length x = true) : okF (some F) (l ++ a).length x = true:=by
  subst hd;simp only [okF,qcq] at h;simpa only [okF,List.length_append] using h
theorem qo3 {F : List Fp} {m : List Oper} {dr : Dr} {k : Dr} (q : k = some F) (hd : dr = some (F.drop m.length)) {n : List Oper} {st st1 st2 : AS} (p : Kf P T base ops dr n st st1) (r : Kf P T base ops k m st1 st2) : Kf P T base ops k (n ++ m) st st2:=by
  subst q
  induction n generalizing st with
  | nil=>cases p with
    | nil=>exact r
    | wk _ _=>cases hd
  | cons o l ih=>
    cases p with
    | skip a b=>exact .skip a (ih b)
    | op a b c d=>exact .op a b (qq3 hd c) (ih d)
    | opF a b c d e f g h=>exact .opF a b c d e f (qim hd g) (ih h)
    | callP a b c d e f g h i j=>exact .callP a b c d e f g h (qim hd i) (ih j)
    | callS _ _ _ _ _=>cases hd
    | callF _ _ _ _ _ _ _ _ _=>cases hd
    | callY _ _ _ _ _ _ _ _ _ _ _ _=>cases hd
    | wk _ _=>cases hd
    | piv a b c=>
      cases hd;rw [qcq] at a;exact .piv (by show Ub (fpAt F (l ++ m).length) = true;rw [List.length_append];exact a) b (ih c)
def qfz (dr : Dr) (k : Nat) : Dr:=match dr with
  | none=>none
  | some F=>some (F.drop k)
theorem qo2 {dr : Dr} {c a : List Oper} {st st1 st2 : AS} (d : Kf P T base ops (qfz dr a.length) c st st1) (b : Kf P T base ops dr a st1 st2) : Kf P T base ops dr (c ++ a) st st2:=by
  cases dr with
  | none=>exact Ut rfl d b
  | some F=>exact qo3 rfl rfl d b
theorem Qf (n : Nat) (Q : (List (Nat × V)→AS)→AS→Prop) (d : OpsK P T base ops (qfz dr (l.drop n).length) (l.take n) ⟨sl,hp,nx⟩ (Q fun p=>⟨p ++ sl,hp,nx⟩)) (g : ∀ st',Q (fun p=>⟨p ++ sl,hp,nx⟩) st'→OpsK P T base ops dr (l.drop n) st' K) : OpsK P T base ops dr l ⟨sl,hp,nx⟩ K:=by
  obtain ⟨st1,a,b⟩:=d;obtain ⟨st2,f,c⟩:=g st1 b;refine ⟨st2,?_,c⟩;have:=qo2 a f;simp_all
theorem qqc {α : Type} {x y : Operand} {a : TypeId} {i : TI} {k : IntKind} {n : Int} {es : Nat} {xs : List α} {enc : α→List DV} {v : α} (f : idx xs n = some v) (p : Qr ops ⟨sl,hp,nx⟩ ⟨some t,.indexAddr a x y,ty,pos,af,g⟩ = some true) (j : T a = some i)
    (c : AS.ev ⟨sl,hp,nx⟩ x = some (.d (.sl es (xs.map enc)))) (b : AS.ev ⟨sl,hp,nx⟩ y = some (.d (.int k n))) (r : i.kind = .slice) (q : es = i.esize)
    (h : OpsK P T base ops dr l ⟨(t,.dref (enc v) 0)::sl,hp,nx⟩ K) : OpsK P T base ops dr (⟨some t,.indexAddr a x y,ty,pos,af,g⟩::l) ⟨sl,hp,nx⟩ K:=by
  obtain ⟨m,o,_⟩:=qai f;exact Kw p (v:=.dref (enc v) 0) (st1:=⟨sl,hp,nx⟩) (by simp [opFn,c,b,j,q36,r,q,m,o]) h (Z4 rfl)
theorem qqb {α : Type} {x y : Operand} {a : TypeId} {i : TI} {k : IntKind} {n : Int} {m es len : Nat} {xs : List α} {v : α} (f : idx xs n = some v) (j : len = xs.length) (q : Qr ops ⟨sl,hp,nx⟩ ⟨some t,.indexAddr a x y,ty,pos,af,g⟩ = some true) (o : T a = some i)
    (c : AS.ev ⟨sl,hp,nx⟩ x = some (.hs m es 0 len)) (b : AS.ev ⟨sl,hp,nx⟩ y = some (.d (.int k n))) (s : i.kind = .slice) (r : es = i.esize)
    (h : OpsK P T base ops dr l ⟨(t,.ref m es n.toNat 0)::sl,hp,nx⟩ K) : OpsK P T base ops dr (⟨some t,.indexAddr a x y,ty,pos,af,g⟩::l) ⟨sl,hp,nx⟩ K:=by
  subst j;obtain ⟨p,_,u⟩:=qai f;exact Kw q (v:=.ref m es n.toNat 0) (st1:=⟨sl,hp,nx⟩) (by simp [opFn,c,b,o,q36,s,r,p];omega) h (Z4 rfl)
theorem qqf {α : Type} {p : Operand} {a : TypeId} {i : TI} {m es j : Nat} {n : Int} {xs : List α} {enc : α→List DV} {r : List DV} {v : α} (w : V) (f : idx xs n = some v) (o : Qr ops ⟨sl,hp,nx⟩ ⟨some t,.load a p,ty,pos,af,g⟩ = some true) (k : T a = some i)
    (c : AS.ev ⟨sl,hp,nx⟩ p = some (.ref m es n.toNat j)) (hb : find hp m = some (.dat es (xs.map enc))) (hs : sub (enc v) j i.size = some r) (b : (q1b i.agg r).map .d = some w)
    (h : OpsK P T base ops dr l ⟨(t,w)::sl,hp,nx⟩ K) (q : okF dr l.length (fp ⟨sl,hp,nx⟩ (.load a p)) = true:=by rfl) : OpsK P T base ops dr (⟨some t,.load a p,ty,pos,af,g⟩::l) ⟨sl,hp,nx⟩ K:=
  qiq o k c hb (by rw [List.getElem?_map,(qai f).2.1];rfl) hs b h q
theorem Qv {α : Type} {p x : Operand} {f : TypeId} {i : TI} {m es j : Nat} {n : Int} {xs : List α} {enc : α→List DV} {v : α} (k : α) {u : V} {ds : List DV} (s : idx xs n = some v) (z : Qr ops ⟨sl,hp,nx⟩ ⟨none,.store f p x,ty,pos,af,g⟩ = some true) (t : T f = some i)
    (hp' : AS.ev ⟨sl,hp,nx⟩ p = some (.ref m es n.toNat j)) (r : AS.ev ⟨sl,hp,nx⟩ x = some u) (hb : find hp m = some (.dat es (xs.map enc))) (o : cellsOf u = ds.map .d) (y : ds.length = i.size) (hk : ds.all Z9 = true) (q : j + i.size≤(enc v).length) (hs : splice (enc v) j ds = enc k)
    (h : OpsK P T base ops dr l ⟨sl,repl hp m (.dat es ((xs.set n.toNat k).map enc)),nx⟩ K) (hF : okO dr l.length ⟨sl,hp,nx⟩ (.store f p x) ⟨sl,repl hp m (.dat es ((xs.set n.toNat k).map enc)),nx⟩ = true:=by rfl) : OpsK P T base ops dr (⟨none,.store f p x,ty,pos,af,g⟩::l) ⟨sl,hp,nx⟩ K:=by
  refine Kw z (v:=.dead) (st1:=⟨sl,repl hp m (.dat es ((xs.set n.toNat k).map enc)),nx⟩) ?_ h hF;have a : (cellsOf u).all Ke = true:=by rw [o,List.all_map];exact hk
  have b : (cellsOf u).length = i.size:=by rw [o];simpa using y
  have c : (xs.map enc)[n.toNat]? = some (enc v):=by rw [List.getElem?_map,(qai s).2.1];rfl
  simp only [opFn,t,hp',r,J2,AS.blk,hb,Nat.beq_refl,c];rw [qr (by simp [a,b]),qp q,o,qc1];simp only [hs,List.map_set,AS.setBlk];rfl
theorem qir {α : Type} {x : Operand} {a : TypeId} {i : TI} {es : Nat} {xs : List α} {enc : α→List DV} (j : Qr ops ⟨sl,hp,nx⟩ ⟨some t,.call {callee:=.builtin .len,args:=#[x],argTypes:=#[a]},ty,pos,af,g⟩ = some true) (f : T a = some i) (b : i.kind = .slice) (c : AS.ev ⟨sl,hp,nx⟩ x = some (.d (.sl es (xs.map enc))))
    (h : OpsK P T base ops dr l ⟨(t,.d (.int .i64 (xs.length : Int)))::sl,hp,nx⟩ K) : OpsK P T base ops dr (⟨some t,.call {callee:=.builtin .len,args:=#[x],argTypes:=#[a]},ty,pos,af,g⟩::l) ⟨sl,hp,nx⟩ K:=
  qqe j f b c qd h
theorem Yj {α : Type} {x y : Operand} {a c : TypeId} {i j : TI} {n es len : Nat} {xs ys zs : List α} {enc : α→List DV} (m : V) (d : app i.ebytes xs ys = some zs) (b : len = xs.length) (u : Qr ops ⟨sl,hp,nx⟩ ⟨some t,.call {callee:=.builtin .append,args:=#[x,y],argTypes:=#[a,c]},ty,pos,af,g⟩ = some true)
    (r : T a = some i) (k : T c = some j) (q : AS.ev ⟨sl,hp,nx⟩ x = some (.hs n es 0 len)) (o : AS.ev ⟨sl,hp,nx⟩ y = some m) (hb : find hp n = some (.dat es (xs.map enc))) (z : Yk ⟨sl,hp,nx⟩ m = some (ys.map enc))
    (hk : i.kind = .slice) (f : j.kind = .slice) (v : es = i.esize) (s : Zi i.esize m = true)
    (h : OpsK P T base ops dr l ⟨(t,.hs nx es 0 zs.length)::sl,(nx,.dat es (zs.map enc))::repl hp n .dead,nx + 1⟩ K) (hF : okF dr l.length (fp ⟨sl,hp,nx⟩ (.call {callee:=.builtin .append,args:=#[x,y],argTypes:=#[a,c]})) = true:=by rfl) : OpsK P T base ops dr (⟨some t,.call {callee:=.builtin .append,args:=#[x,y],argTypes:=#[a,c]},ty,pos,af,g⟩::l) ⟨sl,hp,nx⟩ K:=by
  subst b;unfold app at d;split at d
  · rename_i p;cases d;refine qq5 u r k q o hb qd z hk f v s (by simpa [Nat.mul_assoc] using p) ?_ hF;grind
  · cases d
theorem Yh {α : Type} {n es len : Nat} {ys : List α} {enc : α→List DV} (a : len = ys.length) (hb : find hp n = some (.dat es (ys.map enc))) : Yk ⟨sl,hp,nx⟩ (.hs n es 0 len) = some (ys.map enc):=by
  subst a;simp only [Yk,AS.blk,hb];grind
theorem q6z {o : Operand} {k : IntKind} {a : Int} {d : Nat} {st : AS} (h : st.ev o = some (.d (.int k a))) (b : 0≤a) : bound st d (some o) = some a.toNat:=by
  simp [bound,h,b]
theorem q7i {x : Operand} {d : TypeId} {lo hi : Option Operand} {i : TI} {n es len : Nat} {a b : Int} {w : Nat × Nat} (c : sub2 len a b = some w) (p : Qr ops ⟨sl,hp,nx⟩ ⟨some t,.slice d x lo hi none,ty,pos,af,g⟩ = some true) (o : T d = some i) (q : i.kind = .slice) (r : es = i.esize)
    (m : AS.ev ⟨sl,hp,nx⟩ x = some (.hs n es 0 len)) (f : 0≤a→bound ⟨sl,hp,nx⟩ 0 lo = some a.toNat) (j : 0≤b→bound ⟨sl,hp,nx⟩ len hi = some b.toNat)
    (h : OpsK P T base ops dr l ⟨(t,.hs n es w.1 w.2)::sl,hp,nx⟩ K) : OpsK P T base ops dr (⟨some t,.slice d x lo hi none,ty,pos,af,g⟩::l) ⟨sl,hp,nx⟩ K:=by
  unfold sub2 at c;split at c
  · rename_i k;cases c;refine Kw p (v:=.hs n es a.toNat (b.toNat - a.toNat)) (st1:=⟨sl,hp,nx⟩) ?_ h (Z4 rfl);simp only [opFn,o,m,q,lenV,f k.1,j q6,qbd];grind
  · cases c
theorem q9g {n : Nat} {a b : Int} {w : Nat × Nat} (h : sub2 n a b = some w) : w.1 + w.2≤n:=by
  unfold sub2 at h;grind
theorem qy8 {α β : Type} (f : α→β) (xs ys : List α) (j : Nat) : splice (xs.map f) j (ys.map f) = (splice xs j ys).map f:=by
  simp [splice,List.map_take,List.map_drop]
theorem qq8 {α : Type} {x y : Operand} {a b : TypeId} {i j : TI} {n es : Nat} {w : Nat × Nat} {xs ys : List α} {enc : α→List DV} (k : V) (o : w.1 + w.2≤xs.length) (s : Qr ops ⟨sl,hp,nx⟩ ⟨some t,.call {callee:=.builtin .copy,args:=#[x,y],argTypes:=#[a,b]},ty,pos,af,g⟩ = some true)
    (q : T a = some i) (f : T b = some j) (p : AS.ev ⟨sl,hp,nx⟩ x = some (.hs n es w.1 w.2)) (m : AS.ev ⟨sl,hp,nx⟩ y = some k) (hb : find hp n = some (.dat es (xs.map enc))) (z : Yk ⟨sl,hp,nx⟩ k = some (ys.map enc))
    (hk : i.kind = .slice) (c : j.kind = .slice) (u : es = i.esize) (r : Zi i.esize k = true)
    (h : OpsK P T base ops dr l ⟨(t,.d (.int .i64 (min ys.length w.2 : Nat)))::sl,repl hp n (.dat es ((cpyw xs w ys).map enc)),nx⟩ K) (hF : okO dr l.length ⟨sl,hp,nx⟩ (.call {callee:=.builtin .copy,args:=#[x,y],argTypes:=#[a,b]}) ⟨sl,repl hp n (.dat es ((cpyw xs w ys).map enc)),nx⟩ = true:=by rfl) : OpsK P T base ops dr (⟨some t,.call {callee:=.builtin .copy,args:=#[x,y],argTypes:=#[a,b]},ty,pos,af,g⟩::l) ⟨sl,hp,nx⟩ K:=by
  refine Kw s (v:=.d (.int .i64 (min ys.length w.2 : Nat))) (st1:=⟨sl,repl hp n (.dat es ((cpyw xs w ys).map enc)),nx⟩) ?_ h hF;simp only [opFn,evL,p,m,Ky];simp only [List.getElem?_toArray,List.getElem?_cons_zero,List.getElem?_cons_succ,q,f];rw [qp ⟨hk,c,by simp [Zi,u],r⟩];simp only [copyV,AS.blk,hb,z];rw [qp ⟨by simpa using o,trivial⟩];simp only [List.length_map,cpyw,← List.map_take,qy8,AS.setBlk]
theorem qng {α : Type} {n es : Nat} {w : Nat × Nat} {ys : List α} {enc : α→List DV} (a : w.1 + w.2≤ys.length) (hb : find hp n = some (.dat es (ys.map enc))) : Yk ⟨sl,hp,nx⟩ (.hs n es w.1 w.2) = some (((ys.drop w.1).take w.2).map enc):=by
  simp only [Yk,AS.blk,hb];simp_all
theorem qic {k c : IntKind} {a b : Int} {r : List V} : minI false (.d (.int k a)) (.d (.int c b)::r) = minI false (.d (.int k (min a b))) r:=by
  simp only [minI];grind
theorem qib {k c : IntKind} {a b : Int} {r : List V} : minI true (.d (.int k a)) (.d (.int c b)::r) = minI true (.d (.int k (max a b))) r:=by
  simp only [minI];grind
theorem qit {xs : Array Operand} {ats : Array TypeId} {b : List V} {k : IntKind} {a : Int} {r : Int} (j : Qr ops ⟨sl,hp,nx⟩ ⟨some t,.call {callee:=.builtin .min,args:=xs,argTypes:=ats},ty,pos,af,g⟩ = some true) (f : evL (AS.ev ⟨sl,hp,nx⟩) xs.toList = some (.d (.int k a)::b)) (c : minI false (.d (.int k a)) b = some (.d (.int k r)))
    (h : OpsK P T base ops dr l ⟨(t,.d (.int k r))::sl,hp,nx⟩ K) : OpsK P T base ops dr (⟨some t,.call {callee:=.builtin .min,args:=xs,argTypes:=ats},ty,pos,af,g⟩::l) ⟨sl,hp,nx⟩ K:=
  Kw j (v:=.d (.int k r)) (st1:=⟨sl,hp,nx⟩) (by simp [opFn,f,Ky,c]) h (Z4 rfl)
theorem qis {xs : Array Operand} {ats : Array TypeId} {b : List V} {k : IntKind} {a : Int} {r : Int} (j : Qr ops ⟨sl,hp,nx⟩ ⟨some t,.call {callee:=.builtin .max,args:=xs,argTypes:=ats},ty,pos,af,g⟩ = some true) (f : evL (AS.ev ⟨sl,hp,nx⟩) xs.toList = some (.d (.int k a)::b)) (c : minI true (.d (.int k a)) b = some (.d (.int k r)))
    (h : OpsK P T base ops dr l ⟨(t,.d (.int k r))::sl,hp,nx⟩ K) : OpsK P T base ops dr (⟨some t,.call {callee:=.builtin .max,args:=xs,argTypes:=ats},ty,pos,af,g⟩::l) ⟨sl,hp,nx⟩ K:=
  Kw j (v:=.d (.int k r)) (st1:=⟨sl,hp,nx⟩) (by simp [opFn,f,Ky,c]) h (Z4 rfl)
theorem qiu {x y : Operand} {f j : TypeId} {a b r : Int} (c : q1c a b = some r) (o : Qr ops ⟨sl,hp,nx⟩ ⟨some t,.binOp .quo f x y j,ty,pos,af,g⟩ = some true) (n : AS.ev ⟨sl,hp,nx⟩ x = some (.d (.int .i64 a))) (k : AS.ev ⟨sl,hp,nx⟩ y = some (.d (.int .i64 b)))
    (h : OpsK P T base ops dr l ⟨(t,.d (.int .i64 r))::sl,hp,nx⟩ K) : OpsK P T base ops dr (⟨some t,.binOp .quo f x y j,ty,pos,af,g⟩::l) ⟨sl,hp,nx⟩ K:=by
  unfold q1c at c;split at c
  · cases c
  · rename_i m;cases c;exact Kw o (v:=.d (.int .i64 (w64 (a.tdiv b)))) (st1:=⟨sl,hp,nx⟩) (by simp [opFn,n,k,binD,binI,m];rfl) h (Z4 rfl)
theorem qqi {x y : Operand} {f j : TypeId} {a b r : Int} (c : qba a b = some r) (o : Qr ops ⟨sl,hp,nx⟩ ⟨some t,.binOp .rem f x y j,ty,pos,af,g⟩ = some true) (n : AS.ev ⟨sl,hp,nx⟩ x = some (.d (.int .i64 a))) (k : AS.ev ⟨sl,hp,nx⟩ y = some (.d (.int .i64 b)))
    (h : OpsK P T base ops dr l ⟨(t,.d (.int .i64 r))::sl,hp,nx⟩ K) : OpsK P T base ops dr (⟨some t,.binOp .rem f x y j,ty,pos,af,g⟩::l) ⟨sl,hp,nx⟩ K:=by
  unfold qba at c;split at c
  · cases c
  · rename_i m;cases c;exact Kw o (v:=.d (.int .i64 (a.tmod b))) (st1:=⟨sl,hp,nx⟩) (by simp [opFn,n,k,binD,binI,m]) h (Z4 rfl)
theorem qap {c : Call} {f : FuncId} {ds : List DV} {r : DV} (a : List V) (b : Pure P T f ds r) (m : Qr ops ⟨sl,hp,nx⟩ ⟨some t,.call c,ty,pos,af,g⟩ = some true) (j : callee ⟨sl,hp,nx⟩ c = some (f,a)) (hd : Ki hp a = some ds)
    (hs : (a.all V.isD = true∨r.scalar = true)) (h : OpsK P T base ops dr l ⟨(t,.d r)::sl,hp,nx⟩ K) (k : okF dr l.length (fpC a) = true:=by rfl) : OpsK P T base ops dr (⟨some t,.call c,ty,pos,af,g⟩::l) ⟨sl,hp,nx⟩ K:=
  qio m rfl j hd hs b h k
theorem Uq {hp : List (Nat × Blk)} {v : V} {d : DV} {a : List V} {ds : List DV} (h : toD hp 8 v = some d) (b : Ki hp a = some ds) : Ki hp (v::a) = some (d::ds):=by
  simp [Ki,h,b]
theorem Ju {α : Type} {k n es len : Nat} {ys : List α} {enc : α→List DV} (a : len = ys.length) (hb : find hp n = some (.dat es (ys.map enc))) : toD hp (k + 1) (.hs n es 0 len) = some (.sl es (ys.map enc)):=by
  subst a;simp only [toD,hb];grind
theorem qem {k : Nat} {a : List V} {ds : List DV} (h : Z2 (toD hp k) a = some ds) : toD hp (k + 1) (.tup a) = some (.tup ds):=by simp [toD,h]
theorem qyu {k : Nat} {f : FuncId} {a : List V} {ds : List DV} (h : Z2 (toD hp k) a = some ds) : toD hp (k + 1) (.fn f a) = some (.fn f ds):=by simp [toD,h]
theorem q38 {k : Nat} {v : V} {d : DV} {a : List V} {ds : List DV} (h : toD hp k v = some d) (b : Z2 (toD hp k) a = some ds) : Z2 (toD hp k) (v::a) = some (d::ds):=by simp [Z2,h,b]
inductive DLeL : List DV→List DV→Prop
  | nil : DLeL [] []
  | cons {x y : DV} {xs ys : List DV} : DLe x y→DLeL xs ys→DLeL (x::xs) (y::ys)
theorem DLeL.len {xs ys : List DV} (h : DLeL xs ys) : xs.length = ys.length:=by
  induction h with
  | nil=>rfl
  | cons _ _ ih=>simp [ih]
theorem DLeL.get {xs ys : List DV} (h : DLeL xs ys) : ∀ (i : Nat) (x y : DV),xs[i]? = some x→ys[i]? = some y→DLe x y:=by
  induction h with
  | nil=>intro i x y h;simp at h
  | cons h1 _ ih=>grind
theorem q30 {xs ys : List DV} (h : DLeL xs ys) : DLe (.tup xs) (.tup ys):=.tup h.len h.get
theorem finD {ex : Ex} {st : AS} {b : List ResultVar} {v : V} {r a : DV} (c : ex = .nor∨ex = .ret) (d : resV T st b = some v) (f : toD st.hp 8 v = some a) (g : DLe a r) : (ex = .nor∨ex = .ret)∧∃ v a,resV T st b = some v∧toD st.hp 8 v = some a∧DLe a r:=
  ⟨c,v,a,d,f,g⟩
end
theorem qli {α : Type} {st : AS} {ρ : Nat→Nat} {fz ph : List Nat} {nx n es len : Nat} {ys : List α} {enc : α→List DV} (a : len = ys.length) (hb : st.blk n = some (.dat es (ys.map enc))) (b : n∈fz) : Wv st ρ fz ph nx (.hs n es 0 len) (.d (.sl es (ys.map enc))):=by
  subst a;exact .frz hb b qd (by rw [List.drop_zero,List.take_of_length_le qd]) rfl
theorem K2 {st : AS} {ρ : Nat→Nat} {fz ph : List Nat} {nx n m es o l l' : Nat} (b : l = l') (d : ρ m = n) (c : m ∉ ph) (a : m < nx) : Wv st ρ fz ph nx (.hs n es o l) (.hs m es o l'):=b ▸ .hs d c a
inductive WvC (st : AS) (ρ : Nat→Nat) (fz ph : List Nat) (nx : Nat) : List V→List V→Prop
  | nil : WvC st ρ fz ph nx [] []
  | cons {c d : V} {cs ds : List V} : Wv st ρ fz ph nx c d→Ke d = true→WvC st ρ fz ph nx cs ds→WvC st ρ fz ph nx (c::cs) (d::ds)
theorem WvC.len {st : AS} {ρ : Nat→Nat} {fz ph : List Nat} {nx : Nat} {cs ds : List V} (h : WvC st ρ fz ph nx cs ds) : cs.length = ds.length:=by
  induction h with
  | nil=>rfl
  | cons _ _ _ ih=>simp [ih]
theorem WvC.get {st : AS} {ρ : Nat→Nat} {fz ph : List Nat} {nx : Nat} {cs ds : List V} (h : WvC st ρ fz ph nx cs ds) : ∀ (j : Nat) (c d : V),cs[j]? = some c→ds[j]? = some d→Wv st ρ fz ph nx c d∧Ke d = true:=by
  induction h with
  | nil=>intro i x y h;simp at h
  | cons h1 h2 _ ih=>grind
theorem Un {st : AS} {ρ : Nat→Nat} {fz ph : List Nat} {nx es : Nat} {cs ds : List V} (h : WvC st ρ fz ph nx cs ds) : Wb st ρ fz ph nx (.cel es [cs]) (.cel es [ds]):=by
  refine .cel rfl fun i x y a b=>?_
  cases i with
  | zero=>simp at a b;subst a b;exact ⟨h.len,h.get⟩
  | succ i=>simp at a
theorem qen {st : AS} {ρ : Nat→Nat} {fz ph : List Nat} {nx es : Nat} {cs : List DV} {ds : List V} (h : WvC st ρ fz ph nx (cs.map .d) ds) : Wb st ρ fz ph nx (.dat es [cs]) (.cel es [ds]):=by
  refine .datcel rfl fun i x y a b=>?_
  cases i with
  | zero=>
    simp at a b;subst a b;exact ⟨by simpa using h.len,fun j c d f hd=>h.get j (.d c) d (by simp [f]) hd⟩
  | succ i=>simp at a
inductive WvL (st : AS) (ρ : Nat→Nat) (fz ph : List Nat) (nx : Nat) : List V→List V→Prop
  | nil : WvL st ρ fz ph nx [] []
  | cons {c d : V} {cs ds : List V} : Wv st ρ fz ph nx c d→WvL st ρ fz ph nx cs ds→WvL st ρ fz ph nx (c::cs) (d::ds)
theorem WvL.len {st : AS} {ρ : Nat→Nat} {fz ph : List Nat} {nx : Nat} {cs ds : List V} (h : WvL st ρ fz ph nx cs ds) : cs.length = ds.length:=by
  induction h with
  | nil=>rfl
  | cons _ _ ih=>simp [ih]
theorem WvL.get {st : AS} {ρ : Nat→Nat} {fz ph : List Nat} {nx : Nat} {cs ds : List V} (h : WvL st ρ fz ph nx cs ds) : ∀ (j : Nat) (c d : V),cs[j]? = some c→ds[j]? = some d→Wv st ρ fz ph nx c d:=by
  induction h with
  | nil=>intro i x y h;simp at h
  | cons h1 _ ih=>grind
theorem q48 {st : AS} {ρ : Nat→Nat} {fz ph : List Nat} {nx : Nat} {f : FuncId} {cs ds : List V} (h : WvL st ρ fz ph nx cs ds) : Wv st ρ fz ph nx (.fn f cs) (.fn f ds):=.fn h.len h.get
theorem qer {st : AS} {ρ : Nat→Nat} {fz ph : List Nat} {nx : Nat} {cs ds : List V} (h : WvL st ρ fz ph nx cs ds) : Wv st ρ fz ph nx (.tup cs) (.tup ds):=.tup h.len h.get
theorem qzd {st : AS} {ρ : Nat→Nat} {fz ph : List Nat} {nx : Nat} {cs : List DV} {ds : List V} (h : WvL st ρ fz ph nx (cs.map .d) ds) : Wv st ρ fz ph nx (.d (.tup cs)) (.tup ds):=
  .dtup (by have:=h.len;simpa using this) fun i c d a hd=>h.get i _ d (by simp [a]) hd
theorem qzc {st : AS} {ρ : Nat→Nat} {fz ph : List Nat} {nx : Nat} {cs : List DV} {ds : List V} (h : WvL st ρ fz ph nx (cs.map .d) ds) : Wv st ρ fz ph nx (.d (.agg cs)) (.agg ds):=
  .dagg (by have:=h.len;simpa using this) fun i c d a hd=>h.get i _ d (by simp [a]) hd
theorem qbs {st : AS} {ρ : Nat→Nat} {fz ph : List Nat} {nx : Nat} {cs ds : List V} (h : WvL st ρ fz ph nx cs ds) : Wv st ρ fz ph nx (.agg cs) (.agg ds):=.agg h.len h.get
theorem qgf {P : Program} {T : Tab} {f : FuncId} {ds g : List DV} (j : DLeL g ds) {o : List V} {hp hp' : List (Nat × Blk)} {nx nx' : Nat} {v : V} : K6 P T f o hp nx v hp' nx'→o = ds.map .d→hp = []→nx = 0→K6 P T f (g.map .d) [] 0 v hp' nx'
  | .wk e w,a,hh,hn=>by
    have h:=qgf j e a hh hn
    subst hh hn
    exact .wk h w
  | .mk h1 h2 h3 h4 h5 h6 h7 h8,a,hh,hn=>by
    subst a hh hn
    refine .mk h1 h2 h3 h4 (by simpa [j.len] using h5) (.wk (ρ:=fun n=>n) (fz:=[]) (ph:=[]) ⟨?_,?_,?_,?_,?_,?_,?_,?_⟩ h6) h7 h8
    · intro t p a
      simp only [AS.get,q9u] at a ⊢
      simp only [Nat.zero_le,if_true,Nat.sub_zero,List.getElem?_map,Ks] at a ⊢
      obtain ⟨y,k,rfl⟩:=a
      obtain ⟨x,l⟩:=Zc (xs:=g) (i:=t) (by rw [j.len];exact Kb k)
      exact ⟨_,⟨x,l,rfl⟩,.d (j.get t x y l k)⟩
    · intro n b h;simp [AS.blk,find] at h
    · intro n m b c h;simp [AS.blk,find] at h
    · intro n b h;simp [AS.blk,find] at h
    · intro n h;rfl
    · exact Nat.le_refl _
    · intro n h;cases h
    · intro n h;cases h
theorem qas {P : Program} {T : Tab} {f : FuncId} {ds a : List DV} {r : DV} (d : DLeL a ds) (h : Pure P T f ds r) : Pure P T f a r:=by
  obtain ⟨v,hp,nx,c,e,g,b⟩:=h;exact ⟨v,hp,nx,c,qgf d e rfl rfl rfl,g,b⟩
end Go.Am
namespace Go.Sh
open Go Go.Am
theorem qhj {α : Type} (xs : List α) (k : Nat) : idx xs (k : Int) = xs[k]?:=by simp [idx]
theorem Qx {α : Type} {xs : List α} {k : Nat} (h : k < xs.length) : idx xs (k : Int) = some xs[k]:=by simp [idx,h]
theorem q17 {α : Type} {xs : List α} {i : Int} {k : Nat} (hi : i = k) (h : k < xs.length) : idx xs i = some xs[k]:=by subst hi;exact Qx h
theorem Y8 {α : Type} {c : Nat} {xs ys : List α} (h : (xs.length + ys.length) * (c * 4)≤4294967296) : app c xs ys = some (xs ++ ys):=by simp [app,h]
theorem qnd {α : Type} {c : Bool} {a b : α} : (cond c (some a) (some b)) = some (cond c a b):=by cases c <;> rfl
theorem Jf {α β σ : Type} {f : α→Option (α ⊕ β)} (mk : Nat→σ→α) (n : Nat) (I : Nat→σ→Prop) (Q : β→Prop)
    (step : ∀ k c,k < n→I k c→(∃ g,f (mk k c) = some (.inl (mk (k + 1) g))∧I (k + 1) g)∨∃ b,f (mk k c) = some (.inr b)∧Q b)
    (done : ∀ c,I n c→∃ b,f (mk n c) = some (.inr b)∧Q b) {k0 : Nat} {c0 : σ} (h : k0≤n) (j : I k0 c0) : ∃ b,loop f (mk k0 c0) = some b∧Q b:=by
  have key : ∀ m k c,n - k = m→k≤n→I k c→∃ b,loop f (mk k c) = some b∧Q b:=by
    intro m
    induction m with
    | zero=>
      intro k c l h hi;obtain rfl : k = n:=by omega
      obtain ⟨b,d,a⟩:=done c hi;exact ⟨b,K7 d,a⟩
    | succ m ih=>
      intro k c l h hi;rcases step k c q6 hi with ⟨g,d,a⟩ | ⟨b,d,a⟩
      · rw [Kc d];exact ih (k + 1) g q6 q6 a
      · exact ⟨b,K7 d,a⟩
  exact key _ k0 c0 rfl h j
def I64 (x : Int) : Prop:=-9223372036854775808≤x∧x≤9223372036854775807
end Go.Sh
namespace Go.Sh
open Go Go.Am
open Classical in
noncomputable def Zs (P : Rat→Prop) : List Rat→Option Rat
  | []=>none
  | a::r=>if P ((a + (r.head?.getD (a + 1))) / 2) then some a else Zs P r
theorem qgj {P : Rat→Prop} (c : ∀ t,0 < t→¬ P t) : ∀ {a : Rat} {r : List Rat},0≤a→(∀ x∈r,0 < x)→Zs P (a::r) = none
  | a,r,ha,hr=>by
    have f : 0 < (a + (r.head?.getD (a + 1))) / 2:=by
      cases r with
      | nil=>simp only [List.head?_nil,Option.getD_none];grind
      | cons b r=>have:=hr b qd;simp only [List.head?_cons,Option.getD_some];grind
    unfold Zs
    rw [qr (c _ f)]
    cases r with
    | nil=>rfl
    | cons b r=>exact qgj c (by have:=hr b qd;grind) fun x d=>hr x (by simp [d])
theorem qgk {P : Rat→Prop} {lo hi : Rat} (f : ∀ t,0 < t→(P t↔lo < t∧t < hi)) (h : lo < hi) : ∀ {a : Rat} {r : List Rat},0≤a→(∀ x∈r,0 < x)→(a::r).Pairwise (·≤·)→lo∈a::r→hi∈a::r→Zs P (a::r) = some lo
  | a,r,ha,hr,hs,hl,hh=>by
    obtain ⟨o,m⟩:=List.pairwise_cons.1 hs
    cases r with
    | nil=>
      simp only [List.mem_cons,List.not_mem_nil,or_false] at hl hh
      grind
    | cons b r=>
      have hb:=hr b qd
      have n:=o b qd
      have c:=(List.pairwise_cons.1 m).1
      have l : 0 < (a + b) / 2:=by grind
      have k : ∀ _ : lo∈b::r,Zs P (b::r) = some lo:=fun g=>qgk f h (by grind) (fun x p=>hr x (by simp [p])) m g (by
        rcases List.mem_cons.1 hh with e | e
        · rcases List.mem_cons.1 g with d | d
          · grind
          · have:=c lo d;grind
        · exact e)
      by_cases hp : P ((a + b) / 2)
      · refine (qp hp : Zs P (a::b::r) = some a).trans ?_
        have hp2:=(f _ l).1 hp
        rcases List.mem_cons.1 hl with e | e
        · rw [e]
        · have : b≤lo:=by
            rcases List.mem_cons.1 e with e | e
            · grind
            · exact c lo e
          grind
      · refine (qr hp : Zs P (a::b::r) = Zs P (b::r)).trans ?_
        rcases List.mem_cons.1 hl with e | e
        · have q : b≤hi:=by
            rcases List.mem_cons.1 hh with d | d
            · grind
            · rcases List.mem_cons.1 d with j | j
              · grind
              · exact c hi j
          have : ¬ lo < b:=fun g=>hp ((f _ l).2 (by grind))
          exact k (by rw [show lo = b by grind];simp)
        · exact k e
def fr (n m : Int) : Rat:=(n : Rat) / (m : Rat)
theorem qag {a b : Int} : ((a : Rat) < (b : Rat))↔a < b:=by constructor <;> intro h <;> exact_mod_cast h
theorem q4i {a b c d : Int} (hb : 0 < b) (hd : 0 < d) : fr a b < fr c d↔a * d < c * b:=by
  unfold fr;have f : (0 : Rat) < b:=by exact_mod_cast hb
  have g : (0 : Rat) < d:=by exact_mod_cast hd
  rw [Rat.div_lt_iff f,show (c : Rat) / d * b = (c * b) / d by grind,Rat.lt_div_iff g];rw [← qag (a:=a * d),Rat.intCast_mul,Rat.intCast_mul]
theorem qgu {a b c d : Int} (hb : 0 < b) (hd : 0 < d) : fr a b = fr c d↔a * d = c * b:=by
  constructor
  · intro h;have j : ¬ a * d < c * b:=fun g=>by have:=(q4i hb hd).2 g;grind
    have f : ¬ c * b < a * d:=fun g=>by have:=(q4i hd hb).2 g;grind
    omega
  · intro h;have j : ¬ fr a b < fr c d:=fun g=>by have:=(q4i hb hd).1 g;omega
    have f : ¬ fr c d < fr a b:=fun g=>by have:=(q4i hd hb).1 g;omega
    grind
end Go.Sh
