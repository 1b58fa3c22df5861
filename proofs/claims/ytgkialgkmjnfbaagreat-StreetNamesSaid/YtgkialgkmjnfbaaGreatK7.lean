/- Am26 Am26m Am27 Am28 Am29 Am30 Am31 -/
import Derived.Test.YtgkialgkmjnfbaaGreatK6
import Derived.ProofKit
import Derived.OpenShut
import Derived.Deep.Slices
namespace Go.Am
open Go
variable {P : Program} {T : Tab}
def wpL (F : Fence) (P : Program) (c : Code) (Q : Exit→Act→World→Prop) (a : Act) (w : World) : Prop:=
  ∀ (b : Frame) (k : List Item) (cs : List Frame),b.roundOf = F.round→F.fn b.fn→F.room (cs.length + 1 + 0)→
    ∃ e a' w',Q e a' w'∧ArrivesIn (Machine.fenced P F) P (lone (b.atR a (.code c::.inLoop c::k)) cs w) b k cs e a' w'
theorem qhg {F : Fence} {c : Code} {Q : Exit→Act→World→Prop} {a : Act} {w : World} (h : c.wpIn F 0 P (Exit.then (wpL F P c Q) Q) a w) : wpL F P c Q a w:=by
  intro b k cs m hb p;obtain ⟨e,n,j,g,d⟩:=h b (.inLoop c::k) cs m hb p
  cases e with
  | normal=>
    obtain ⟨q,r,s,o,f⟩:=g b k cs m hb p;exact ⟨q,r,s,o,.of_steps (StepsIn.trans d (.one (fenced_calm hb p rfl) stepR_inLoop)) f⟩
  | exit id=>exact ⟨_,n,j,g,.pass (x:=.inLoop c) rfl (fun _ _=>.inl qd) d⟩
  | goto l=>exact ⟨_,n,j,g,.pass (x:=.inLoop c) rfl (fun _ _=>.inl qd) d⟩
  | ret=>exact ⟨_,n,j,g,.pass (x:=.inLoop c) rfl (fun _ _=>.inl qd) d⟩
  | panic ch=>exact ⟨_,n,j,g,.pass (x:=.inLoop c) rfl (fun _ _=>.inl qd) d⟩
  | outgrown=>exact ⟨_,n,j,g,.pass (x:=.inLoop c) rfl (fun _ _=>.inl qd) d⟩
theorem qhf {F : Fence} {c : Code} {Q : Exit→Act→World→Prop} {a : Act} {w : World} (h : wpL F P c Q a w) : (Code.loop c).wpIn F 0 P Q a w:=by
  intro b k cs f hb g;obtain ⟨e,a',w',j,d⟩:=h b k cs f hb g;exact ⟨e,a',w',j,.of_steps (.one (fenced_calm hb g rfl) stepR_loop) d⟩
theorem qds {F : Fence} {c : Code} {Q d : Exit→Act→World→Prop} {a : Act} {w : World} (h : wpL F P c Q a w) (f : ∀ e a w,Q e a w→d e a w) : wpL F P c d a w:=
  fun b k cs j g l=>let ⟨e,a',w',q,r⟩:=h b k cs j g l;⟨e,a',w',f _ _ _ q,r⟩
def CP (base : Nat) (w : World) (Z : Nat→Prop) (inj : Inj) (st : AS) (a : Act) (Ds : List Nat) (ex : Ex) (st' : AS) (e : Exit) (a' : Act) (w' : World) : Prop:=e = toE ex∧Y7 base w Z inj st a Ds st' a' w'
def Kv (P : Program) (base : Nat) (c : Code) (st : AS) (ex : Ex) (st' : AS) : Prop:=
  ∀ (ro : Option Nat) (w : World) (Z : Nat→Prop) (inj : Inj) (a : Act) (Ds : List Nat),RelS w Z inj st a Ds→codeOk a.tmps.size c = true→base≤st.nx→Yl ro w→
    c.wpIn (Fw ro) 0 P (CP base w Z inj st a Ds ex st') a w∧∀ d,c = .loop d→wpL (Fw ro) P d (CP base w Z inj st a Ds ex st') a w
section
variable {base : Nat} {st st1 st2 : AS} {ex : Ex}
theorem J4 {c : Code} (k : ∀ d,c≠.loop d) (h : ∀ (ro : Option Nat) (w : World) (Z : Nat→Prop) (inj : Inj) (a : Act) (Ds : List Nat),RelS w Z inj st a Ds→codeOk a.tmps.size c = true→base≤st.nx→Yl ro w→
    c.wpIn (Fw ro) 0 P (CP base w Z inj st a Ds ex st1) a w) : Kv P base c st ex st1:=
  fun ro w Z inj a Ds j b f g=>⟨h ro w Z inj a Ds j b f g,fun d hd=>absurd hd (k d)⟩
theorem Y7.round {w : World} {Z : Nat→Prop} {inj : Inj} {a : Act} {Ds : List Nat} {a' : Act} {w' : World} {ro : Option Nat} (h : Y7 base w Z inj st a Ds st1 a' w') (b : Yl ro w) : Yl ro w':=by
  obtain ⟨_,_,_,_,e,_⟩:=h;exact b.ext e
theorem qpy : Kv P base .skip st .nor st:=
  J4 qd fun ro w Z inj a Ds h _ hb _=>wpIn_skip ⟨rfl,Y7.refl h hb⟩
theorem qpm {id : Nat} : Kv P base (.exit id) st (.exit id) st:=
  J4 qd fun ro w Z inj a Ds h _ hb _=>wpIn_exit ⟨rfl,Y7.refl h hb⟩
theorem qpt : Kv P base .ret st .ret st:=
  J4 qd fun ro w Z inj a Ds h _ hb _=>wpIn_ret ⟨rfl,Y7.refl h hb⟩
theorem qpv {a b : Code} (n : Kv P base a st .nor st1) (m : Kv P base b st1 ex st2) : Kv P base (.seq a b) st ex st2:=by
  refine J4 qd fun ro w Z inj act Ds h c hb j=>wpIn_seq (wpIn_mono (n ro w Z inj act Ds h ?_ hb j).1 ?_)
  · simp only [codeOk,Bool.and_eq_true] at c;exact c.1
  · rintro e a' w' ⟨rfl,hp⟩;refine hp.bind fun Z' inj' l k d f _ g=>?_;refine wpIn_mono (m ro w' Z' inj' a' l k ?_ f (hp.round j)).1 ?_
    · simp only [codeOk,Bool.and_eq_true] at c;rw [d];exact c.2
    · rintro e o w2 ⟨rfl,hp2⟩;exact ⟨rfl,g _ _ _ hp2⟩
theorem qpx {a b : Code} (g : Kv P base a st ex st1) (f : ex≠.nor) : Kv P base (.seq a b) st ex st1:=by
  refine J4 qd fun ro w Z inj act Ds h c hb d=>wpIn_seq (wpIn_mono (g ro w Z inj act Ds h ?_ hb d).1 ?_)
  · simp only [codeOk,Bool.and_eq_true] at c;exact c.1
  · rintro e a' w' ⟨rfl,hp⟩
    cases ex with
    | nor=>exact absurd rfl f
    | exit id=>exact ⟨rfl,hp⟩
    | ret=>exact ⟨rfl,hp⟩
theorem qpl {c : Operand} {a b : Code} (k : st.ev c = some (.d (.bool true))) (j : Kv P base a st ex st1) : Kv P base (.cond c a b) st ex st1:=by
  refine J4 qd fun ro w Z inj act Ds h f hb g=>wpIn_cond_true ?_ (j ro w Z inj act Ds h ?_ hb g).1
  · have:=Kb h k;generalize act.eval c = x at this
    cases this with | d this=>cases this;rfl
  · simp only [codeOk,Bool.and_eq_true] at f;exact f.1
theorem qpk {c : Operand} {a b : Code} (k : st.ev c = some (.d (.bool false))) (j : Kv P base b st ex st1) : Kv P base (.cond c a b) st ex st1:=by
  refine J4 qd fun ro w Z inj act Ds h f hb g=>wpIn_cond_false ?_ (j ro w Z inj act Ds h ?_ hb g).1
  · have:=Kb h k;generalize act.eval c = x at this
    cases this with | d this=>cases this;rfl
  · simp only [codeOk,Bool.and_eq_true] at f;exact f.2
theorem qpi {id : Nat} {a : Code} (d : Kv P base a st ex st1) : Kv P base (.block id a) st (ex.block id) st1:=by
  refine J4 qd fun ro w Z inj act Ds h c hb b=>wpIn_block (wpIn_mono (d ro w Z inj act Ds h c hb b).1 ?_);rintro e a' w' ⟨rfl,hp⟩
  cases ex with
  | nor=>exact ⟨rfl,hp⟩
  | ret=>exact ⟨rfl,hp⟩
  | exit i=>
    by_cases hi : i = id
    · simp only [toE,Exit.inBlock,hi,if_true,Ex.block];exact ⟨rfl,hp⟩
    · simp only [toE,Exit.inBlock,hi,if_false,Ex.block];exact ⟨rfl,hp⟩
theorem qpn {l : Nat} : Kv P base (.label l) st .nor st:=
  J4 qd fun ro w Z inj a Ds h _ hb _=>wpIn_label ⟨rfl,Y7.refl h hb⟩
theorem qpu {a : Code} (p : Kv P base a st ex st1) : Kv P base (.scope a) st ex st1:=by
  refine J4 qd fun ro w Z inj act Ds h o hb n=>?_;intro b k cs g d l;have s1 : ∀ {f : Act} {w0 : World},step P (lone (b.atR f (.code (.scope a)::k)) cs w0) = .next (lone (b.atR f (.code a::.inScope a::k)) cs w0):=step_lone_go (by simp [stepG,stepG.exec,Frame.atR]);have s : ∀ {f : Act} {w0 : World},step P (lone (b.atR f (.inScope a::k)) cs w0) = .next (lone (b.atR f k) cs w0):=step_lone_go (by simp [stepG,stepG.exec,Frame.atR]);have j : (lone (b.atR act (.code (.scope a)::k)) cs w).fenced P (Fw ro):=fenced_calm d l rfl;obtain ⟨e,t,r,q,c⟩:=(p ro w Z inj act Ds h o hb n).1 b (.inScope a::k) cs g d l;refine ⟨e,t,r,q,?_⟩;obtain ⟨rfl,_⟩:=q
  cases ex with
  | nor=>exact .head j s1 (StepsIn.trans c (.one (fenced_calm d l rfl) s))
  | exit id=>exact ⟨fun u hk=>.head j s1 (c.1 u (by simp [exitTo,hk])),fun m hk=>let ⟨k₁,p,h2⟩:=c.2 m (by simp [exitTo,hk]);⟨k₁,p,.head j s1 h2⟩⟩
  | ret=>exact .of_steps (.one j s1) c
theorem qib {a : Code} (h : ∀ (ro : Option Nat) (w : World) (Z : Nat→Prop) (inj : Inj) (act : Act) (Ds : List Nat),RelS w Z inj st act Ds→codeOk act.tmps.size (.loop a) = true→base≤st.nx→Yl ro w→
    wpL (Fw ro) P a (CP base w Z inj st act Ds ex st1) act w) : Kv P base (.loop a) st ex st1:=
  fun ro w Z inj act Ds g b c f=>⟨qhf (h ro w Z inj act Ds g b c f),fun d hd=>by cases hd;exact h ro w Z inj act Ds g b c f⟩
theorem qpo {a : Code} (m : Kv P base a st .nor st1) (l : Kv P base (.loop a) st1 ex st2) : Kv P base (.loop a) st ex st2:=by
  refine qib fun ro w Z inj act Ds h g hb f=>qhg (wpIn_mono (m ro w Z inj act Ds h g hb f).1 ?_);rintro e a' w' ⟨rfl,hp⟩;refine hp.bind fun Z' inj' k j b c _ d=>?_;refine qds ((l ro w' Z' inj' a' k j (by rw [b];exact g) c (hp.round f)).2 a rfl) ?_;rintro e n w2 ⟨rfl,hp2⟩;exact ⟨rfl,d _ _ _ hp2⟩
theorem qpp {a : Code} (d : Kv P base a st ex st1) (f : ex≠.nor) : Kv P base (.loop a) st ex st1:=by
  refine qib fun ro w Z inj act Ds h b hb c=>qhg (wpIn_mono (d ro w Z inj act Ds h b hb c).1 ?_);rintro e a' w' ⟨rfl,hp⟩
  cases ex with
  | nor=>exact absurd rfl f
  | exit id=>exact ⟨rfl,hp⟩
  | ret=>exact ⟨rfl,hp⟩
theorem qpz {ρ : Nat→Nat} {fz ph : List Nat} {c : Code} (k : Wk base ρ fz ph st st1) (n : Kv P base c st1 ex st2) : Kv P base c st ex st2:=by
  intro ro w Z inj a Ds h j hb g;obtain ⟨f,t⟩:=q1h h k
  have b : ∀ e a' w',CP base w (wkZ Z inj st fz) (wkI inj ρ ph) st1 a Ds ex st2 e a' w'→CP base w Z inj st a Ds ex st2 e a' w':=by
    rintro e a' w' ⟨rfl,o,p,x,l,r,s,v,u⟩;exact ⟨rfl,o,p,x,l,t.trans r (Nat.le_refl _),s,v,u⟩
  obtain ⟨m,q⟩:=n ro w _ _ a Ds f j k.bs g;exact ⟨wpIn_mono m b,fun d hd=>qds (q d hd) b⟩
theorem qq2 {ops : Array Oper} {ro : Option Nat} {w0 : World} {Z0 : Nat→Prop} {inj0 : Inj} {d : AS} {k : Act} {Ds0 : List Nat} {Q : Exit→Act→World→Prop} {l : List Oper} {st st' : AS} (x : Zr P base ops l st st')
    (hd : ∀ o∈ops,J5 k.tmps.size o.dst = true) (q : ∀ a' w',Y7 base w0 Z0 inj0 d k Ds0 st' a' w'→Q .normal a' w') : ∀ (pre : List Oper) (a : Act) (w : World),ops.toList = pre ++ l→Y7 base w0 Z0 inj0 d k Ds0 st a w→Yl ro w→
    wpOpsIn (Fw ro) 0 P ops Q (List.range' pre.length l.length) a w:=by
  have one : ∀ {o : Oper} {l : List Oper} {st st1 st2 : AS},Ja P base ops o st st1→(∀ (pre : List Oper) (a : Act) (w : World),ops.toList = pre ++ l→Y7 base w0 Z0 inj0 d k Ds0 st1 a w→Yl ro w→wpOpsIn (Fw ro) 0 P ops Q (List.range' pre.length l.length) a w)→
      ∀ (pre : List Oper) (a : Act) (w : World),ops.toList = pre ++ o::l→Y7 base w0 Z0 inj0 d k Ds0 st a w→Yl ro w→wpOpsIn (Fw ro) 0 P ops Q (List.range' pre.length (o::l).length) a w:=by
    intro o l st st1 st2 hs m pre a w p hp c
    have r : ops[pre.length]? = some o:=by rw [← Array.getElem?_toList,p];simp
    rw [List.length_cons,List.range'_succ,wpOpsIn_cons]
    refine qbg r ?_
    refine hp.bind fun Z' inj' f b g h _ j=>?_
    refine hs ro Q w Z' inj' a f _ b (by rw [g];exact hd o (Array.mem_of_getElem? r)) h c fun a' w' hp'=>?_
    have:=m (pre ++ [o]) a' w' (by rw [p];simp) (j _ _ _ hp') (hp'.round c)
    simpa using this
  induction x with
  | nil=>intro pre a w _ hp _;simpa [wpOpsIn] using q _ _ hp
  | cons hs _ m=>exact one (st2:=st) hs (m q)
  | wk hw _ m=>
    intro pre a w p hp c;refine m q pre a w p ?_ c;obtain ⟨Z',inj',f,t,s,v,y,u⟩:=hp;obtain ⟨b,n⟩:=q1h t hw;exact ⟨_,_,f,b,s.trans n (Nat.le_refl _),v,hw.bs,u⟩
theorem qpr {id : Nat} {ops : Array Oper} (f : Zr P base ops ops.toList st st1) : Kv P base (.region id ops false) st .nor st1:=by
  refine J4 qd fun ro w Z inj a Ds h b hb c=>wpIn_region ?_
  have hd : ∀ o∈ops,J5 a.tmps.size o.dst = true:=by
    intro o d;simp only [codeOk,List.all_eq_true] at b;exact b o (by simpa using d)
  have:=qq2 (Q:=CP base w Z inj st a Ds .nor st1) f hd (fun a' w' hp=>⟨rfl,hp⟩) [] a w rfl (Y7.refl h hb) c;rw [List.range_eq_range'];simpa using this
theorem qps {id : Nat} {ops : Array Oper} {F : List Fp} (d : P.follows .mixedOrders = true) (f : U3 P base ops F ops.toList st st1) (hd : q3g F ops = true) : Kv P base (.region id ops true) st .nor st1:=
  J4 qd fun ro w Z inj a Ds h c hb b=>qyy d (qqy hd) f h c hb b fun a' w' hp=>⟨rfl,hp⟩
theorem qt7 {ops : Array Oper} {o : Oper} {c : Call} {g : Operand} {n : Nat} {vs : List V} {s s1 s2 : List (Nat × V)} {j : List Tmp} {assign body : Code}
    (hg : Qs ops st o = some true) (ho : o.op = .call c) (u : c.callee = .value g) (bf : st.ev g = some (.yld n)) (ba : evL st.ev c.args.toList = some vs)
    (z : st.blk n = some (.loop s j assign body .ready none)) (ak : j.length = vs.length)
    (h1 : Kv P st.nx assign {sl:=q32 s j vs,hp:=st.hp,nx:=st.nx} .nor st1) (bl : st1.blk n = some (.loop s1 j assign body .ready none))
    (h2 : Kv P st.nx body (st1.setBlk n (.loop s1 j assign body .busy none)) ex st2) (bk : st2.blk n = some (.loop s2 j assign body .busy none)) :
    Ja P base ops o st ({sl:=st.sl,hp:=repl st2.hp n (.loop s2 j assign body (if ex = .nor then .ready else .done) ex.code),nx:=st2.nx : AS}.putD o.dst (.d (.bool (decide (ex = .nor))))):=by
  intro ro Q w Z inj a Ds K h hd hb ct hK;unfold Jj;rw [q3m h hg];simp only [if_true];refine ⟨fun _ _=>trivial,?_⟩;have hr:=Kb h bf;obtain ⟨b,r,hi,hw,es,ep,ap,av,bn,ac,bg,_⟩:=qgg (ls':=.ready) (pe':=none) (pin:=0) h.heap z;generalize bc : a.eval g = gv at hr
  cases hr with | @yld _ b' o' hlt hi'=>
  rw [hi] at hi';cases hi';have hl:=q3h h ba;have e2 : (c.args.toList.map a.eval).toArray = c.args.map a.eval:=by apply Array.ext';simp
  rw [e2] at hl;have ay : (c.args.map a.eval).size = r.params.size:=by rw [← hl.1,ap];simp [ak]
  have al : (execOp a.eval o).run P w = .ok (.round b r.fn ((r.params.zip (c.args.map a.eval)).foldl (fun tmps (t,a)=>tmps.setIfInBounds t a) r.tmps) r.assign r.body) w:=by
    have:=run_yield (P:=P) hw ay;obtain ⟨dst,op,type,pos,after,guard⟩:=o;simp only at ho;subst ho;obtain ⟨cw,args,argTypes⟩:=c;simp only at u;subst u;simp only [execOp,resolve,Sem.run_bind,bc,Deferred.ofValue,Sem.run_pure,Result.andThen_ok,invoke];simpa using this
  rw [show (Fw ro).round = ro from rfl,Oper.semAt_eq ro _ o (by rintro c' h';rw [ho] at h';cases h'),al,Oper.uponIn_round];refine ⟨fun h=>by simp [Fw] at h,?_⟩;refine roundIn_of_wpIn trivial ?_
  have ad : (r.params.zip (c.args.map a.eval)).foldl (fun tmps (t,a)=>tmps.setIfInBounds t a) r.tmps = (j.zip (c.args.map a.eval).toList).foldl (fun tmps (x : Tmp × Value)=>tmps.setIfInBounds x.1 x.2) r.tmps:=by
    rw [ap,← Array.foldl_toList,Array.toList_zip]
  obtain ⟨v,f⟩:=qmv j vs (c.args.map a.eval).toList s r.tmps (by rw [Array.length_toList];exact hl.1) (fun i d c h1 h2=>hl.2 i d c h1 (by rw [← Array.getElem?_toList];exact h2)) ac.2.2 bg;rw [ad,av,bn];generalize (j.zip (c.args.map a.eval).toList).foldl (fun tmps (x : Tmp × Value)=>tmps.setIfInBounds x.1 x.2) r.tmps = tm at v f;have aa : RelS w Z inj {sl:=q32 s j vs,hp:=st.hp,nx:=st.nx} {tmps:=tm,defers:=[]} []:=⟨v,h.heap,rfl,qd,qd⟩
  have y : Yl (some b) w:=fun l hl=>by cases hl;exact ⟨r,hw⟩
  refine wpIn_mono (h1 (some b) w Z inj _ [] aa (by show codeOk tm.size assign = true;rw [f];exact ac.1) (Nat.le_refl _) y).1 ?_;rintro e a1 w1 ⟨rfl,Z1,q,an,g1,g2,g3,g4,g5⟩;have ab : n < st.nx:=(h.heap.blk n _ z).1;obtain ⟨b1,r1,i1,bd,aw,ao,ci,bx,br,bz,cg,ax,k⟩:=qgg (ls':=.busy) (pe':=none) (pin:=st.nx) g1.heap bl;rw [g2.pinj n ab,hi] at i1;cases i1;refine ⟨_,run_beginRound bd aw,?_⟩;have e5 : ({r1 with state:=.busy} : Loop) = {r1 with state:=.busy,pending:=none}:=by cases r1;simp only at ao;subst ao;rfl
  rw [e5]
  have ae : RelS (w1.putObj b (.loop {r1 with state:=.busy,pending:=none})) Z1 q (st1.setBlk n (.loop s1 j assign body .busy none)) a1 an:=
    ⟨g1.slots.mono (k.zkeep g1.heap) k.zin k.big (fun _ _=>rfl) (Nat.le_refl _),ax,g1.defs,g1.nodup,fun D hD=>k.marks g1.heap (g1.marks D hD)⟩
  have ai : Yl (some b) (w1.putObj b (.loop {r1 with state:=.busy,pending:=none})):=(y.ext g2).ext k;refine wpIn_mono (h2 (some b) _ Z1 q a1 an ae (by rw [g3];show codeOk tm.size body = true;rw [f];exact ac.2.1) g4 ai).1 ?_;rintro e a3 w3 ⟨rfl,Z3,ah,cr,k1,k2,k3,k4,k5⟩;obtain ⟨b3,r3,i3,bm,cv,cp,cb,ch,bw,bs,bo,be,bj⟩:=qgg (ls':=if ex = .nor then .ready else .done) (pe':=ex.code) (pin:=st.nx) k1.heap bk;have bb : q n = some (b,0):=(g2.pinj n ab).trans hi;rw [k2.pinj n ab,bb] at i3;cases i3
  have p : K (a.put o.dst (.bool (decide (ex = .nor)))) (w3.putObj b (.loop {r3 with state:=if ex = .nor then .ready else .done,pending:=ex.code})):=by
    have aq : Ext w Z inj st.hp (w3.putObj b (.loop {r3 with state:=if ex = .nor then .ready else .done,pending:=ex.code})) Z3 ah (repl st2.hp n (.loop s2 j assign body (if ex = .nor then .ready else .done) ex.code)) st.nx:=
      ((g2.trans k (Nat.le_refl _)).trans k2 (Nat.le_refl _)).trans bj (Nat.le_refl _)
    exact hK _ _ (q3s h hb aq be k4 (.d (.bool _)) hd)
  have m:=run_endRound (P:=P) ex.code bm
  cases ex with
  | nor=>exact ⟨_,_,m,p⟩
  | ret=>exact ⟨_,_,m,p⟩
  | exit id=>exact ⟨_,_,m,p⟩
end
end Go.Am
namespace Go.Am
open Go
variable {P : Program} {T : Tab}
section
variable {base : Nat} {st st1 st2 : AS} {ex : Ex}
theorem qw5 {w : World} {Z : Nat→Prop} {inj : Inj} {a : Act} {Ds : List Nat} {o : Oper} {v : V} {st1 : AS} (q : Z8 P T) (h : RelS w Z inj st a Ds) (c : opM T st o.op = some (v,st1)) : Kt st st1 v w Z inj ((execOp a.eval o).run P w):=by
  obtain ⟨dst,op,type,pos,after,guard⟩:=o;simp only at c;unfold opM at c;split at c <;> try simp only [reduceCtorEq] at c
  · rename_i t x;split at c <;> try simp only [reduceCtorEq] at c
    · rename_i i n k g;split at c <;> try simp only [reduceCtorEq] at c
      rename_i es hk hb;simp only [Option.some.injEq,Prod.mk.injEq] at c;obtain ⟨rfl,rfl⟩:=c;exact qwx h (q _ _ k) hk g hb
    · rename_i i es k g;split at c <;> try simp only [reduceCtorEq] at c
      rename_i hk;simp only [Option.some.injEq,Prod.mk.injEq] at c;obtain ⟨rfl,rfl⟩:=c;exact qww h (q _ _ k) hk g
  · rename_i x;split at c <;> try simp only [reduceCtorEq] at c
    rename_i n g;split at c <;> try simp only [reduceCtorEq] at c
    · rename_i e rest hb;simp only [Option.some.injEq,Prod.mk.injEq] at c;obtain ⟨rfl,rfl⟩:=c;exact qwg h g hb
    · rename_i m sz j rest hb;split at c <;> try simp only [reduceCtorEq] at c
      rename_i es s;split at c <;> try simp only [reduceCtorEq] at c
      rename_i p
      cases y : es[j]? with
      | none=>rw [y] at c;simp at c
      | some e=>
        rw [y] at c;simp only [Option.map_some,Option.some.injEq,Prod.mk.injEq] at c;obtain ⟨rfl,rfl⟩:=c;exact qwh h g hb s p y
  · rename_i args argTypes;split at c <;> try simp only [reduceCtorEq] at c
    rename_i n t hv u;split at c <;> try simp only [reduceCtorEq] at c
    rename_i i o es k hb;split at c <;> try simp only [reduceCtorEq] at c
    rename_i hk;simp only [Option.some.injEq,Prod.mk.injEq] at c;obtain ⟨rfl,rfl⟩:=c;have p:=q3h h hv;have e2 : (args.toList.map a.eval).toArray = args.map a.eval:=by apply Array.ext';simp
    rw [e2] at p;obtain ⟨mv,s,hr⟩:=qcq p
    cases hr with | @mp _ b hn hi=>
    obtain ⟨b',l,cl,es2,e1,e3,e4,_,_,_,z,_⟩:=(h.heap.blk n _ hb).2;rw [hi] at e1;cases e1;obtain ⟨kt,et,hu⟩:=qhc (q _ _ k) hk;have r : l.size = es.length:=by rw [z];exact e4.length_eq
    have f:=qu3 (P:=P) (ty:=type) u hu e3;rw [r] at f;refine .quiet (x:=goInt es.length) h ?_ (.d (.int _ _));simp only [execOp,resolve,Sem.run_bind,Sem.run_pure,Result.andThen_ok,invoke,s,builtin];simp [f]
theorem qt6 {ops : Array Oper} {o : Oper} {v : V} {st1 : AS} (q : Z8 P T) (p : Qs ops st o = some true) (g : opM T st o.op = some (v,st1)) : Ja P base ops o st (st1.putD o.dst v):=by
  intro ro Q w Z inj a Ds K h hd hb _ n;unfold Jj;rw [q3m h p];simp only [if_true];refine ⟨fun _ _=>trivial,?_⟩;rw [show (Fw ro).round = ro from rfl,Oper.semAt_eq ro _ o (by rintro c r;rw [r] at g;simp [opM] at g)];obtain ⟨x,w',inj',d,l,j,m,f,k⟩:=qw5 q h g;obtain ⟨sl1,hp1,nx1⟩:=st1;simp only at f k l j m;subst f;have b:=q3s h hb m j k l hd;rcases d with d | ⟨d,rfl⟩
  · rw [d];exact n _ _ b
  · rw [d];exact n _ _ b
theorem qli {b a : Oper} {x : Operand} {c d : Tmp} (h : q2z b a = some (x,c,d)) : b.op = .next x false∧b.dst = some c∧b.guard = none∧a.op = .extract (.tmp c) 0∧a.dst = some d∧a.guard = none:=by
  unfold q2z at h;split at h <;> try simp only [reduceCtorEq] at h
  rename_i p f u o e1 m j l g k;split at h <;> simp only [Option.some.injEq,Prod.mk.injEq,reduceCtorEq] at h
  rename_i n;obtain ⟨rfl,rfl,rfl⟩:=h;subst n;exact ⟨e1,m,j,l,g,k⟩
theorem qnz {ro : Option Nat} {ops : Array Oper} {Q : Exit→Act→World→Prop} {o : Oper} {K : Act→World→Prop} {a : Act} {w w' : World} {x : Value} (g : o.guard = none) (hd : ∀ c,o.op≠.defer c) (d : (execOp a.eval o).run P w = .ok (.value x) w') (f : K (a.put o.dst x) w') : Jj P (Fw ro) ops Q o K a w:=by
  unfold Jj;have b : Region.wanted o (yielded ops a.tmps) = true:=by simp [Region.wanted,g]
  rw [b];simp only [if_true];refine ⟨fun _ _=>trivial,?_⟩;rw [show (Fw ro).round = ro from rfl,Oper.semAt_eq ro _ o hd,d];exact f
theorem qv6 {ro : Option Nat} {w : World} {Z : Nat→Prop} {inj : Inj} {a : Act} {Ds : List Nat} {f m : Oper} {x : Operand} {c j : Tmp} {n N : Nat} {S : Nat→Option AS} {Q : Exit→Act→World→Prop} (h : RelS w Z inj st a Ds) (hb : base≤st.nx)
    (ho : q2z f m = some (x,c,j)) (hx : st.ev x = some (.it n)) (hd : q2g st n = some (N,S)) (y : c < a.tmps.size) (h2 : j < a.tmps.size)
    (hK : ∀ (b : Bool) (u : AS) (a' : Act) (w' : World),((b = false∧N = 0∧u = st)∨(b = true∧∃ i,S i = some u))→Y7 base w Z inj st a Ds ((u.put c .dead).put j (.d (.bool b))) a' w'→Q .normal a' w') :
    wpOpsIn (Fw ro) 0 P #[f,m] Q (List.range 2) a w:=by
  obtain ⟨r,p2,p3,p4,p5,p6⟩:=qli ho
  have key : ∀ (b : Bool) (u : AS) (tup : Array Value) (w1 : World),((b = false∧N = 0∧u = st)∨(b = true∧∃ i,S i = some u))→tup[0]? = some (.bool b)→(Instr.next (a.eval x) false f.type).run P w = .ok (.tuple tup) w1→RelH w1 Z inj u.hp u.nx→
      Ext w Z inj st.hp w1 Z inj u.hp st.nx→u.sl = st.sl→u.nx = st.nx→wpOpsIn (Fw ro) 0 P #[f,m] Q (List.range 2) a w:=by
    intro b u tup w1 p ht g hh z l ao
    rw [show List.range 2 = [0,1] from rfl,wpOpsIn_cons]
    refine qbg (o:=f) rfl (qnz p3 (by rw [r];simp) (x:=.tuple tup) (w':=w1) ?_ ?_)
    · obtain ⟨dst,op,type,pos,after,guard⟩:=f
      simp only at r g;subst r
      simp only [execOp]
      exact Kl g
    · rw [wpOpsIn_cons]
      refine qbg (o:=m) rfl (qnz p6 (by rw [p4];simp) (x:=.bool b) (w':=w1) ?_ ?_)
      · obtain ⟨dst,op,type,pos,after,guard⟩:=m
        simp only at p4;subst p4
        simp only [execOp]
        refine Kl ?_
        have : (a.put f.dst (.tuple tup)).eval (.tmp c) = .tuple tup:=by
          rw [p2];simp [Act.put,Act.eval,y]
        rw [this]
        simp [Instr.extract,ht]
      · rw [p2,p5]
        have t : RelS w1 Z inj (u.put c .dead) (a.put (some c) (.tuple tup)) Ds:=by
          have:=qgh (dst:=some c) h z hh q8 (.dead (.tuple tup)) (by simp [J5,y]);obtain ⟨ag,ab,ac⟩:=u;simp only at l;subst l;exact this
        have r2 : RelS w1 Z inj ((u.put c .dead).put j (.d (.bool b))) ((a.put (some c) (.tuple tup)).put (some j) (.bool b)) Ds:=
          qgh (dst:=some j) t .refl t.heap (Nat.le_refl _) (.d (.bool b)) (by simp [J5,q8r,h2])
        refine hK b u _ _ p ⟨Z,inj,Ds,r2,?_,?_,?_,fun D hD=>.inl hD⟩
        · exact z.pin_le hb
        · rw [q8r,q8r]
        · show base≤u.nx;omega
  rcases qwv (P:=P) (ty:=f.type) (pin:=st.nx) h hx hd with ⟨q,s⟩ | ⟨i,u,k,v,w1,q,s,q3,q4,q5,q6⟩
  · exact key false st _ w (.inl ⟨rfl,q,rfl⟩) rfl s h.heap .refl rfl rfl
  · exact key true u _ w1 (.inr ⟨rfl,i,q⟩) rfl s q3 q4 q5 q6
def q47 (P : Program) (base : Nat) (c : Code) (st : AS) (R : Ex→AS→Prop) : Prop:=
  ∀ (ro : Option Nat) (w : World) (Z : Nat→Prop) (inj : Inj) (a : Act) (Ds : List Nat),RelS w Z inj st a Ds→codeOk a.tmps.size c = true→base≤st.nx→Yl ro w→
    wpL (Fw ro) P c (fun e a' w'=>∃ ex st',ex≠.nor∧R ex st'∧CP base w Z inj st a Ds ex st' e a' w') a w
theorem qu6 {id : Nat} {o1 o2 : Oper} {t1 t2 : Tmp} {x : Operand} {c : Code} {s0 : AS} {e0 : Ex} {n N : Nat} {S : Nat→Option AS} {e1 : Nat→Ex} {s1 : Nat→AS} {R : Ex→AS→Prop}
    (ho : q2z o1 o2 = some (x,t1,t2)) (hx : st.ev x = some (.it n)) (hd : q2g st n = some (N,S))
    (h0 : N = 0→Kv P base c ((st.put t1 .dead).put t2 (.d (.bool false))) e0 s0) (ai : N = 0→e0≠.nor∧R e0 s0)
    (h1 : ∀ i u,S i = some u→Kv P base c ((u.put t1 .dead).put t2 (.d (.bool true))) (e1 i) (s1 i))
    (hn : ∀ i u,S i = some u→e1 i = .nor→q47 P base (.seq (.region id #[o1,o2] false) c) (s1 i) R)
    (al : ∀ i u,S i = some u→e1 i≠.nor→R (e1 i) (s1 i)) : q47 P base (.seq (.region id #[o1,o2] false) c) st R:=by
  intro ro w Z inj a Ds h v hb y;have z:=v;simp only [codeOk,Bool.and_eq_true,List.all_eq_true] at v;obtain ⟨ab,aa⟩:=v;obtain ⟨p1,p2,p3,p4,p5,p6⟩:=qli ho;have l1 : t1 < a.tmps.size:=qcc (by have:=ab o1 qd;rwa [p2] at this);have l2 : t2 < a.tmps.size:=qcc (by have:=ab o2 qd;rwa [p5] at this);refine qhg (wpIn_seq (wpIn_region ?_));refine qv6 h hb ho hx hd l1 l2 fun b u a' w' ak hp=>?_;show Code.wpIn _ _ _ _ _ _ _;rcases ak with ⟨rfl,hN,rfl⟩ | ⟨rfl,i,hi⟩
  · refine hp.bind fun Z' inj' r m j l _ k=>?_;refine wpIn_mono (h0 hN ro w' Z' inj' a' r m (by rw [j];exact aa) l (hp.round y)).1 ?_;rintro e a2 w2 ⟨rfl,hp2⟩;obtain ⟨r1,r2⟩:=ai hN;have f : ∃ ex st',ex≠.nor∧R ex st'∧CP base w Z inj u a Ds ex st' (toE e0) a2 w2:=⟨e0,s0,r1,r2,rfl,k _ _ _ hp2⟩
    cases e0 with
    | nor=>exact absurd rfl r1
    | exit id=>exact f
    | ret=>exact f
  · refine hp.bind fun Z' inj' r m j l _ k=>?_;refine wpIn_mono (h1 i u hi ro w' Z' inj' a' r m (by rw [j];exact aa) l (hp.round y)).1 ?_;rintro e a2 w2 ⟨rfl,hp2⟩;have s:=k _ _ _ hp2;by_cases g : e1 i = .nor
    · rw [g];show wpL _ _ _ _ _ _;refine s.bind fun Z2 ac am t q p _ o=>?_;refine qds (hn i u hi g ro w2 Z2 ac a2 am t (by rw [q];exact z) p (s.round y)) ?_;rintro e a3 w3 ⟨ex,st',q1,q2,rfl,q3⟩;exact ⟨ex,st',q1,q2,rfl,o _ _ _ q3⟩
    · have f : ∃ ex st',ex≠.nor∧R ex st'∧CP base w Z inj st a Ds ex st' (toE (e1 i)) a2 w2:=⟨e1 i,s1 i,g,al i u hi g,rfl,s⟩
      cases he : e1 i with
      | nor=>exact absurd he g
      | exit id=>rw [he] at f;exact f
      | ret=>rw [he] at f;exact f
theorem qu7 {ρ : Nat→Nat} {fz ph : List Nat} {c : Code} {R : Ex→AS→Prop} (g : Wk base ρ fz ph st st1) (k : q47 P base c st1 R) : q47 P base c st R:=by
  intro ro w Z inj a Ds h f hb d;obtain ⟨b,p⟩:=q1h h g;refine qds (k ro w _ _ a Ds b f g.bs d) ?_;rintro e a' w' ⟨ex,st',q,u,rfl,l,m,t,j,n,o,s,r⟩;exact ⟨ex,st',q,u,rfl,l,m,t,j,p.trans n (Nat.le_refl _),o,s,r⟩
theorem qeq {w : World} {Z : Nat→Prop} {inj : Inj} {a : Act} {Ds : List Nat} {e : Exit} {a' : Act} {w' : World} (h : CP base w Z inj st a Ds ex st1 e a' w') (c : WkE base st1 st2) : CP base w Z inj st a Ds ex st2 e a' w':=by
  obtain ⟨rfl,m,n,l,d,f,g,o,k⟩:=h;obtain ⟨ρ,fz,ph,c⟩:=c;obtain ⟨b,j⟩:=q1h d c;exact ⟨rfl,_,_,l,b,f.trans j (Nat.le_refl _),g,c.bs,k⟩
theorem qpj {id : Nat} {a : Code} {R : Ex→AS→Prop} (o : q47 P base a st R) (l : ∀ b st1,R b st1→b.block id = ex∧∃ c,WkE base st1 c∧WkE base c st2) : Kv P base (.block id (.loop a)) st ex st2:=by
  refine J4 qd fun ro w Z inj act Ds h g hb f=>wpIn_block (wpIn_mono (qhf (o ro w Z inj act Ds h g hb f)) ?_);rintro e a' w' ⟨b,st1,r,q,p⟩;obtain ⟨m,c,n,j⟩:=l b st1 q;have k:=qeq (qeq p n) j;obtain ⟨rfl,d⟩:=k;subst m
  cases b with
  | nor=>exact ⟨rfl,d⟩
  | ret=>exact ⟨rfl,d⟩
  | exit i=>
    by_cases hi : i = id
    · simp only [toE,Exit.inBlock,hi,if_true,Ex.block];exact ⟨rfl,d⟩
    · simp only [toE,Exit.inBlock,hi,if_false,Ex.block];exact ⟨rfl,d⟩
theorem qpw {id : Nat} {p a b : Code} {t : AS} {R : Ex→AS→Prop} (h0 : Kv P base p st .nor t) (h1 : q47 P base a t R) (h2 : ∀ st1,R (.exit id) st1→Kv P base b st1 ex st2) (h3 : ∀ c st1,R c st1→c≠.exit id→c = ex∧ex≠.nor∧WkE base st1 st2) :
    Kv P base (.seq (.seq p (.block id (.loop a))) b) st ex st2:=by
  refine J4 qd fun ro w Z inj act Ds h j hb m=>?_;simp only [codeOk,Bool.and_eq_true] at j;refine wpIn_seq (wpIn_seq (wpIn_mono (h0 ro w Z inj act Ds h j.1.1 hb m).1 ?_));rintro e a' w' ⟨rfl,hp⟩;show Code.wpIn _ _ _ _ _ _ _;refine hp.bind fun Z' inj' u s l n _ d=>?_;refine wpIn_block (wpIn_mono (qhf (h1 ro w' Z' inj' a' u s (by rw [l];exact j.1.2) n (hp.round m))) ?_);rintro e a2 w2 ⟨c,st1,q1,q2,z⟩;by_cases hid : c = .exit id
  · subst hid;obtain ⟨rfl,hp2⟩:=z;have r:=d _ _ _ hp2;simp only [toE,Exit.inBlock,if_true];show Code.wpIn _ _ _ _ _ _ _;refine r.bind fun Z2 q x o k g _ f=>?_;refine wpIn_mono (h2 st1 q2 ro w2 Z2 q a2 x o (by rw [k];exact j.2) g (r.round m)).1 ?_;rintro e a3 w3 ⟨rfl,v⟩;exact ⟨rfl,f _ _ _ v⟩
  · obtain ⟨rfl,r1,r2⟩:=h3 c st1 q2 hid;have q4:=qeq z r2;obtain ⟨rfl,q5⟩:=q4;have y:=d _ _ _ q5
    cases c with
    | nor=>exact absurd rfl q1
    | ret=>exact ⟨rfl,y⟩
    | exit i=>
      have hi : i≠id:=fun e=>hid (by rw [e]);simp only [toE,Exit.inBlock,hi,if_false];exact ⟨rfl,y⟩
end
end Go.Am
namespace Go.Am
open Go
variable {P : Program} {T : Tab}
section
variable {base : Nat} {st st1 st2 : AS} {ex : Ex}
theorem qp7 {ro : Option Nat} {f : FuncId} {xs : Array Value} {w : World} {R : Ending→World→Prop} (h : CallsIn (Fw none) 0 P f xs w R) : CallsIn (Fw ro) 0 P f xs w R:=by
  cases ro <;> exact h
theorem qvd {w : World} {Ds : List Nat} (h : Ds.Nodup) (a : ∀ D∈Ds,w.heap[D]? = some (.deferred (some []))) : (w.heap.size::Ds).Nodup:=
  List.nodup_cons.2 ⟨fun b=>by have:=J1 (a _ b);omega,h⟩
theorem qpq {g : Operand} {k : Array Tmp} {assign body : Code} {f : FuncId} {t : List V} {v : V} {hp : List (Nat × Blk)} {nx : Nat} {pe : Option Code} {s : List (Nat × V)} {ls : LoopState}
    (hg : st.ev g = some (.fn f t)∨∃ ds,st.ev g = some (.d (.fn f ds))∧t = ds.map .d)
    (u : J2 P f (.yld st.nx::t) ((st.nx,.loop st.sl k.toList assign body .ready none)::st.hp) (st.nx + 1) v hp nx)
    (ah : find hp st.nx = some (.loop s k.toList assign body ls pe)) (bi : ls≠.busy) (ar : pe = ex.code) : Kv P base (.rangeFunc g k assign body) st ex {sl:=st.sl,hp:=repl hp st.nx .dead,nx:=nx}:=by
  refine J4 qd fun ro w Z inj a Ds h y hb bl=>wpIn_rangeFunc fun fn _=>?_;simp only [codeOk,Bool.and_eq_true,List.all_eq_true,Nat.blt_eq] at y
  have aw : ∃ cs : Array Value,a.eval g = .func (.func f) #[] cs∧LRel w Z inj st.nx t cs:=by
    rcases hg with hg | ⟨ds,hg,rfl⟩
    · have hr:=Kb h hg;generalize a.eval g = gv at hr ⊢
      cases hr with | @fn _ _ cs h1 h2=>
      exact ⟨cs,rfl,h1,h2⟩
    · have hr:=Kb h hg;generalize a.eval g = gv at hr ⊢
      cases hr with | d hr=>
      cases hr with | @fn _ _ cs h1 h2=>
      refine ⟨cs,rfl,by simpa using h1,fun i d c hd hc=>?_⟩;simp only [List.getElem?_map,Y0] at hd;obtain ⟨d',hd,rfl⟩:=hd;exact .d (h2 i d' c hd hc)
  obtain ⟨cs,bj,ay⟩:=aw
  have rest : ∀ (w1 : World) (l : Nat) (mark : List Deferred) (r : Loop) (Dn : List Nat),(Instr.enterLoop fn a.tmps k assign body (Fw ro).round).run P w = .ok (l,mark) w1→
      w1.heap[l]? = some (.loop r)→r.state = .ready→r.pending = none→
      RelH w1 Z (upd inj st.nx (some (l,0))) ((st.nx,.loop st.sl k.toList assign body .ready none)::st.hp) (st.nx + 1)→
      Ext w Z inj st.hp w1 Z (upd inj st.nx (some (l,0))) ((st.nx,.loop st.sl k.toList assign body .ready none)::st.hp) st.nx→
      mark = Dn.map (fun D=>{target:=.collected D,args:=#[]})→(Dn ++ Ds).Nodup→(∀ D∈Dn,w1.heap[D]? = some (.deferred (some []))∧w.heap.size≤D)→
      ∃ (l : Nat) (mark : List Deferred) (w₁ : World) (d : Deferred) (aj : World) (f : FuncId) (args : Array Value) (w₂ : World),
      (Instr.enterLoop fn a.tmps k assign body (Fw ro).round).run P w = .ok (l,mark) w₁∧
      (resolve a.eval (rangeCall g l) 0).run P w₁ = .ok d aj∧
      (∀ f',Target.leads P aj d.target d.args = some f'→(Fw ro).fn f')∧
      (invoke d.target d.args).run P aj = .ok (.enter f args) w₂∧
      ((Fw ro).depth.isSome = true→1≤0)∧
      CallsIn (Fw ro) (0 - 1) P f args w₂ (rangePost (Fw ro) 0 P l (CP base w Z inj st a Ds ex {sl:=st.sl,hp:=repl hp st.nx .dead,nx:=nx}) {a with defers:=mark ++ a.defers}):=by
    intro w1 l mark r Dn aa ci cj bs ax z ae bm an
    refine ⟨l,mark,w1,{target:=.fn (.func f) cs,args:=#[.func (.yield l) #[] #[]]},w1,f,#[.func (.yield l) #[] #[]] ++ cs,w1,aa,?_,fun _ _=>trivial,?_,fun h=>by simp [Fw] at h,?_⟩
    · simp only [resolve,bj];simp [Deferred.ofValue,Act.eval]
    · simp [invoke,u.1]
    · refine qp7 (CallsIn.mono (u.2 w1 Z _ _ ax ?_) ?_)
      · refine ⟨by simp [ay.1];omega,fun i d c hd hc=>?_⟩
        cases i with
        | zero=>
          rw [Array.getElem?_append_left qd] at hc;simp at hd hc;subst hd hc;exact .yld q8 (Y6 _ _ _)
        | succ i=>
          rw [Array.getElem?_append_right qd] at hc;simp at hd hc;exact (ay.2 i d c hd hc).mono (fun b hz=>z.keep b (h.heap.zs b hz) (h.heap.z_im hz)) (fun _ h=>h) z.big (fun m hm=>z.pinj m hm) q8
      · rintro e w3 ⟨x,Z',inj',rfl,bk,ag,cf,cm⟩
        obtain ⟨b3,r3,i3,ba,bn,aq,ad⟩:=qz1 (pin:=st.nx) bk ah
        obtain ⟨bg,bf⟩:=ad {r3 with state:=.exhausted} rfl
        have bp : b3 = l:=by
          have:=ag.pinj st.nx q8;rw [Y6,i3] at this;cases this;rfl
        subst bp
        refine ⟨r3.pending,_,run_endLoop ba (by rw [bn];exact bi),?_⟩
        have hE : Ext w Z inj st.hp (w3.putObj b3 (.loop {r3 with state:=.exhausted})) Z' inj' (repl hp st.nx .dead) st.nx:=(z.trans ag q8).trans bf (Nat.le_refl _)
        have q : Y7 base w Z inj st a Ds {sl:=st.sl,hp:=repl hp st.nx .dead,nx:=nx} {a with defers:=mark ++ a.defers} (w3.putObj b3 (.loop {r3 with state:=.exhausted})):=by
          refine ⟨Z',inj',Dn ++ Ds,⟨?_,bg,?_,bm,?_⟩,hE.pin_le hb,rfl,by show base≤nx;omega,?_⟩
          · exact h.slots.mono (hE.zkeep h.heap) hE.zin hE.big hE.pinj (by show st.nx≤nx;omega)
          · simp [ae,h.defs]
          · intro D n;rcases List.mem_append.1 n with n | n
            · obtain ⟨h5,h6⟩:=an D n;have h7:=ag.marks ax h5;rw [World.putObj_heap_other (fun e=>by rw [e] at h7;rw [ba] at h7;cases h7)];exact h7
            · exact hE.marks h.heap (h.marks D n)
          · intro D n;rcases List.mem_append.1 n with n | n
            · exact .inr (an D n).2
            · exact .inl n
        rw [aq,ar] at q
        rw [aq,ar]
        cases ex with
        | nor=>exact ⟨rfl,q⟩
        | exit id=>exact wpIn_exit ⟨rfl,q⟩
        | ret=>exact wpIn_ret ⟨rfl,q⟩
  have ac : ∀ (w1 : World) (l : Nat) (r : Loop),r.state = .ready→r.pending = none→r.tmps = a.tmps→r.params = k→r.assign = assign→r.body = body→Z7 w1 Z (upd inj st.nx (some (l,0))) (st.nx + 1) st.sl a.tmps→
      w1.heap[l]? = some (.loop r)→RelB w1 Z (upd inj st.nx (some (l,0))) (st.nx + 1) st.nx (.loop st.sl k.toList assign body .ready none):=by
    rintro w1 l r e1 e2 e3 e4 e5 e6 hs hl
    obtain ⟨f1,f2,f3,f4,f5,f6,f7,f8⟩:=r
    simp only at e1 e2 e3 e4 e5 e6
    subst e1 e2 e3 e4 e5 e6
    exact ⟨l,_,_,_,Y6 _ _ _,hl,⟨y.1.2,y.2,fun p hp=>y.1.1 p hp⟩,hs⟩
  cases ro with
  | none=>
    have ao : RelH (w.alloc (.deferred (some []))) Z inj st.hp st.nx:=h.heap.grow fun b hb=>Zs w _ hb
    have af : ∀ o,Z7 ((w.alloc (.deferred (some []))).alloc o) Z (upd inj st.nx (some (w.heap.size + 1,0))) (st.nx + 1) st.sl a.tmps:=fun o=>
      h.slots.mono (fun b hz=>by have:=h.heap.zs b hz;rw [Zs _ _ (by simp;omega),Zs _ _ this]) (fun _ h=>h)
        (fun b c e f hb=>by obtain ⟨c1,e1,f1,h1,s1⟩:=q3o w (.deferred (some [])) b c e f hb;obtain ⟨c2,e2,f2,h2,s2⟩:=q3o _ o b c1 e1 f1 h1;exact ⟨c2,e2,f2,h2,s2.trans s1⟩) (fun _ hm=>Yj _ _ hm) q8
    have j:=Jb (w.alloc (.deferred (some []))) (.loop {state:=.ready,pending:=none,fn,tmps:=a.tmps,params:=k,assign,body,defers:=w.heap.size});rw [World.size_alloc] at j;have hB:=ac _ (w.heap.size + 1) {state:=.ready,pending:=none,fn,tmps:=a.tmps,params:=k,assign,body,defers:=w.heap.size} rfl rfl rfl rfl rfl rfl (af _) j;have hn:=ao.new (.loop {state:=.ready,pending:=none,fn,tmps:=a.tmps,params:=k,assign,body,defers:=w.heap.size}) (.loop st.sl k.toList assign body .ready none) 0 (by rw [World.size_alloc];exact hB);have he:=Ext.new ao (.loop {state:=.ready,pending:=none,fn,tmps:=a.tmps,params:=k,assign,body,defers:=w.heap.size}) (.loop st.sl k.toList assign body .ready none) 0;rw [World.size_alloc] at hn he;refine rest _ (w.heap.size + 1) _ _ [w.heap.size] (run_enterLoop_outer fn a.tmps k assign body) j rfl rfl hn ((Ext.alloc _).trans he (Nat.le_refl _)) rfl (qvd h.nodup h.marks) ?_;intro D n;simp at n;subst n;exact ⟨by rw [Zs _ _ qd];exact Jb _ _,Nat.le_refl _⟩
  | some l0=>
    obtain ⟨r0,bh⟩:=bl l0 rfl
    have af : ∀ o,Z7 (w.alloc o) Z (upd inj st.nx (some (w.heap.size,0))) (st.nx + 1) st.sl a.tmps:=fun o=>
      h.slots.mono (fun b hz=>Zs _ _ (h.heap.zs b hz)) (fun _ h=>h) (q3o w o) (fun _ hm=>Yj _ _ hm) q8
    have j:=Jb w (.loop {state:=.ready,pending:=none,fn,tmps:=a.tmps,params:=k,assign,body,defers:=r0.defers});have hB:=ac _ w.heap.size {state:=.ready,pending:=none,fn,tmps:=a.tmps,params:=k,assign,body,defers:=r0.defers} rfl rfl rfl rfl rfl rfl (af _) j;exact rest _ w.heap.size _ _ [] (run_enterLoop_inner bh fn a.tmps k assign body) j rfl rfl (h.heap.new _ _ 0 hB) (Ext.new h.heap _ _ 0) rfl (by simpa using h.nodup) qd
theorem qp9 {f : FuncId} {fn : Func} {c : Code} {g : List V} {hp : List (Nat × Blk)} {nx : Nat} {v : V} (z : Z8 P T) (r : P.funcs[f]? = some fn) (hb : fn.body = some c) (a : (fn.name == "runtime.NumGoroutine") = false) (o : codeOk fn.ntmps c = true) (ae : g.length ≤ fn.ntmps)
    (hc : Kv P nx c {sl:=Yb 0 g,hp:=hp,nx:=nx} ex st) (hx : ex = .nor∨ex = .ret) (d : resV T st fn.results.toList = some v) : J2 P f g hp nx v st.hp st.nx:=by
  refine ⟨fun args w=>?_,fun w Z inj xs h j=>?_⟩
  · unfold callFunc
    have n : ¬ fn.name = "runtime.NumGoroutine" := by simpa using a
    simp [r,n,hb]
  · refine callsIn_of_wp_marks r hb trivial ?_
    have m : (xs ++ Array.replicate (fn.ntmps - xs.size) undef).size = fn.ntmps:=by
      have:=j.1;simp;omega
    have t : RelS w Z inj {sl:=Yb 0 g,hp:=hp,nx:=nx} {tmps:=xs ++ Array.replicate (fn.ntmps - xs.size) undef,defers:=[]} []:=⟨qz4 _ j,h,rfl,qd,qd⟩
    refine wpIn_mono (hc none w Z inj _ [] t (by show codeOk (xs ++ Array.replicate (fn.ntmps - xs.size) undef).size c = true;rw [m];exact o) (Nat.le_refl _) (fun l j=>by cases j)).1 ?_;rintro e a' w' ⟨rfl,Z',inj',k,b,u,g3,g4,g5⟩
    have q:=qkm (P:=P) (fn:=fn) (pin:=nx) (w0:=w) (Z0:=Z) (inj0:=inj) (hp0:=hp) z d
      (R:=fun e w'=>∃ x Z' inj',e = .returned x∧RelH w' Z' inj' st.hp st.nx∧Ext w Z inj hp w' Z' inj' st.hp nx∧RelV w' Z' inj' st.nx v x∧nx≤st.nx)
      (fun x w' Z' inj' s k2 y=>⟨x,Z',inj',rfl,s,k2,y,g4⟩) k w' Z' inj' a' b.slots b.heap u b.nodup (fun D p=>⟨b.marks D p,(g5 D p).resolve_left qd⟩)
    rcases hx with rfl | rfl
    · show LeavesInM (Fw none) 0 P fn a'.tmps _ a'.defers .returning w';rw [b.defs];exact q
    · show LeavesInM (Fw none) 0 P fn a'.tmps _ a'.defers .returning w';rw [b.defs];exact q
end
theorem qp8 {f : FuncId} {k : List V} {hp hp' hp1 : List (Nat × Blk)} {nx nx' nx1 : Nat} {v d : V} {ρ : Nat→Nat} {fz ph : List Nat} (h : J2 P f k hp nx v hp' nx') (l : Wk nx ρ fz ph {sl:=[(0,v)],hp:=hp',nx:=nx'} {sl:=[(0,d)],hp:=hp1,nx:=nx1}) : J2 P f k hp nx d hp1 nx1:=by
  refine ⟨h.1,fun w Z inj xs o n=>(h.2 w Z inj xs o n).mono ?_⟩;rintro e w' ⟨x,Z',inj',rfl,j,q,r,s⟩
  have a : RelS w' Z' inj' {sl:=[(0,v)],hp:=hp',nx:=nx'} {tmps:=#[x],defers:=[]} []:=by
    refine ⟨fun t u c=>?_,j,rfl,List.nodup_nil,qd⟩;rw [Qy] at c;split at c
    · rename_i e;subst e;cases c;exact ⟨x,rfl,r⟩
    · simp [find] at c
  obtain ⟨b,g⟩:=q1h a l;obtain ⟨y,m,p⟩:=b.slots 0 d (by simp [find]);simp at m;subst m;exact ⟨x,_,_,rfl,b.heap,q.trans g (Nat.le_refl _),p,l.bs⟩
theorem qpa (z : Z8 P T) (hm : P.follows .mixedOrders = true) {f : FuncId} {y : List V} {hp : List (Nat × Blk)} {nx : Nat} {v : V} {hp' : List (Nat × Blk)} {nx' : Nat} (h : K3 P T f y hp nx v hp' nx') : J2 P f y hp nx v hp' nx':=by
  refine K3.rec (motive_1:=fun base c st ex st' _=>Kv P base c st ex st') (motive_2:=fun base c st R _=>q47 P base c st R) (motive_3:=fun base ops dr l st st' _=>Uo P base ops dr l st st') (motive_4:=fun f y hp nx v hp' nx' _=>J2 P f y hp nx v hp' nx')
    ?_ ?_ ?_ ?_ ?_ ?_ ?_ ?_ ?_ ?_ ?_ ?_ ?_ ?_ ?_ ?_ ?_ ?_ ?_ ?_ ?_ ?_ ?_ ?_ ?_ ?_ ?_ ?_ ?_ ?_ ?_ ?_ ?_ ?_ h
  · exact qpy
  · exact fun _ _ a b=>qpv a b
  · exact fun _ q a=>qpx a q
  · exact fun m _ a=>qpl m a
  · exact fun m _ a=>qpk m a
  · exact fun _ a=>qpi a
  · exact qpm
  · exact qpt
  · exact fun _ _ a b=>qpo a b
  · exact fun _ q a=>qpp a q
  · exact fun _ a=>qpr a
  · exact fun _ hd a=>qps hm a hd
  · exact fun p _ a=>qpz p a
  · exact fun d _ n an ab a=>qpq d a n an ab
  · exact qpn
  · exact fun _ a=>qpu a
  · exact fun _ b a=>qpj a b
  · exact fun _ _ _ h3 h0 a b=>qpw h0 a b h3
  · exact fun g q hd _ ag _ _ af h0 a w=>qu6 g q hd h0 ag a w af
  · exact fun p _ a=>qu7 p a
  · exact fun {_ _ dr _}=>by cases dr <;> exact .nil
  · exact fun d _ a=>qpg d a
  · exact fun d g n _ a=>qpe z d g n a
  · exact fun d g _ w hh n s _ a=>qpf z d g w hh n s a
  · exact fun d g m r _ ae al hs s _ a b=>qpc d g m r a ae al hs s b
  · exact fun d g m _ _ a b=>Zr.cons (q12o d g m a) b
  · exact fun d g m j ah _ ac hb _ a b=>Zr.cons (qk3 d g m j ah a ac hb) b
  · exact fun d g m k n w _ r s _ a b=>qpd d g m k n w a r s b
  · exact fun d g t ad k x j _ am _ aj _ a b h3=>Zr.cons (qt7 d g t ad k x j a am b aj) h3
  · exact fun d g _ a=>Zr.cons (qt6 z d g) a
  · exact fun p _ a=>Zr.wk p a
  · exact fun hp _ _ a b=>U3.piv hp a b
  · exact fun n hb o ak k _ q u a=>qp9 z n hb o ak k a q u
  · exact fun _ p a=>qp8 a p
end Go.Am
namespace Go.Am
open Go
open Go.ChangeShapes Go.WideShapes Go.ChangeAt Go.RowKit Go.Deep
inductive CT where
  | int (k : IntKind)
  | bool
  | str
  | sl (l : List CT)
def qbn (P : Program) (f : TypeId→Option (List CT)) : Nat→List Field→Option (List CT)
  | _,[]=>some []
  | o,x::r=>match f x.type with
    | some a=>if x.offset = o∧P.cellsOf x.type = a.length then
        match qbn P f (o + a.length) r with
        | some b=>some (a ++ b)
        | none=>none
      else none
    | none=>none
def tyL (P : Program) : Nat→TypeId→Option (List CT)
  | 0,_=>none
  | f + 1,t=>match P.underlying t with
    | some .bool=>some [.bool]
    | some (.int k)=>some [.int k]
    | some .string=>some [.str]
    | some (.slice e)=>match tyL P f e with
      | some l=>if l.length = P.cellsOf e∧l.length≠0 then some [.sl l] else none
      | none=>none
    | some (.struct fs)=>match qbn P (tyL P f) 0 fs.toList with
      | some l=>if l.length = P.cellsOf t then some l else none
      | none=>none
    | _=>none
inductive Ty : CT→DV→Prop
  | int {k : IntKind} {n : Int} : (Lit.int k n).wf = true→Ty (.int k) (.int k n)
  | bool (b : Bool) : Ty .bool (.bool b)
  | str {s : ByteArray} : s.size≤maxLen→Ty .str (.str s)
  | nil (l : List CT) : Ty (.sl l) .nilsl
  | sl {l : List CT} {xs : List (List DV)} : xs.length≤maxLen→(∀ (i : Nat) (x : List DV),xs[i]? = some x→x.length = l.length)→
      (∀ (i : Nat) (x : List DV) (j : Nat) (c : CT) (d : DV),xs[i]? = some x→l[j]? = some c→x[j]? = some d→Ty c d)→Ty (.sl l) (.sl l.length xs)
section
variable {H : Type} {enc : TypeId × Value→H} {P : Program} {w : World} {base : Nat} {held : Bool}
def ZC (w : World) (b : Nat) : Prop:=∃ c e f,w.heap[b]? = some (.cells c e f)
theorem Ty.cell {c : CT} {d : DV} (h : Ty c d) : Zk d = true:=by cases h <;> rfl
def Reads (w : World) (l : List CT) (cs : List Value) : Prop:=
  cs.length = l.length∧∃ ds : List DV,ds.length = l.length∧∀ (j : Nat) (c : CT) (v : Value),l[j]? = some c→cs[j]? = some v→∃ d,ds[j]? = some d∧Ty c d∧RelD w (ZC w) d v
theorem q69 {c : CT} {v : Value} {d : DV} (g : Ty c d) (f : RelD w (ZC w) d v) : Reads w [c] [v]:=by
  refine ⟨rfl,[d],rfl,fun j k h a b=>?_⟩
  cases j with
  | zero=>simp at a b;subst a b;exact ⟨d,rfl,g,f⟩
  | succ j=>simp at a
theorem qyx {l l' : List CT} {cs a : List Value} (h : Reads w l cs) (p : Reads w l' a) : Reads w (l ++ l') (cs ++ a):=by
  obtain ⟨m,ds,n,r⟩:=h;obtain ⟨b1,g,b2,o⟩:=p;refine ⟨by simp [m,b1],ds ++ g,by simp [n,b2],fun j c v f b=>?_⟩;by_cases q : j < l.length
  · rw [List.getElem?_append_left q] at f;rw [List.getElem?_append_left q8] at b;obtain ⟨d,e1,k⟩:=r j c v f b;exact ⟨d,by rw [List.getElem?_append_left q8];exact e1,k⟩
  · rw [List.getElem?_append_right q8] at f;rw [List.getElem?_append_right q8,m] at b;obtain ⟨d,e1,k⟩:=o _ c v f b;exact ⟨d,by rw [List.getElem?_append_right q8,n];exact e1,k⟩
theorem qob {f : TypeId→Option (List CT)} {g : Field→List Value→Prop} (d : ∀ (x : Field) (l : List CT) (cs : List Value),f x.type = some l→g x cs→Reads w l cs) :
    ∀ (c : List Field) (o : Nat) (l : List CT) (cs : List Value),qbn P f o c = some l→o + l.length = cs.length→(∀ x∈c,g x ((cs.drop x.offset).take (P.cellsOf x.type)))→Reads w l (cs.drop o)
  | [],o,l,cs,h,hl,_=>by
    simp [qbn] at h;subst h
    simp at hl
    rw [hl]
    exact ⟨qd,[],rfl,qd⟩
  | x::r,o,l,cs,h,hl,hx=>by
    simp only [qbn] at h
    split at h <;> try simp at h
    rename_i a m
    obtain ⟨⟨n,j⟩,h⟩:=h
    split at h <;> simp at h
    rename_i b hb
    subst h
    have e1:=d x a _ m (hx x qd)
    rw [n,j] at e1
    have p:=qob d r (o + a.length) b cs hb (by simp at hl;omega) (fun y k=>hx y (by simp [k]))
    have:=qyx e1 p
    rw [← List.drop_drop] at this
    rwa [List.take_append_drop] at this
theorem qdp : ∀ (f : Nat) (t : TypeId) (l : List CT) (fuel : Nat) (cs : List Value) (x : DataW H × List MemPlace),tyL P f t = some l→DataW.trod enc P w base (fun _=>true) held fuel t cs = some x→Reads w l cs
  | 0,t,l,fuel,cs,x,hl,h=>by simp [tyL] at hl
  | f + 1,t,l,fuel,cs,x,hl,h=>by
    simp only [tyL] at hl
    split at hl <;> try simp at hl
    · rename_i ht
      subst hl
      cases fuel with
      | zero=>simp [DataW.trod] at h
      | succ n=>
        unfold DataW.trod at h
        rw [ht] at h
        split at h <;> simp_all
        exact q69 (.bool _) (.bool _)
    · rename_i k ht
      subst hl
      obtain ⟨n,rfl,_,hw⟩:=DataW.trod_int ht h
      exact q69 (.int hw) (.int _ _)
    · rename_i ht
      subst hl
      cases fuel with
      | zero=>simp [DataW.trod] at h
      | succ n=>
        unfold DataW.trod at h
        rw [ht] at h
        split at h <;> simp_all
        exact q69 (.str q8) (.str _)
    · rename_i e ht
      split at hl <;> simp at hl
      rename_i le ap
      obtain ⟨⟨u,am⟩,rfl⟩:=hl
      rcases open_slice ht h with ⟨rfl,_⟩ | ⟨a,len,cap,m,n,D,Pl,rfl,_,ao,bh,hm,_,ar⟩
      · exact q69 (.nil _) .nilsl
      · obtain rfl : cap = m:=by simpa using hm.symm
        have elem : ∀ i,i < cap→∃ p,w.cells? base (a.add (i * P.cellsOf e)) (P.cellsOf e) = some p∧Reads w le p:=by
          intro i hi;obtain ⟨p,h1,h2⟩:=ar i hi;exact ⟨p,h1,qdp f e le n p _ ap h2⟩
        have ax : 0 < P.cellsOf e:=by rw [← u];exact List.length_pos_iff.2 am
        by_cases aq : cap = 0
        · subst aq
          have : len = 0:=by omega
          subst this
          exact q69 (.sl (xs:=[]) qd qd qd) (.slemp _ _)
        · have ac : a.spot = none∧ZC w a.block:=by
            obtain ⟨p,h1,_⟩:=elem 0 q8;obtain ⟨_,h2,h3⟩:=World.cells?_some h1;have:=h3 0 q8;obtain ⟨v,hv⟩:=Zi (xs:=p) (i:=0) q8;rw [hv] at this;simp [World.cell?,Addr.add] at this;split at this <;> try simp at this
            rename_i c e' f' hc;exact ⟨this.1,c,e',f',hc⟩
          obtain ⟨b,o,sp⟩:=a
          obtain ⟨al,hz⟩:=ac
          simp only at al hz;subst al
          have ag : ∀ i,i < len→∃ ds : List DV,ds.length = le.length∧∀ (j : Nat) (c : CT),le[j]? = some c→∃ d v,ds[j]? = some d∧Ty c d∧w.cell? ⟨b,o + (i * le.length + j),none⟩ = some v∧RelD w (ZC w) d v:=by
            intro i hi;obtain ⟨p,h1,h4,ds,h5,h6⟩:=elem i q8;obtain ⟨_,h2,h3⟩:=World.cells?_some h1;refine ⟨ds,h5,fun j c hj=>?_⟩;have ba:=K7 hj;obtain ⟨v,hv⟩:=Zi (xs:=p) (i:=j) q8;obtain ⟨d,z,g2,g3⟩:=h6 j c v hj hv;have:=h3 j q8;rw [hv,U5,U5,← u,Nat.add_assoc] at this;exact ⟨d,v,z,g2,this,g3⟩
          obtain ⟨F,hF⟩:=choose_lt ag
          have q : ∀ (i : Nat) (x : List DV),((List.range len).map F)[i]? = some x→i < len∧x = F i:=by
            intro i x s;simp only [List.getElem?_map,Y0] at s;obtain ⟨k,hk,rfl⟩:=s;have hi : i < len:=by simpa using K7 hk
            rw [List.getElem?_range hi] at hk;cases hk;exact ⟨hi,rfl⟩
          have r : ((List.range len).map F).length = len:=by simp
          have ab : RelD w (ZC w) (.sl le.length ((List.range len).map F)) (.slice (some ⟨b,o,none⟩) ((List.range len).map F).length cap):=by
            refine .sl (by rw [r];exact ao) (fun _=>hz) ?_ ?_ ?_
            · intro i x s;obtain ⟨hi,rfl⟩:=q i x s;exact (hF i hi).1
            · intro i x j d s hd;obtain ⟨hi,rfl⟩:=q i x s;obtain ⟨c,hc⟩:=Zi (xs:=le) (i:=j) (by rw [← (hF i hi).1];exact K7 hd);obtain ⟨d',v,z,g2,g3,g4⟩:=(hF i hi).2 j c hc;rw [hd] at z;cases z;exact ⟨g2.cell,v,g3⟩
            · intro i x j d v s hd hv;obtain ⟨hi,rfl⟩:=q i x s;obtain ⟨c,hc⟩:=Zi (xs:=le) (i:=j) (by rw [← (hF i hi).1];exact K7 hd);obtain ⟨d',v',z,g2,g3,g4⟩:=(hF i hi).2 j c hc;rw [hd] at z;cases z;rw [hv] at g3;cases g3;exact g4
          rw [r] at ab
          refine q69 (.sl (by rw [r];omega) ?_ ?_) ab
          · intro i x s
            obtain ⟨hi,rfl⟩:=q i x s
            exact (hF i hi).1
          · intro i x j c d s hc hd
            obtain ⟨hi,rfl⟩:=q i x s
            obtain ⟨d',v,z,g2,_⟩:=(hF i hi).2 j c hc
            rw [hd] at z;cases z
            exact g2
    · rename_i fs ht
      split at hl <;> simp at hl
      rename_i l' au
      obtain ⟨u,rfl⟩:=hl
      obtain ⟨xs,n,_,_,bm,bb,hf⟩:=DataW.trod_struct ht h
      have:=qob (P:=P) (w:=w) (f:=tyL P f) (g:=fun x cs=>∃ y,DataW.trod enc P w base (fun _=>true) held n x.type cs = some y) (fun x l cs h1 ⟨y,h2⟩=>qdp f x.type l n cs y h1 h2) fs.toList 0 l' cs au q8 ?_
      · simpa using this
      · intro x s
        obtain ⟨i,hi⟩:=List.getElem?_of_mem s
        have:=hf i x (by simpa using hi)
        obtain ⟨y,hy⟩:=Zi (xs:=xs) (i:=i) (by have:=K7 hi;simp at this;omega)
        exact ⟨y,by rw [this];exact hy⟩
end
end Go.Am
namespace Go.Am
open Go
open Go.ChangeShapes Go.WideShapes Go.ChangeAt Go.RowKit Go.Deep
theorem q134 {P : Program} {l : List (Nat × TI)} (h : l.map (fun x=>tiOf P x.1) = l.map (fun x=>some x.2)) : Z8 P (qo7 l):=by
  intro t i b;have a:=Jf (show find l t = some i from b);obtain ⟨k,hk⟩:=List.getElem?_of_mem a;have:=congrArg (fun r=>r[k]?) h;simp only [List.getElem?_map,hk,Option.map_some] at this;exact Zl this
def aggT (P : Program) (t : TypeId) : Bool:=match P.underlying t with
  | some (.struct _) | some (.array _ _)=>true
  | _=>false
inductive q3d : List (Bool × List CT)→List DV→Prop
  | nil : q3d [] []
  | one {c : CT} {d : DV} {ps : List (Bool × List CT)} {ds : List DV} : Ty c d→q3d ps ds→q3d ((false,[c])::ps) (d::ds)
  | agg {l : List CT} {xs : List DV} {ps : List (Bool × List CT)} {ds : List DV} : xs.length = l.length→(∀ (j : Nat) (c : CT) (d : DV),l[j]? = some c→xs[j]? = some d→Ty c d)→q3d ps ds→q3d ((true,l)::ps) (.agg xs::ds)
section
variable {H : Type} {enc : TypeId × Value→H} {P : Program} {T : Tab} {W : World} {base : Nat}
theorem qoz {t : TypeId} {f : Nat} {l : List CT} {v : Value} {d : DataW H} {p : List MemPlace} (r : aggT P t = false) (o : tyL P f t = some l) (g : Value.okWide P W .any base t v) (h : DataW.Trod enc P W 0 (fun _=>true) true t v d p) :
    ∃ c x,l = [c]∧Ty c x∧RelD W (ZC W) x v:=by
  obtain ⟨fuel,z⟩:=h;have m:=qdp f t l fuel _ _ o z
  have key : v.cells = #[v]→∃ c,l = [c]→∃ x,Ty c x∧RelD W (ZC W) x v:=by
    intro w;rw [w] at m;obtain ⟨h1,ds,h2,q⟩:=m
    match l,h1 with
    | [c],_=>
      obtain ⟨x,_,y,u⟩:=q 0 c v rfl rfl;exact ⟨c,fun _=>⟨x,y,u⟩⟩
  have fin : v.cells = #[v]→∃ c x,l = [c]∧Ty c x∧RelD W (ZC W) x v:=by
    intro w;have j:=m.1;rw [w] at j m
    match l,j,m with
    | [c],_,m=>
      obtain ⟨_,ds,h2,q⟩:=m;obtain ⟨x,_,y,u⟩:=q 0 c v rfl rfl;exact ⟨c,x,rfl,y,u⟩
  cases f with
  | zero=>simp [tyL] at o
  | succ f=>
    simp only [tyL] at o;split at o <;> try simp at o
    · rename_i a;obtain ⟨b,rfl⟩:=okWide_bool a g;exact fin rfl
    · rename_i k a;obtain ⟨n,rfl⟩:=okWide_int a g;exact fin rfl
    · rename_i a;obtain ⟨s,rfl⟩:=okWide_string a g;exact fin rfl
    · rename_i e a;obtain ⟨a0,len,cap,rfl⟩:=okWide_slice a g;exact fin rfl
    · rename_i fs a;simp [aggT,a] at r
theorem qoy {t : TypeId} {f : Nat} {l : List CT} {v : Value} {d : DataW H} {p : List MemPlace} (b : aggT P t = true) (w : tyL P f t = some l) (a : Value.okWide P W .any base t v) (h : DataW.Trod enc P W 0 (fun _=>true) true t v d p) :
    ∃ xs : List DV,xs.length = l.length∧(∀ (j : Nat) (c : CT) (d : DV),l[j]? = some c→xs[j]? = some d→Ty c d)∧RelD W (ZC W) (.agg xs) v:=by
  obtain ⟨fuel,u⟩:=h
  have q : ∃ cs,v = .agg cs:=by
    unfold aggT at b;unfold Value.okWide at a;split at b
    · rename_i n;simp only [n] at a;obtain ⟨cs,h,_⟩:=a;exact ⟨cs,h⟩
    · rename_i n;simp only [n] at a;obtain ⟨cs,h,_⟩:=a;exact ⟨cs,h⟩
    · simp at b
  obtain ⟨cs,rfl⟩:=q;obtain ⟨r,ds,m,o⟩:=qdp f t l fuel _ _ w u;simp only [Value.cells] at r o;refine ⟨ds,m,fun j c d k hd=>?_,.agg (by simpa [m] using r.symm) fun j d c hd k=>?_⟩
  · obtain ⟨v,q⟩:=Zi (xs:=cs.toList) (i:=j) (by rw [r];exact K7 k);obtain ⟨x,g,y,_⟩:=o j c v k q;rw [hd] at g;cases g;exact y
  · obtain ⟨z,s⟩:=Zi (xs:=l) (i:=j) (by rw [← m];exact K7 hd);obtain ⟨x,g,_,g3⟩:=o j z c s (by simpa using k);rw [hd] at g;cases g;exact g3
theorem qi0 {f : Nat} : ∀ (o : List TypeId) (b : List (Bool × List CT)) (m : List Value) (ds : List (DataW H)) (p : List MemPlace),o.map (fun t=>(aggT P t,tyL P f t)) = b.map (fun x=>(x.1,some x.2))→
    (∀ (j : Nat) t v,o[j]? = some t→m[j]? = some v→Value.okWide P W .any base t v)→DataW.TrodAll enc P W 0 (fun _=>true) true o m ds p→
    ∃ xs : List DV,q3d b xs∧xs.length = m.length∧∀ (j : Nat) (x : DV) (v : Value),xs[j]? = some x→m[j]? = some v→RelD W (ZC W) x v
  | [],b,m,ds,p,hp,hok,h=>by
    obtain ⟨rfl,rfl,rfl⟩:=trodAll_nil h
    cases b with
    | nil=>exact ⟨[],.nil,rfl,qd⟩
    | cons _ _=>simp at hp
  | t::o,b,m,ds,p,hp,hok,h=>by
    obtain ⟨v,w,d,s,q,q',rfl,rfl,rfl,h1,h2⟩:=trodAll_cons h
    cases b with
    | nil=>simp at hp
    | cons pr b=>
      obtain ⟨ag,l⟩:=pr
      simp only [List.map_cons,List.cons.injEq,Prod.mk.injEq] at hp
      obtain ⟨⟨n,hl⟩,hp⟩:=hp
      obtain ⟨xs,g1,g2,g3⟩:=qi0 o b w s q' hp (fun j t v ht hv=>hok (j + 1) t v (by simpa using ht) (by simpa using hv)) h2
      have a:=hok 0 t v rfl rfl
      cases ag with
      | false=>
        obtain ⟨c,x,rfl,r,z⟩:=qoz n hl a h1
        refine ⟨x::xs,.one r g1,by simp [g2],fun j y u g k=>?_⟩
        cases j with
        | zero=>simp at g k;subst g k;exact z
        | succ j=>exact g3 j y u (by simpa using g) (by simpa using k)
      | true=>
        obtain ⟨zs,k0,r,z⟩:=qoy n hl a h1
        refine ⟨.agg zs::xs,.agg k0 r g1,by simp [g2],fun j y u g k=>?_⟩
        cases j with
        | zero=>simp at g k;subst g k;exact z
        | succ j=>exact g3 j y u (by simpa using g) (by simpa using k)
theorem q13f {F : FuncId} {g : Array Value} {xs : List DV} (hT : Z8 P T) (hm : P.follows .mixedOrders = true) (hp : Pure P T F xs (.bool true)) (t : xs.length = g.size) (hr : ∀ (j : Nat) (x : DV) (v : Value),xs[j]? = some x→g[j]? = some v→RelD W (ZC W) x v) :
    Calls P F g W fun e l=>e = .returned (.bool true)∧Grown W l∧Below W.heap.size W l:=by
  obtain ⟨v,hp',nx',r',u,m,q⟩:=hp;have hg:=qpa hT hm u
  have z : RelH W (ZC W) (fun _=>none) [] 0:=⟨fun _ _ h=>by simp [find] at h,fun _ _ _ _ _ _ h=>by simp [find] at h,fun _ _ _ h=>by simp [find] at h,
    fun b ⟨c,e,f,h⟩=>J1 h,fun b h=>.inl h⟩
  have w:=hg.2 W (ZC W) (fun _=>none) g z ⟨by simpa using t,fun j x v r p=>by
    simp only [List.getElem?_map,Y0] at r;obtain ⟨y,hy,rfl⟩:=r
    exact .d (hr j y v hy p)⟩
  refine (callsIn_wide (n:=0).1 w).mono ?_;rintro e l ⟨x,Z',inj',rfl,hh,a,p,hn⟩;have s:=(qbo hh 8 m p).le q;cases s;have hk : ∀ k,k < W.heap.size→l.heap[k]? = W.heap[k]?:=fun k hk=>a.keep k hk (by rintro ⟨n,blk,o,h1,_⟩;simp [find] at h1);refine ⟨rfl,⟨⟨a.os,a.output,fun i hi=>?_⟩,a.frz,a.size⟩,⟨a.os,a.tape,a.output,a.size,hk⟩⟩;rw [hk i hi]
  cases hw : W.heap[i]? with
  | none=>simp
  | some o=>cases o <;> simp
theorem qi1 (a : laidOutB P = true) {l : World} {k : Nat→Bool} : ∀ (c : List TypeId) (f : List Value) (ds : List (DataW H)) (p : List MemPlace),(∀ t∈c,P.readableRec t = true∧t < P.types.size)→DataW.TrodAll enc P W 0 (fun _=>true) true c f ds p→
    Below W.heap.size W l→(∀ x∈p,x.block < W.heap.size∧k x.block = true)→DataW.TrodAll enc P l 0 k true c f ds p
  | [],f,ds,p,_,h,_,_=>by obtain ⟨rfl,rfl,rfl⟩:=trodAll_nil h;exact trodAll_mk0
  | t::c,f,ds,p,ht,h,hb,hp=>by
    obtain ⟨v,g,d,j,q,r,rfl,rfl,rfl,o,m⟩:=trodAll_cons h
    refine trodAll_cons_mk (WideElems.Trod_stays a (ht t qd).1 (ht t qd).2 o (fun x b=>hb.same (hp x (by simp [b])).1) (fun x b=>(hp x (by simp [b])).2))
      (qi1 a c g j r (fun u n=>ht u (by simp [n])) m hb (fun x b=>hp x (by simp [b])))
theorem contract {f : Func} {F : FuncId} {s : ChangeSpec} {tb : TypeId} {fuel : Nat} {ps : List (Bool × List CT)} (hT : Z8 P T) (hm : P.follows .mixedOrders = true) (z : laidOutB P = true)
    (a : s.vars = []) (c : f.resultTypes = #[tb]) (o : P.underlying tb = some .bool) (k : ∀ t∈f.params.toList,P.readableRec t = true∧t < P.types.size)
    (af : f.params.toList.map (fun t=>(aggT P t,tyL P fuel t)) = ps.map (fun x=>(x.1,some x.2)))
    (hs : ∀ ds : List (DataW H),ds.length = f.params.size→s.fn H ds = {results:=[.lit (.bool true)],args:=ds})
    (m : ∀ xs,q3d ps xs→Pure P T F xs (.bool true))
    {args : Array Value} {ds gs : List (DataW H)} {before : List MemPlace} (r : ∀ (j : Nat) t v,f.params[j]? = some t→args[j]? = some v→Value.okWide P W .any base t v)
    (hW : DataW.Whole enc P f.params.toList s.vars false W args.toList ds gs before) :
    Calls P F args W fun e W'=>∃ v,e = .returned v∧s.post enc P f false true false false W args v W':=by
  have g:=hW;obtain ⟨p,q,hA,hV,rfl,ao,av⟩:=hW;rw [a] at hV;obtain ⟨rfl,rfl⟩:=trodVars_none hV;have n:=g.lt;simp only [List.append_nil] at g n;obtain ⟨xs,g1,g2,g3⟩:=qi0 (base:=base) f.params.toList ps args.toList ds p af (fun j t v ht hv=>r j t v (by simpa using ht) (by simpa using hv)) hA;refine (q13f hT hm (m xs g1) (by simpa using g2) (fun j x v hx hv=>g3 j x v hx (by simpa using hv))).mono ?_;rintro e W' ⟨rfl,hg,hb⟩
  have u : ds.length = f.params.size:=by
    have : ∀ (y : List TypeId) (vs : List Value) (ds : List (DataW H)) (p : List MemPlace),DataW.TrodAll enc P W 0 (fun _=>true) true y vs ds p→ds.length = y.length:=by
      intro y
      induction y with
      | nil=>intro vs ds p h;obtain ⟨_,rfl,_⟩:=trodAll_nil h;rfl
      | cons t y ih=>intro vs ds p h;obtain ⟨v,aw,d,ar,q,q',rfl,rfl,rfl,_,h2⟩:=trodAll_cons h;simp [ih _ _ _ h2]
    simpa using this _ _ _ _ hA
  have l:=hs (ds ++ []) (by simpa using u);refine ⟨_,rfl,post_of_same (pa:=p) (pv:=[]) g ?_ ?_ ?_ qd (hg.frame _) hg.2.1 (ok_one c rfl (okWide_bool_mk o _))⟩
  · intro b sp hd;rw [c,l];exact trodAll_cons_mk (shut_bool o _) trodAll_mk0
  · intro sp w;rw [l];show DataW.TrodAll enc P W' 0 sp true f.params.toList args.toList (ds ++ []) p;rw [List.append_nil];exact qi1 z _ _ _ _ k hA hb fun x hx=>⟨n x hx,w x hx⟩
  · intro sp w;rw [l,a];rfl
end
end Go.Am
namespace Go.Am
open Go
variable {P : Program} {T : Tab}
section
variable {base : Nat} {ops : Array Oper} {dr : Dr} {l : List Oper} {sl sl1 : List (Nat × V)} {hp hp1 : List (Nat × Blk)} {nx nx1 : Nat} {K : AS→Prop} {ty : TypeId} {pos : String} {af : Array Edge} {t : Tmp} {g : Option (Nat × Bool)} {v : V}
theorem qt0 {st : AS} {op : Op} (h : touch op = 0) : fp st op = (some [],[]):=by
  unfold touch at h;split at h <;> first | rfl | (simp at h;done) | (exact absurd h qq)
theorem qvi {dr : Dr} {k : Nat} {st st1 : AS} {t : TypeId} {p : Operand} (h : okF dr k (fp st (.load t p)) = true) : okO dr k st (.load t p) st1 = true:=by
  cases dr with
  | none=>rfl
  | some F=>simp only [okF] at h;simp only [okO,h,Bool.true_and,q4d,touch]
theorem q3q {dr : Dr} {k n es : Nat} {st st1 : AS} {op : Op} {xs : List (List DV)} {r : List (Nat × Blk)} (a : st1.hp = (n,.dat es xs)::r) (h : okF dr k (fp st op) = true) : okO dr k st op st1 = true:=by
  cases dr with
  | none=>rfl
  | some F=>
    simp only [okF] at h;simp only [okO,h,Bool.true_and,q4d,a];split <;> rfl
theorem q14 {dr : Dr} {k : Nat} {st st1 : AS} {op : Op} (h : touch op = 0) : okO dr k st op st1 = true:=by
  cases dr with
  | none=>rfl
  | some F=>simp only [okO,qt0 h,qjw,Bool.true_and,q4d,h]
theorem fin {ex : Ex} {st : AS} {b : List ResultVar} {v : V} {r a : DV} (g : ex = .nor∨ex = .ret) (c : resV T st b = some v) (f : toD st.hp 8 v = some a) (d : a = r) : (ex = .nor∨ex = .ret)∧∃ v a,resV T st b = some v∧toD st.hp 8 v = some a∧DLe a r:=
  ⟨g,v,a,c,f,d ▸ .refl _⟩
theorem qg2 {p : Operand} {b : TypeId} {i : TI} {m es a j : Nat} {xs : List (List DV)} {cs r : List DV} {w : V} (f : Qs ops ⟨sl,hp,nx⟩ ⟨some t,.load b p,ty,pos,af,g⟩ = some true) (n : T b = some i)
    (k : AS.ev ⟨sl,hp,nx⟩ p = some (.ref m es a j)) (hb : find hp m = some (.dat es xs)) (hi : xs[a]? = some cs) (hs : sub cs j i.size = some r) (c : (q21 i.agg r).map .d = some w)
    (h : OpsK P T base ops dr l ⟨(t,w)::sl,hp,nx⟩ K) (o : okF dr l.length (fp ⟨sl,hp,nx⟩ (.load b p)) = true:=by rfl) : OpsK P T base ops dr (⟨some t,.load b p,ty,pos,af,g⟩::l) ⟨sl,hp,nx⟩ K:=
  Ye f (v:=w) (st1:=⟨sl,hp,nx⟩) (by simp only [opFn,k,n,Ug,AS.blk,hb,Nat.beq_refl,hi,hs,c,Option.map_some]) h (qvi o)
end
end Go.Am
namespace Go.Am
open Go
variable {P : Program} {T : Tab}
section
variable {base : Nat} {ops : Array Oper} {dr : Dr} {l : List Oper} {sl : List (Nat × V)} {hp : List (Nat × Blk)} {nx : Nat} {K : AS→Prop} {ty : TypeId} {pos : String} {af : Array Edge} {t : Tmp} {g : Option (Nat × Bool)} {v : V}
theorem Qz {a : TypeId} {i : TI} (b : Qs ops ⟨sl,hp,nx⟩ ⟨some t,.alloc a,ty,pos,af,g⟩ = some true) (d : T a = some i)
    (h : OpsK P T base ops dr l ⟨(t,.ref nx i.size 0 0)::sl,(nx,.dat i.size [i.zero])::hp,nx + 1⟩ K) (c : okF dr l.length (fp ⟨sl,hp,nx⟩ (.alloc a)) = true:=by rfl) : OpsK P T base ops dr (⟨some t,.alloc a,ty,pos,af,g⟩::l) ⟨sl,hp,nx⟩ K:=
  Ye b (v:=.ref nx i.size 0 0) (st1:=⟨sl,(nx,.dat i.size [i.zero])::hp,nx + 1⟩) (by simp only [opFn,d,Option.map_some];rfl) h (q3q rfl c)
theorem qw0 {a : TypeId} {p x : Operand} {i : TI} {u : DV} {m es : Nat} {cs ds : List DV} (q : Qs ops ⟨sl,hp,nx⟩ ⟨none,.store a p x,ty,pos,af,g⟩ = some true) (s : T a = some i) (hp' : AS.ev ⟨sl,hp,nx⟩ p = some (.ref m es 0 0)) (b : AS.ev ⟨sl,hp,nx⟩ x = some (.d u))
    (hb : find hp m = some (.dat es [cs])) (j : cellsOf (.d u) = ds.map .d) (k : ds.length = i.size) (f : cs.length = i.size) (hk : ds.all Zk = true)
    (h : OpsK P T base ops dr l ⟨sl,repl hp m (.dat es [ds]),nx⟩ K) (r : okO dr l.length ⟨sl,hp,nx⟩ (.store a p x) ⟨sl,repl hp m (.dat es [ds]),nx⟩ = true:=by rfl) : OpsK P T base ops dr (⟨none,.store a p x,ty,pos,af,g⟩::l) ⟨sl,hp,nx⟩ K:=by
  refine Ye q (v:=.dead) (st1:=⟨sl,repl hp m (.dat es [ds]),nx⟩) ?_ h r
  have o : (cellsOf (.d u)).all Kh = true:=by
    rw [j,List.all_map];exact hk
  have n : (cellsOf (.d u)).length = i.size:=by rw [j];simpa using k
  have c : splice cs 0 ds = ds:=by
    unfold splice;have : cs.drop (0 + ds.length) = []:=by simp;omega
    rw [this];simp
  simp only [opFn,s,hp',b,Jk,AS.blk,hb,Nat.beq_refl];simp [f,j,qby,c,AS.setBlk];exact ⟨k,fun x b=>List.all_eq_true.1 hk x b⟩
theorem qvj {x y : Operand} {a b : TypeId} {i j : TI} {n es len : Nat} {xs ys : List (List DV)} {f : V} (q : Qs ops ⟨sl,hp,nx⟩ ⟨some t,.call {callee:=.builtin .append,args:=#[x,y],argTypes:=#[a,b]},ty,pos,af,g⟩ = some true)
    (u : T a = some i) (d : T b = some j) (r : AS.ev ⟨sl,hp,nx⟩ x = some (.hs n es 0 len)) (o : AS.ev ⟨sl,hp,nx⟩ y = some f) (hb : find hp n = some (.dat es xs)) (m : len = xs.length) (w : Yv ⟨sl,hp,nx⟩ f = some ys)
    (hk : i.kind = .slice) (c : j.kind = .slice) (s : es = i.esize) (k : U9 i.esize f = true) (p : (len + ys.length) * (i.ebytes * 4)≤4294967296)
    (h : OpsK P T base ops dr l ⟨(t,.hs nx es 0 (len + ys.length))::sl,(nx,.dat es (xs ++ ys))::repl hp n .dead,nx + 1⟩ K) (z : okF dr l.length (fp ⟨sl,hp,nx⟩ (.call {callee:=.builtin .append,args:=#[x,y],argTypes:=#[a,b]})) = true:=by rfl) : OpsK P T base ops dr (⟨some t,.call {callee:=.builtin .append,args:=#[x,y],argTypes:=#[a,b]},ty,pos,af,g⟩::l) ⟨sl,hp,nx⟩ K:=by
  refine Ye q (v:=.hs nx es 0 (len + ys.length)) (st1:=⟨sl,(nx,.dat es (xs ++ ys))::repl hp n .dead,nx + 1⟩) ?_ h (q3q rfl z);subst m;have e : ((xs.drop 0).take xs.length ++ ys) = xs ++ ys:=by simp
  simp only [opFn,evL,r,o,Yn];simp only [List.getElem?_toArray,List.getElem?_cons_zero,List.getElem?_cons_succ,u,d];rw [qu ⟨hk,c,k⟩];simp only [Zd,AS.blk,hb,w];rw [qu ⟨q8,trivial,p,s⟩,e];rfl
theorem qg4 {x : Operand} (a : Qs ops ⟨sl,hp,nx⟩ ⟨some t,.move x,ty,pos,af,g⟩ = some true) (b : AS.ev ⟨sl,hp,nx⟩ x = some v)
    (h : OpsK P T base ops dr l ⟨(t,v)::sl,hp,nx⟩ K) : OpsK P T base ops dr (⟨some t,.move x,ty,pos,af,g⟩::l) ⟨sl,hp,nx⟩ K:=
  Ye a (v:=v) (st1:=⟨sl,hp,nx⟩) (by simp only [opFn,b,Option.map_some]) h (q14 rfl)
theorem qvk {x : Operand} (a : Qs ops ⟨sl,hp,nx⟩ ⟨some t,.assign x,ty,pos,af,g⟩ = some true) (b : AS.ev ⟨sl,hp,nx⟩ x = some v)
    (h : OpsK P T base ops dr l ⟨(t,v)::sl,hp,nx⟩ K) : OpsK P T base ops dr (⟨some t,.assign x,ty,pos,af,g⟩::l) ⟨sl,hp,nx⟩ K:=
  Ye a (v:=v) (st1:=⟨sl,hp,nx⟩) (by simp only [opFn,b,Option.map_some]) h (q14 rfl)
theorem qe {op : Op} {j : Nat} {w : Bool} (a : Qs ops ⟨sl,hp,nx⟩ ⟨some t,op,ty,pos,af,some (j,w)⟩ = some false) (h : OpsK P T base ops dr l ⟨(t,.d (.tup []))::sl,hp,nx⟩ K) : OpsK P T base ops dr (⟨some t,op,ty,pos,af,some (j,w)⟩::l) ⟨sl,hp,nx⟩ K:=
  qvx a h
theorem qvp {x : Operand} {a : TypeId} {i : TI} {es : Nat} {xs : List (List DV)} {m : Nat} (f : Qs ops ⟨sl,hp,nx⟩ ⟨some t,.call {callee:=.builtin .len,args:=#[x],argTypes:=#[a]},ty,pos,af,g⟩ = some true) (c : T a = some i) (hk : i.kind = .slice) (j : AS.ev ⟨sl,hp,nx⟩ x = some (.d (.sl es xs))) (b : xs.length = m)
    (h : OpsK P T base ops dr l ⟨(t,.d (.int .i64 m))::sl,hp,nx⟩ K) : OpsK P T base ops dr (⟨some t,.call {callee:=.builtin .len,args:=#[x],argTypes:=#[a]},ty,pos,af,g⟩::l) ⟨sl,hp,nx⟩ K:=by
  subst b;exact Ye f (v:=.d (.int .i64 xs.length)) (st1:=⟨sl,hp,nx⟩) (by simp only [opFn,evL,j,Yn];simp only [List.getElem?_toArray,List.getElem?_cons_zero,c,hk]) h (q14 rfl)
end
end Go.Am
