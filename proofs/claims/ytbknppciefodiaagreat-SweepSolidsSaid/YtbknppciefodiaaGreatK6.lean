/- Am26 Am27 Am28 Am29 Am30 Am31 Lf1 Pl0 Lf2 -/
import Derived.Test.YtbknppciefodiaaGreatK5
import Derived.ProofKit
import Derived.OpenShut
import Derived.Deep.Slices
namespace Go.Am
open Go
variable {P : Program} {T : Tab}
def wpL (F : Fence) (P : Program) (c : Code) (Q : Exit→Act→World→Prop) (a : Act) (w : World) : Prop:=
  ∀ (b : Frame) (k : List Item) (cs : List Frame),b.roundOf = F.round→F.fn b.fn→F.room (cs.length + 1 + 0)→
    ∃ e a' w',Q e a' w'∧ArrivesIn (Machine.fenced P F) P (lone (b.atR a (.code c::.inLoop c::k)) cs w) b k cs e a' w'
theorem qom {F : Fence} {c : Code} {Q : Exit→Act→World→Prop} {a : Act} {w : World} (h : c.wpIn F 0 P (Exit.then (wpL F P c Q) Q) a w) : wpL F P c Q a w:=by
  intro b k cs n hb p;obtain ⟨e,m,j,g,d⟩:=h b (.inLoop c::k) cs n hb p
  cases e with
  | normal=>
    obtain ⟨r,s,q,o,f⟩:=g b k cs n hb p;exact ⟨r,s,q,o,.of_steps (StepsIn.trans d (.one (fenced_calm hb p rfl) stepR_inLoop)) f⟩
  | exit id=>exact ⟨_,m,j,g,.pass (x:=.inLoop c) rfl (fun _ _=>.inl qf) d⟩
  | goto l=>exact ⟨_,m,j,g,.pass (x:=.inLoop c) rfl (fun _ _=>.inl qf) d⟩
  | ret=>exact ⟨_,m,j,g,.pass (x:=.inLoop c) rfl (fun _ _=>.inl qf) d⟩
  | panic ch=>exact ⟨_,m,j,g,.pass (x:=.inLoop c) rfl (fun _ _=>.inl qf) d⟩
  | outgrown=>exact ⟨_,m,j,g,.pass (x:=.inLoop c) rfl (fun _ _=>.inl qf) d⟩
theorem q130 {F : Fence} {c : Code} {Q : Exit→Act→World→Prop} {a : Act} {w : World} (h : wpL F P c Q a w) : (Code.loop c).wpIn F 0 P Q a w:=by
  intro b k cs f hb g;obtain ⟨e,a',w',j,d⟩:=h b k cs f hb g;exact ⟨e,a',w',j,.of_steps (.one (fenced_calm hb g rfl) stepR_loop) d⟩
theorem qol {F : Fence} {c : Code} {Q d : Exit→Act→World→Prop} {a : Act} {w : World} (h : wpL F P c Q a w) (l : ∀ e a w,Q e a w→d e a w) : wpL F P c d a w:=
  fun b k cs g j f=>let ⟨e,a',w',q,r⟩:=h b k cs g j f;⟨e,a',w',l _ _ _ q,r⟩
def CP (base : Nat) (w : World) (Z : Nat→Prop) (inj : Inj) (st : AS) (a : Act) (Ds : List Nat) (ex : Ex) (st' : AS) (e : Exit) (a' : Act) (w' : World) : Prop:=e = toE ex∧Kx base w Z inj st a Ds st' a' w'
def Y2 (P : Program) (base : Nat) (c : Code) (st : AS) (ex : Ex) (st' : AS) : Prop:=
  ∀ (ro : Option Nat) (w : World) (Z : Nat→Prop) (inj : Inj) (a : Act) (Ds : List Nat),RelS w Z inj st a Ds→codeOk a.tmps.size c = true→base≤st.nx→Yj ro w→
    c.wpIn (Fw ro) 0 P (CP base w Z inj st a Ds ex st') a w∧∀ d,c = .loop d→wpL (Fw ro) P d (CP base w Z inj st a Ds ex st') a w
section
variable {base : Nat} {st st1 st2 : AS} {ex : Ex}
theorem U7 {c : Code} (g : ∀ d,c≠.loop d) (h : ∀ (ro : Option Nat) (w : World) (Z : Nat→Prop) (inj : Inj) (a : Act) (Ds : List Nat),RelS w Z inj st a Ds→codeOk a.tmps.size c = true→base≤st.nx→Yj ro w→
    c.wpIn (Fw ro) 0 P (CP base w Z inj st a Ds ex st1) a w) : Y2 P base c st ex st1:=
  fun ro w Z inj a Ds j k f b=>⟨h ro w Z inj a Ds j k f b,fun d hd=>absurd hd (g d)⟩
theorem Kx.round {w : World} {Z : Nat→Prop} {inj : Inj} {a : Act} {Ds : List Nat} {a' : Act} {w' : World} {ro : Option Nat} (h : Kx base w Z inj st a Ds st1 a' w') (b : Yj ro w) : Yj ro w':=by
  obtain ⟨_,_,_,_,e,_⟩:=h;exact b.ext e
theorem qpy : Y2 P base .skip st .nor st:=
  U7 qf fun ro w Z inj a Ds h _ hb _=>wpIn_skip ⟨rfl,Kx.refl h hb⟩
theorem qpp {id : Nat} : Y2 P base (.exit id) st (.exit id) st:=
  U7 qf fun ro w Z inj a Ds h _ hb _=>wpIn_exit ⟨rfl,Kx.refl h hb⟩
theorem qpv : Y2 P base .ret st .ret st:=
  U7 qf fun ro w Z inj a Ds h _ hb _=>wpIn_ret ⟨rfl,Kx.refl h hb⟩
theorem qpw {a b : Code} (m : Y2 P base a st .nor st1) (n : Y2 P base b st1 ex st2) : Y2 P base (.seq a b) st ex st2:=by
  refine U7 qf fun ro w Z inj act Ds h c hb j=>wpIn_seq (wpIn_mono (m ro w Z inj act Ds h ?_ hb j).1 ?_)
  · simp only [codeOk,Bool.and_eq_true] at c;exact c.1
  · rintro e a' w' ⟨rfl,hp⟩;refine hp.bind fun Z' inj' l k f d _ g=>?_;refine wpIn_mono (n ro w' Z' inj' a' l k ?_ d (hp.round j)).1 ?_
    · simp only [codeOk,Bool.and_eq_true] at c;rw [f];exact c.2
    · rintro e p o ⟨rfl,hp2⟩;exact ⟨rfl,g _ _ _ hp2⟩
theorem qpx {a b : Code} (f : Y2 P base a st ex st1) (g : ex≠.nor) : Y2 P base (.seq a b) st ex st1:=by
  refine U7 qf fun ro w Z inj act Ds h c hb d=>wpIn_seq (wpIn_mono (f ro w Z inj act Ds h ?_ hb d).1 ?_)
  · simp only [codeOk,Bool.and_eq_true] at c;exact c.1
  · rintro e a' w' ⟨rfl,hp⟩
    cases ex with
    | nor=>exact absurd rfl g
    | exit id=>exact ⟨rfl,hp⟩
    | ret=>exact ⟨rfl,hp⟩
theorem qpo {c : Operand} {a b : Code} (j : st.ev c = some (.d (.bool true))) (k : Y2 P base a st ex st1) : Y2 P base (.cond c a b) st ex st1:=by
  refine U7 qf fun ro w Z inj act Ds h f hb g=>wpIn_cond_true ?_ (k ro w Z inj act Ds h ?_ hb g).1
  · have:=Kb h j;generalize act.eval c = x at this
    cases this with | d this=>cases this;rfl
  · simp only [codeOk,Bool.and_eq_true] at f;exact f.1
theorem qpn {c : Operand} {a b : Code} (j : st.ev c = some (.d (.bool false))) (k : Y2 P base b st ex st1) : Y2 P base (.cond c a b) st ex st1:=by
  refine U7 qf fun ro w Z inj act Ds h f hb g=>wpIn_cond_false ?_ (k ro w Z inj act Ds h ?_ hb g).1
  · have:=Kb h j;generalize act.eval c = x at this
    cases this with | d this=>cases this;rfl
  · simp only [codeOk,Bool.and_eq_true] at f;exact f.2
theorem qpm {id : Nat} {a : Code} (d : Y2 P base a st ex st1) : Y2 P base (.block id a) st (ex.block id) st1:=by
  refine U7 qf fun ro w Z inj act Ds h b hb c=>wpIn_block (wpIn_mono (d ro w Z inj act Ds h b hb c).1 ?_);rintro e a' w' ⟨rfl,hp⟩
  cases ex with
  | nor=>exact ⟨rfl,hp⟩
  | ret=>exact ⟨rfl,hp⟩
  | exit i=>
    by_cases hi : i = id
    · simp only [toE,Exit.inBlock,hi,if_true,Ex.block];exact ⟨rfl,hp⟩
    · simp only [toE,Exit.inBlock,hi,if_false,Ex.block];exact ⟨rfl,hp⟩
theorem qij {a : Code} (h : ∀ (ro : Option Nat) (w : World) (Z : Nat→Prop) (inj : Inj) (act : Act) (Ds : List Nat),RelS w Z inj st act Ds→codeOk act.tmps.size (.loop a) = true→base≤st.nx→Yj ro w→
    wpL (Fw ro) P a (CP base w Z inj st act Ds ex st1) act w) : Y2 P base (.loop a) st ex st1:=
  fun ro w Z inj act Ds f g c b=>⟨q130 (h ro w Z inj act Ds f g c b),fun d hd=>by cases hd;exact h ro w Z inj act Ds f g c b⟩
theorem qpq {a : Code} (l : Y2 P base a st .nor st1) (m : Y2 P base (.loop a) st1 ex st2) : Y2 P base (.loop a) st ex st2:=by
  refine qij fun ro w Z inj act Ds h f hb g=>qom (wpIn_mono (l ro w Z inj act Ds h f hb g).1 ?_);rintro e a' w' ⟨rfl,hp⟩;refine hp.bind fun Z' inj' k j c b _ d=>?_;refine qol ((m ro w' Z' inj' a' k j (by rw [c];exact f) b (hp.round g)).2 a rfl) ?_;rintro e o n ⟨rfl,hp2⟩;exact ⟨rfl,d _ _ _ hp2⟩
theorem qpr {a : Code} (f : Y2 P base a st ex st1) (d : ex≠.nor) : Y2 P base (.loop a) st ex st1:=by
  refine qij fun ro w Z inj act Ds h b hb c=>qom (wpIn_mono (f ro w Z inj act Ds h b hb c).1 ?_);rintro e a' w' ⟨rfl,hp⟩
  cases ex with
  | nor=>exact absurd rfl d
  | exit id=>exact ⟨rfl,hp⟩
  | ret=>exact ⟨rfl,hp⟩
theorem qpz {ρ : Nat→Nat} {fz ph : List Nat} {c : Code} (k : Wk base ρ fz ph st st1) (v : Y2 P base c st1 ex st2) : Y2 P base c st ex st2:=by
  intro ro w Z inj a Ds h g hb j;obtain ⟨f,m⟩:=q26 h k
  have b : ∀ e a' w',CP base w (wkZ Z inj st fz) (wkI inj ρ ph) st1 a Ds ex st2 e a' w'→CP base w Z inj st a Ds ex st2 e a' w':=by
    rintro e a' w' ⟨rfl,l,s,u,q,p,o,t,r⟩;exact ⟨rfl,l,s,u,q,m.trans p (Nat.le_refl _),o,t,r⟩
  obtain ⟨x,n⟩:=v ro w _ _ a Ds f g k.bs j;exact ⟨wpIn_mono x b,fun d hd=>qol (n d hd) b⟩
theorem qq2 {ops : Array Oper} {ro : Option Nat} {w0 : World} {Z0 : Nat→Prop} {inj0 : Inj} {c : AS} {m : Act} {Ds0 : List Nat} {Q : Exit→Act→World→Prop} {l : List Oper} {st st' : AS} (t : Zn P base ops l st st')
    (hd : ∀ o∈ops,J7 m.tmps.size o.dst = true) (q : ∀ a' w',Kx base w0 Z0 inj0 c m Ds0 st' a' w'→Q .normal a' w') : ∀ (pre : List Oper) (a : Act) (w : World),ops.toList = pre ++ l→Kx base w0 Z0 inj0 c m Ds0 st a w→Yj ro w→
    wpOpsIn (Fw ro) 0 P ops Q (List.range' pre.length l.length) a w:=by
  have one : ∀ {o : Oper} {l : List Oper} {st st1 st2 : AS},Jo P base ops o st st1→(∀ (pre : List Oper) (a : Act) (w : World),ops.toList = pre ++ l→Kx base w0 Z0 inj0 c m Ds0 st1 a w→Yj ro w→wpOpsIn (Fw ro) 0 P ops Q (List.range' pre.length l.length) a w)→
      ∀ (pre : List Oper) (a : Act) (w : World),ops.toList = pre ++ o::l→Kx base w0 Z0 inj0 c m Ds0 st a w→Yj ro w→wpOpsIn (Fw ro) 0 P ops Q (List.range' pre.length (o::l).length) a w:=by
    intro o l st st1 st2 hs k pre a w p hp d
    have r : ops[pre.length]? = some o:=by rw [← Array.getElem?_toList,p];simp
    rw [List.length_cons,List.range'_succ,wpOpsIn_cons]
    refine qhf r ?_
    refine hp.bind fun Z' inj' j b g f _ h=>?_
    refine hs ro Q w Z' inj' a j _ b (by rw [g];exact hd o (Array.mem_of_getElem? r)) f d fun a' w' hp'=>?_
    have:=k (pre ++ [o]) a' w' (by rw [p];simp) (h _ _ _ hp') (hp'.round d)
    simpa using this
  induction t with
  | nil=>intro pre a w _ hp _;simpa [wpOpsIn] using q _ _ hp
  | cons hs _ k=>exact one (st2:=st) hs (k q)
  | wk hw _ k=>
    intro pre a w p hp d;refine k q pre a w p ?_ d;obtain ⟨Z',inj',j,v,x,u,y,s⟩:=hp;obtain ⟨b,n⟩:=q26 v hw;exact ⟨_,_,j,b,x.trans n (Nat.le_refl _),u,hw.bs,s⟩
theorem qpt {id : Nat} {ops : Array Oper} (d : Zn P base ops ops.toList st st1) : Y2 P base (.region id ops false) st .nor st1:=by
  refine U7 qf fun ro w Z inj a Ds h b hb c=>wpIn_region ?_
  have hd : ∀ o∈ops,J7 a.tmps.size o.dst = true:=by
    intro o f;simp only [codeOk,List.all_eq_true] at b;exact b o (by simpa using f)
  have:=qq2 (Q:=CP base w Z inj st a Ds .nor st1) d hd (fun a' w' hp=>⟨rfl,hp⟩) [] a w rfl (Kx.refl h hb) c;rw [List.range_eq_range'];simpa using this
theorem qpu {id : Nat} {ops : Array Oper} {F : List Fp} (f : P.follows .mixedOrders = true) (d : Jn P base ops F ops.toList st st1) (hd : q8r F ops = true) : Y2 P base (.region id ops true) st .nor st1:=
  U7 qf fun ro w Z inj a Ds h b hb c=>qw5 f (qqq hd) d h b hb c fun a' w' hp=>⟨rfl,hp⟩
theorem qrp {ops : Array Oper} {o : Oper} {c : Call} {g : Operand} {n : Nat} {vs : List V} {s s1 s2 : List (Nat × V)} {j : List Tmp} {assign body : Code}
    (hg : Qx ops st o = some true) (ho : o.op = .call c) (y : c.callee = .value g) (be : st.ev g = some (.yld n)) (ax : evL st.ev c.args.toList = some vs)
    (z : st.blk n = some (.loop s j assign body .ready none)) (ao : j.length = vs.length)
    (h1 : Y2 P st.nx assign {sl:=q1v s j vs,hp:=st.hp,nx:=st.nx} .nor st1) (az : st1.blk n = some (.loop s1 j assign body .ready none))
    (h2 : Y2 P st.nx body (st1.setBlk n (.loop s1 j assign body .busy none)) ex st2) (av : st2.blk n = some (.loop s2 j assign body .busy none)) :
    Jo P base ops o st ({sl:=st.sl,hp:=repl st2.hp n (.loop s2 j assign body (if ex = .nor then .ready else .done) ex.code),nx:=st2.nx : AS}.putD o.dst (.d (.bool (decide (ex = .nor))))):=by
  intro ro Q w Z inj a Ds K h hd hb cu hK;unfold Ui;rw [q3l h hg];simp only [if_true];refine ⟨fun _ _=>trivial,?_⟩;have hr:=Kb h be;obtain ⟨b,r,hi,hw,es,ep,an,au,bm,ac,bg,_⟩:=qgx (ls':=.ready) (pe':=none) (pin:=0) h.heap z;generalize aw : a.eval g = gv at hr
  cases hr with | @yld _ b' o' hlt hi'=>
  rw [hi] at hi';cases hi';have hl:=q8x h ax;have e2 : (c.args.toList.map a.eval).toArray = c.args.map a.eval:=by apply Array.ext';simp
  rw [e2] at hl;have bh : (c.args.map a.eval).size = r.params.size:=by rw [← hl.1,an];simp [ao]
  have ai : (execOp a.eval o).run P w = .ok (.round b r.fn ((r.params.zip (c.args.map a.eval)).foldl (fun tmps (t,a)=>tmps.setIfInBounds t a) r.tmps) r.assign r.body) w:=by
    have:=run_yield (P:=P) hw bh;obtain ⟨dst,op,type,pos,after,guard⟩:=o;simp only at ho;subst ho;obtain ⟨cn,args,argTypes⟩:=c;simp only at y;subst y;simp only [execOp,resolve,Sem.run_bind,aw,Deferred.ofValue,Sem.run_pure,Result.andThen_ok,invoke];simpa using this
  rw [show (Fw ro).round = ro from rfl,Oper.semAt_eq ro _ o (by rintro c' h';rw [ho] at h';cases h'),ai,Oper.uponIn_round];refine ⟨fun h=>by simp [Fw] at h,?_⟩;refine roundIn_of_wpIn trivial ?_
  have ad : (r.params.zip (c.args.map a.eval)).foldl (fun tmps (t,a)=>tmps.setIfInBounds t a) r.tmps = (j.zip (c.args.map a.eval).toList).foldl (fun tmps (x : Tmp × Value)=>tmps.setIfInBounds x.1 x.2) r.tmps:=by
    rw [an,← Array.foldl_toList,Array.toList_zip]
  obtain ⟨u,f⟩:=qmr j vs (c.args.map a.eval).toList s r.tmps (by rw [Array.length_toList];exact hl.1) (fun i d c h1 h2=>hl.2 i d c h1 (by rw [← Array.getElem?_toList];exact h2)) ac.2.2 bg;rw [ad,au,bm];generalize (j.zip (c.args.map a.eval).toList).foldl (fun tmps (x : Tmp × Value)=>tmps.setIfInBounds x.1 x.2) r.tmps = tm at u f;have ae : RelS w Z inj {sl:=q1v s j vs,hp:=st.hp,nx:=st.nx} {tmps:=tm,defers:=[]} []:=⟨u,h.heap,rfl,qf,qf⟩
  have v : Yj (some b) w:=fun l hl=>by cases hl;exact ⟨r,hw⟩
  refine wpIn_mono (h1 (some b) w Z inj _ [] ae (by show codeOk tm.size assign = true;rw [f];exact ac.1) (Nat.le_refl _) v).1 ?_;rintro e a1 w1 ⟨rfl,Z1,q,ah,g1,g2,g3,g4,g5⟩;have ab : n < st.nx:=(h.heap.blk n _ z).1;obtain ⟨b1,r1,i1,bi,bl,al,bv,br,cd,ck,cg,bk,k⟩:=qgx (ls':=.busy) (pe':=none) (pin:=st.nx) g1.heap az;rw [g2.pinj n ab,hi] at i1;cases i1;refine ⟨_,run_beginRound bi bl,?_⟩;have e5 : ({r1 with state:=.busy} : Loop) = {r1 with state:=.busy,pending:=none}:=by cases r1;simp only at al;subst al;rfl
  rw [e5]
  have aa : RelS (w1.putObj b (.loop {r1 with state:=.busy,pending:=none})) Z1 q (st1.setBlk n (.loop s1 j assign body .busy none)) a1 ah:=
    ⟨g1.slots.mono (k.zkeep g1.heap) k.zin k.big (fun _ _=>rfl) (Nat.le_refl _),bk,g1.defs,g1.nodup,fun D hD=>k.marks g1.heap (g1.marks D hD)⟩
  have am : Yj (some b) (w1.putObj b (.loop {r1 with state:=.busy,pending:=none})):=(v.ext g2).ext k;refine wpIn_mono (h2 (some b) _ Z1 q a1 ah aa (by rw [g3];show codeOk tm.size body = true;rw [f];exact ac.2.1) g4 am).1 ?_;rintro e a3 w3 ⟨rfl,Z3,aj,cw,k1,k2,k3,k4,k5⟩;obtain ⟨b3,r3,i3,bj,co,cy,ca,bw,ch,bq,ce,bf,bc⟩:=qgx (ls':=if ex = .nor then .ready else .done) (pe':=ex.code) (pin:=st.nx) k1.heap av;have bd : q n = some (b,0):=(g2.pinj n ab).trans hi;rw [k2.pinj n ab,bd] at i3;cases i3
  have m : K (a.put o.dst (.bool (decide (ex = .nor)))) (w3.putObj b (.loop {r3 with state:=if ex = .nor then .ready else .done,pending:=ex.code})):=by
    have aq : Ext w Z inj st.hp (w3.putObj b (.loop {r3 with state:=if ex = .nor then .ready else .done,pending:=ex.code})) Z3 aj (repl st2.hp n (.loop s2 j assign body (if ex = .nor then .ready else .done) ex.code)) st.nx:=
      ((g2.trans k (Nat.le_refl _)).trans k2 (Nat.le_refl _)).trans bc (Nat.le_refl _)
    exact hK _ _ (q3q h hb aq bf k4 (.d (.bool _)) hd)
  have p:=run_endRound (P:=P) ex.code bj
  cases ex with
  | nor=>exact ⟨_,_,p,m⟩
  | ret=>exact ⟨_,_,p,m⟩
  | exit id=>exact ⟨_,_,p,m⟩
end
end Go.Am
namespace Go.Am
open Go
variable {P : Program} {T : Tab}
section
variable {base : Nat} {st st1 st2 : AS} {ex : Ex}
theorem qpb {ro : Option Nat} {f : FuncId} {xs : Array Value} {w : World} {R : Ending→World→Prop} (h : CallsIn (Fw none) 0 P f xs w R) : CallsIn (Fw ro) 0 P f xs w R:=by
  cases ro <;> exact h
theorem qt4 {w : World} {Ds : List Nat} (h : Ds.Nodup) (a : ∀ D∈Ds,w.heap[D]? = some (.deferred (some []))) : (w.heap.size::Ds).Nodup:=
  List.nodup_cons.2 ⟨fun b=>by have:=J6 (a _ b);omega,h⟩
theorem qps {g : Operand} {k : Array Tmp} {assign body : Code} {f : FuncId} {u : List V} {v : V} {hp : List (Nat × Blk)} {nx : Nat} {pe : Option Code} {s : List (Nat × V)} {ls : LoopState}
    (hg : st.ev g = some (.fn f u)∨∃ ds,st.ev g = some (.d (.fn f ds))∧u = ds.map .d)
    (y : Jm P f (.yld st.nx::u) ((st.nx,.loop st.sl k.toList assign body .ready none)::st.hp) (st.nx + 1) v hp nx)
    (ak : find hp st.nx = some (.loop s k.toList assign body ls pe)) (bq : ls≠.busy) (az : pe = ex.code) : Y2 P base (.rangeFunc g k assign body) st ex {sl:=st.sl,hp:=repl hp st.nx .dead,nx:=nx}:=by
  refine U7 qf fun ro w Z inj a Ds h z hb bm=>wpIn_rangeFunc fun fn _=>?_;simp only [codeOk,Bool.and_eq_true,List.all_eq_true,Nat.blt_eq] at z
  have aw : ∃ cs : Array Value,a.eval g = .func (.func f) #[] cs∧LRel w Z inj st.nx u cs:=by
    rcases hg with hg | ⟨ds,hg,rfl⟩
    · have hr:=Kb h hg;generalize a.eval g = gv at hr ⊢
      cases hr with | @fn _ _ cs h1 h2=>
      exact ⟨cs,rfl,h1,h2⟩
    · have hr:=Kb h hg;generalize a.eval g = gv at hr ⊢
      cases hr with | d hr=>
      cases hr with | @fn _ _ cs h1 h2=>
      refine ⟨cs,rfl,by simpa using h1,fun i d c hd hc=>?_⟩;simp only [List.getElem?_map,Y7] at hd;obtain ⟨d',hd,rfl⟩:=hd;exact .d (h2 i d' c hd hc)
  obtain ⟨cs,bg,ay⟩:=aw
  have rest : ∀ (n : World) (l : Nat) (mark : List Deferred) (r : Loop) (Dn : List Nat),(Instr.enterLoop fn a.tmps k assign body (Fw ro).round).run P w = .ok (l,mark) n→
      n.heap[l]? = some (.loop r)→r.state = .ready→r.pending = none→
      RelH n Z (upd inj st.nx (some (l,0))) ((st.nx,.loop st.sl k.toList assign body .ready none)::st.hp) (st.nx + 1)→
      Ext w Z inj st.hp n Z (upd inj st.nx (some (l,0))) ((st.nx,.loop st.sl k.toList assign body .ready none)::st.hp) st.nx→
      mark = Dn.map (fun D=>{target:=.collected D,args:=#[]})→(Dn ++ Ds).Nodup→(∀ D∈Dn,n.heap[D]? = some (.deferred (some []))∧w.heap.size≤D)→
      ∃ (l : Nat) (mark : List Deferred) (w₁ : World) (d : Deferred) (ah : World) (f : FuncId) (args : Array Value) (w₂ : World),
      (Instr.enterLoop fn a.tmps k assign body (Fw ro).round).run P w = .ok (l,mark) w₁∧
      (resolve a.eval (rangeCall g l) 0).run P w₁ = .ok d ah∧
      (∀ f',Target.leads P ah d.target d.args = some f'→(Fw ro).fn f')∧
      (invoke d.target d.args).run P ah = .ok (.enter f args) w₂∧
      ((Fw ro).depth.isSome = true→1≤0)∧
      CallsIn (Fw ro) (0 - 1) P f args w₂ (rangePost (Fw ro) 0 P l (CP base w Z inj st a Ds ex {sl:=st.sl,hp:=repl hp st.nx .dead,nx:=nx}) {a with defers:=mark ++ a.defers}):=by
    intro n l mark r Dn aa cm cn bu ar ab ag bo ap
    refine ⟨l,mark,n,{target:=.fn (.func f) cs,args:=#[.func (.yield l) #[] #[]]},n,f,#[.func (.yield l) #[] #[]] ++ cs,n,aa,?_,fun _ _=>trivial,?_,fun h=>by simp [Fw] at h,?_⟩
    · simp only [resolve,bg];simp [Deferred.ofValue,Act.eval]
    · simp [invoke,y.1]
    · refine qpb (CallsIn.mono (y.2 n Z _ _ ar ?_) ?_)
      · refine ⟨by simp [ay.1];omega,fun i d c hd hc=>?_⟩
        cases i with
        | zero=>
          rw [Array.getElem?_append_left qf] at hc;simp at hd hc;subst hd hc;exact .yld q6 (Y6 _ _ _)
        | succ i=>
          rw [Array.getElem?_append_right qf] at hc;simp at hd hc;exact (ay.2 i d c hd hc).mono (fun b hz=>ab.keep b (h.heap.zs b hz) (h.heap.z_im hz)) (fun _ h=>h) ab.big (fun m hm=>ab.pinj m hm) q6
      · rintro e w3 ⟨x,Z',inj',rfl,bl,ae,co,cp⟩
        obtain ⟨b3,r3,i3,au,bi,av,ai⟩:=qwb (pin:=st.nx) bl ak
        obtain ⟨bj,bk⟩:=ai {r3 with state:=.exhausted} rfl
        have br : b3 = l:=by
          have:=ae.pinj st.nx q6;rw [Y6,i3] at this;cases this;rfl
        subst br
        refine ⟨r3.pending,_,run_endLoop au (by rw [bi];exact bq),?_⟩
        have hE : Ext w Z inj st.hp (w3.putObj b3 (.loop {r3 with state:=.exhausted})) Z' inj' (repl hp st.nx .dead) st.nx:=(ab.trans ae q6).trans bk (Nat.le_refl _)
        have t : Kx base w Z inj st a Ds {sl:=st.sl,hp:=repl hp st.nx .dead,nx:=nx} {a with defers:=mark ++ a.defers} (w3.putObj b3 (.loop {r3 with state:=.exhausted})):=by
          refine ⟨Z',inj',Dn ++ Ds,⟨?_,bj,?_,bo,?_⟩,hE.pin_le hb,rfl,by show base≤nx;omega,?_⟩
          · exact h.slots.mono (hE.zkeep h.heap) hE.zin hE.big hE.pinj (by show st.nx≤nx;omega)
          · simp [ag,h.defs]
          · intro D q;rcases List.mem_append.1 q with q | q
            · obtain ⟨h5,h6⟩:=ap D q;have h7:=ae.marks ar h5;rw [World.putObj_heap_other (fun e=>by rw [e] at h7;rw [au] at h7;cases h7)];exact h7
            · exact hE.marks h.heap (h.marks D q)
          · intro D q;rcases List.mem_append.1 q with q | q
            · exact .inr (ap D q).2
            · exact .inl q
        rw [av,az] at t
        rw [av,az]
        cases ex with
        | nor=>exact ⟨rfl,t⟩
        | exit id=>exact wpIn_exit ⟨rfl,t⟩
        | ret=>exact wpIn_ret ⟨rfl,t⟩
  have ad : ∀ (n : World) (l : Nat) (r : Loop),r.state = .ready→r.pending = none→r.tmps = a.tmps→r.params = k→r.assign = assign→r.body = body→Yt n Z (upd inj st.nx (some (l,0))) (st.nx + 1) st.sl a.tmps→
      n.heap[l]? = some (.loop r)→RelB n Z (upd inj st.nx (some (l,0))) (st.nx + 1) st.nx (.loop st.sl k.toList assign body .ready none):=by
    rintro n l r e1 e2 e3 e4 e5 e6 hs hl
    obtain ⟨f1,f2,f3,f4,f5,f6,f7,f8⟩:=r
    simp only at e1 e2 e3 e4 e5 e6
    subst e1 e2 e3 e4 e5 e6
    exact ⟨l,_,_,_,Y6 _ _ _,hl,⟨z.1.2,z.2,fun p hp=>z.1.1 p hp⟩,hs⟩
  cases ro with
  | none=>
    have an : RelH (w.alloc (.deferred (some []))) Z inj st.hp st.nx:=h.heap.grow fun b hb=>Zw w _ hb
    have af : ∀ o,Yt ((w.alloc (.deferred (some []))).alloc o) Z (upd inj st.nx (some (w.heap.size + 1,0))) (st.nx + 1) st.sl a.tmps:=fun o=>
      h.slots.mono (fun b hz=>by have:=h.heap.zs b hz;rw [Zw _ _ (by simp;omega),Zw _ _ this]) (fun _ h=>h)
        (fun b c e f hb=>by obtain ⟨c1,e1,f1,h1,s1⟩:=q2n w (.deferred (some [])) b c e f hb;obtain ⟨c2,e2,f2,h2,s2⟩:=q2n _ o b c1 e1 f1 h1;exact ⟨c2,e2,f2,h2,s2.trans s1⟩) (fun _ hm=>Yf _ _ hm) q6
    have j:=Jt (w.alloc (.deferred (some []))) (.loop {state:=.ready,pending:=none,fn,tmps:=a.tmps,params:=k,assign,body,defers:=w.heap.size});rw [World.size_alloc] at j;have hB:=ad _ (w.heap.size + 1) {state:=.ready,pending:=none,fn,tmps:=a.tmps,params:=k,assign,body,defers:=w.heap.size} rfl rfl rfl rfl rfl rfl (af _) j;have hn:=an.new (.loop {state:=.ready,pending:=none,fn,tmps:=a.tmps,params:=k,assign,body,defers:=w.heap.size}) (.loop st.sl k.toList assign body .ready none) 0 (by rw [World.size_alloc];exact hB);have he:=Ext.new an (.loop {state:=.ready,pending:=none,fn,tmps:=a.tmps,params:=k,assign,body,defers:=w.heap.size}) (.loop st.sl k.toList assign body .ready none) 0;rw [World.size_alloc] at hn he;refine rest _ (w.heap.size + 1) _ _ [w.heap.size] (run_enterLoop_outer fn a.tmps k assign body) j rfl rfl hn ((Ext.alloc _).trans he (Nat.le_refl _)) rfl (qt4 h.nodup h.marks) ?_;intro D q;simp at q;subst q;exact ⟨by rw [Zw _ _ qf];exact Jt _ _,Nat.le_refl _⟩
  | some l0=>
    obtain ⟨r0,bp⟩:=bm l0 rfl
    have af : ∀ o,Yt (w.alloc o) Z (upd inj st.nx (some (w.heap.size,0))) (st.nx + 1) st.sl a.tmps:=fun o=>
      h.slots.mono (fun b hz=>Zw _ _ (h.heap.zs b hz)) (fun _ h=>h) (q2n w o) (fun _ hm=>Yf _ _ hm) q6
    have j:=Jt w (.loop {state:=.ready,pending:=none,fn,tmps:=a.tmps,params:=k,assign,body,defers:=r0.defers});have hB:=ad _ w.heap.size {state:=.ready,pending:=none,fn,tmps:=a.tmps,params:=k,assign,body,defers:=r0.defers} rfl rfl rfl rfl rfl rfl (af _) j;exact rest _ w.heap.size _ _ [] (run_enterLoop_inner bp fn a.tmps k assign body) j rfl rfl (h.heap.new _ _ 0 hB) (Ext.new h.heap _ _ 0) rfl (by simpa using h.nodup) qf
theorem qpd {f : FuncId} {fn : Func} {c : Code} {g : List V} {hp : List (Nat × Blk)} {nx : Nat} {v : V} (hT : Z4 P T) (r : P.funcs[f]? = some fn) (hb : fn.body = some c) (a : (fn.name == "runtime.NumGoroutine") = false) (m : codeOk fn.ntmps c = true) (u : g.length ≤ fn.ntmps)
    (hc : Y2 P nx c {sl:=Y9 0 g,hp:=hp,nx:=nx} ex st) (hx : ex = .nor∨ex = .ret) (d : resV T st fn.results.toList = some v) : Jm P f g hp nx v st.hp st.nx:=by
  refine ⟨fun args w=>?_,fun w Z inj xs h j=>?_⟩
  · unfold callFunc
    have o : ¬ fn.name = "runtime.NumGoroutine" := by simpa using a
    simp [r,o,hb]
  · refine callsIn_of_wp_marks r hb trivial ?_
    have k : (xs ++ Array.replicate (fn.ntmps - xs.size) undef).size = fn.ntmps:=by
      have:=j.1;simp;omega
    have y : RelS w Z inj {sl:=Y9 0 g,hp:=hp,nx:=nx} {tmps:=xs ++ Array.replicate (fn.ntmps - xs.size) undef,defers:=[]} []:=⟨qwe _ j,h,rfl,qf,qf⟩
    refine wpIn_mono (hc none w Z inj _ [] y (by show codeOk (xs ++ Array.replicate (fn.ntmps - xs.size) undef).size c = true;rw [k];exact m) (Nat.le_refl _) (fun l j=>by cases j)).1 ?_;rintro e a' w' ⟨rfl,Z',inj',n,b,g2,g3,s,t⟩
    have p:=qks (P:=P) (fn:=fn) (pin:=nx) (w0:=w) (Z0:=Z) (inj0:=inj) (hp0:=hp) hT d
      (R:=fun e w'=>∃ x Z' inj',e = .returned x∧RelH w' Z' inj' st.hp st.nx∧Ext w Z inj hp w' Z' inj' st.hp nx∧RelV w' Z' inj' st.nx v x∧nx≤st.nx)
      (fun x w' Z' inj' k1 k2 z=>⟨x,Z',inj',rfl,k1,k2,z,s⟩) n w' Z' inj' a' b.slots b.heap g2 b.nodup (fun D q=>⟨b.marks D q,(t D q).resolve_left qf⟩)
    rcases hx with rfl | rfl
    · show LeavesInM (Fw none) 0 P fn a'.tmps _ a'.defers .returning w';rw [b.defs];exact p
    · show LeavesInM (Fw none) 0 P fn a'.tmps _ a'.defers .returning w';rw [b.defs];exact p
end
theorem qpc {f : FuncId} {l : List V} {hp hp' hp1 : List (Nat × Blk)} {nx nx' nx1 : Nat} {v d : V} {ρ : Nat→Nat} {fz ph : List Nat} (h : Jm P f l hp nx v hp' nx') (m : Wk nx ρ fz ph {sl:=[(0,v)],hp:=hp',nx:=nx'} {sl:=[(0,d)],hp:=hp1,nx:=nx1}) : Jm P f l hp nx d hp1 nx1:=by
  refine ⟨h.1,fun w Z inj xs q r=>(h.2 w Z inj xs q r).mono ?_⟩;rintro e w' ⟨x,Z',inj',rfl,j,n,p,s⟩
  have a : RelS w' Z' inj' {sl:=[(0,v)],hp:=hp',nx:=nx'} {tmps:=#[x],defers:=[]} []:=by
    refine ⟨fun t u c=>?_,j,rfl,List.nodup_nil,qf⟩;rw [Kw] at c;split at c
    · rename_i e;subst e;cases c;exact ⟨x,rfl,p⟩
    · simp [find] at c
  obtain ⟨b,g⟩:=q26 a m;obtain ⟨y,k,o⟩:=b.slots 0 d (by simp [find]);simp at k;subst k;exact ⟨x,_,_,rfl,b.heap,n.trans g (Nat.le_refl _),o,m.bs⟩
theorem qpe (y : Z4 P T) (hm : P.follows .mixedOrders = true) {f : FuncId} {u : List V} {hp : List (Nat × Blk)} {nx : Nat} {v : V} {hp' : List (Nat × Blk)} {nx' : Nat} (h : K9 P T f u hp nx v hp' nx') : Jm P f u hp nx v hp' nx':=by
  refine K9.rec (motive_1:=fun base c st ex st' _=>Y2 P base c st ex st') (motive_2:=fun base ops dr l st st' _=>q15 P base ops dr l st st') (motive_3:=fun f u hp nx v hp' nx' _=>Jm P f u hp nx v hp' nx')
    ?_ ?_ ?_ ?_ ?_ ?_ ?_ ?_ ?_ ?_ ?_ ?_ ?_ ?_ ?_ ?_ ?_ ?_ ?_ ?_ ?_ ?_ ?_ ?_ ?_ ?_ h
  · exact qpy
  · exact fun _ _ a d=>qpw a d
  · exact fun _ q a=>qpx a q
  · exact fun k _ a=>qpo k a
  · exact fun k _ a=>qpn k a
  · exact fun _ a=>qpm a
  · exact qpp
  · exact qpv
  · exact fun _ _ a d=>qpq a d
  · exact fun _ q a=>qpr a q
  · exact fun _ a=>qpt a
  · exact fun _ hd a=>qpu hm a hd
  · exact fun r _ a=>qpz r a
  · exact fun b _ o ag aa a=>qps b a o ag aa
  · exact fun {_ _ dr _}=>by cases dr <;> exact .nil
  · exact fun b _ a=>qpk b a
  · exact fun b j o _ a=>qpi y b j o a
  · exact fun b j _ hn hh o hF _ a=>qpj y b j hn hh o hF a
  · exact fun b j k z _ x ac hs hF _ a d=>qph b j k z a x ac hs hF d
  · exact fun b j k _ _ a d=>Zn.cons (q11v b j k a) d
  · exact fun b j k g ah _ ai hb _ a d=>Zn.cons (qrm b j k g ah a ai hb) d
  · exact fun b j p ae m t g _ ab _ w _ a d h3=>Zn.cons (qrp b j p ae m t g a ab d w) h3
  · exact fun r _ a=>Zn.wk r a
  · exact fun hp _ _ a d=>Jn.piv hp a d
  · exact fun o hb n af m _ q s a=>qpd y o hb n af m a q s
  · exact fun _ r a=>qpc a r
end Go.Am
namespace Go.Am
open Go
open Go.ChangeShapes Go.WideShapes Go.ChangeAt Go.RowKit Go.Deep
inductive CT where
  | int (k : IntKind)
  | bool
  | str
  | sl (l : List CT)
def qbi (P : Program) (f : TypeId→Option (List CT)) : Nat→List Field→Option (List CT)
  | _,[]=>some []
  | o,x::r=>match f x.type with
    | some a=>if x.offset = o∧P.cellsOf x.type = a.length then
        match qbi P f (o + a.length) r with
        | some b=>some (a ++ b)
        | none=>none
      else none
    | none=>none
def tyL (P : Program) : Nat→TypeId→Option (List CT)
  | 0,_=>none
  | f + 1,t=>match P.underlying t with
    | some .bool=>some [.bool]
    | some (.int k)=>some [.int k]
    | some .string=>some [.str]
    | some (.slice e)=>match tyL P f e with
      | some l=>if l.length = P.cellsOf e∧l.length≠0 then some [.sl l] else none
      | none=>none
    | some (.struct fs)=>match qbi P (tyL P f) 0 fs.toList with
      | some l=>if l.length = P.cellsOf t then some l else none
      | none=>none
    | _=>none
inductive Ty : CT→DV→Prop
  | int {k : IntKind} {n : Int} : (Lit.int k n).wf = true→Ty (.int k) (.int k n)
  | bool (b : Bool) : Ty .bool (.bool b)
  | str {s : ByteArray} : s.size≤maxLen→Ty .str (.str s)
  | nil (l : List CT) : Ty (.sl l) .nilsl
  | sl {l : List CT} {xs : List (List DV)} : xs.length≤maxLen→(∀ (i : Nat) (x : List DV),xs[i]? = some x→x.length = l.length)→
      (∀ (i : Nat) (x : List DV) (j : Nat) (c : CT) (d : DV),xs[i]? = some x→l[j]? = some c→x[j]? = some d→Ty c d)→Ty (.sl l) (.sl l.length xs)
section
variable {H : Type} {enc : TypeId × Value→H} {P : Program} {w : World} {base : Nat} {held : Bool}
def ZC (w : World) (b : Nat) : Prop:=∃ c e f,w.heap[b]? = some (.cells c e f)
theorem Ty.cell {c : CT} {d : DV} (h : Ty c d) : Yg d = true:=by cases h <;> rfl
def Reads (w : World) (l : List CT) (cs : List Value) : Prop:=
  cs.length = l.length∧∃ ds : List DV,ds.length = l.length∧∀ (j : Nat) (c : CT) (v : Value),l[j]? = some c→cs[j]? = some v→∃ d,ds[j]? = some d∧Ty c d∧RelD w (ZC w) d v
theorem q6g {c : CT} {v : Value} {d : DV} (g : Ty c d) (f : RelD w (ZC w) d v) : Reads w [c] [v]:=by
  refine ⟨rfl,[d],rfl,fun j h k a b=>?_⟩
  cases j with
  | zero=>simp at a b;subst a b;exact ⟨d,rfl,g,f⟩
  | succ j=>simp at a
theorem qvv {l l' : List CT} {cs a : List Value} (h : Reads w l cs) (t : Reads w l' a) : Reads w (l ++ l') (cs ++ a):=by
  obtain ⟨o,ds,n,q⟩:=h;obtain ⟨b1,k,p,s⟩:=t;refine ⟨by simp [o,b1],ds ++ k,by simp [n,p],fun j c v b f=>?_⟩;by_cases r : j < l.length
  · rw [List.getElem?_append_left r] at b;rw [List.getElem?_append_left q6] at f;obtain ⟨d,m,g⟩:=q j c v b f;exact ⟨d,by rw [List.getElem?_append_left q6];exact m,g⟩
  · rw [List.getElem?_append_right q6] at b;rw [List.getElem?_append_right q6,o] at f;obtain ⟨d,m,g⟩:=s _ c v b f;exact ⟨d,by rw [List.getElem?_append_right q6,n];exact m,g⟩
theorem qoc {f : TypeId→Option (List CT)} {g : Field→List Value→Prop} (d : ∀ (x : Field) (l : List CT) (cs : List Value),f x.type = some l→g x cs→Reads w l cs) :
    ∀ (c : List Field) (o : Nat) (l : List CT) (cs : List Value),qbi P f o c = some l→o + l.length = cs.length→(∀ x∈c,g x ((cs.drop x.offset).take (P.cellsOf x.type)))→Reads w l (cs.drop o)
  | [],o,l,cs,h,hl,_=>by
    simp [qbi] at h;subst h
    simp at hl
    rw [hl]
    exact ⟨qf,[],rfl,qf⟩
  | x::r,o,l,cs,h,hl,hx=>by
    simp only [qbi] at h
    split at h <;> try simp at h
    rename_i a k
    obtain ⟨⟨n,q⟩,h⟩:=h
    split at h <;> simp at h
    rename_i b hb
    subst h
    have j:=d x a _ k (hx x qf)
    rw [n,q] at j
    have m:=qoc d r (o + a.length) b cs hb (by simp at hl;omega) (fun y p=>hx y (by simp [p]))
    have:=qvv j m
    rw [← List.drop_drop] at this
    rwa [List.take_append_drop] at this
theorem qe0 : ∀ (f : Nat) (t : TypeId) (l : List CT) (fuel : Nat) (cs : List Value) (x : DataW H × List MemPlace),tyL P f t = some l→DataW.trod enc P w base (fun _=>true) held fuel t cs = some x→Reads w l cs
  | 0,t,l,fuel,cs,x,hl,h=>by simp [tyL] at hl
  | f + 1,t,l,fuel,cs,x,hl,h=>by
    simp only [tyL] at hl
    split at hl <;> try simp at hl
    · rename_i ht
      subst hl
      cases fuel with
      | zero=>simp [DataW.trod] at h
      | succ n=>
        unfold DataW.trod at h
        rw [ht] at h
        split at h <;> simp_all
        exact q6g (.bool _) (.bool _)
    · rename_i k ht
      subst hl
      obtain ⟨n,rfl,_,hw⟩:=DataW.trod_int ht h
      exact q6g (.int hw) (.int _ _)
    · rename_i ht
      subst hl
      cases fuel with
      | zero=>simp [DataW.trod] at h
      | succ n=>
        unfold DataW.trod at h
        rw [ht] at h
        split at h <;> simp_all
        exact q6g (.str q6) (.str _)
    · rename_i e ht
      split at hl <;> simp at hl
      rename_i le an
      obtain ⟨⟨u,ao⟩,rfl⟩:=hl
      rcases open_slice ht h with ⟨rfl,_⟩ | ⟨a,len,cap,m,n,D,Pl,rfl,_,am,bb,hm,_,aq⟩
      · exact q6g (.nil _) .nilsl
      · obtain rfl : cap = m:=by simpa using hm.symm
        have elem : ∀ i,i < cap→∃ p,w.cells? base (a.add (i * P.cellsOf e)) (P.cellsOf e) = some p∧Reads w le p:=by
          intro i hi;obtain ⟨p,h1,h2⟩:=aq i hi;exact ⟨p,h1,qe0 f e le n p _ an h2⟩
        have ba : 0 < P.cellsOf e:=by rw [← u];exact List.length_pos_iff.2 ao
        by_cases ap : cap = 0
        · subst ap
          have : len = 0:=by omega
          subst this
          exact q6g (.sl (xs:=[]) qf qf qf) (.slemp _ _)
        · have ad : a.spot = none∧ZC w a.block:=by
            obtain ⟨p,h1,_⟩:=elem 0 q6;obtain ⟨_,h2,h3⟩:=World.cells?_some h1;have:=h3 0 q6;obtain ⟨v,hv⟩:=Zq (xs:=p) (i:=0) q6;rw [hv] at this;simp [World.cell?,Addr.add] at this;split at this <;> try simp at this
            rename_i c e' f' hc;exact ⟨this.1,c,e',f',hc⟩
          obtain ⟨b,o,sp⟩:=a
          obtain ⟨ak,hz⟩:=ad
          simp only at ak hz;subst ak
          have ag : ∀ i,i < len→∃ ds : List DV,ds.length = le.length∧∀ (j : Nat) (c : CT),le[j]? = some c→∃ d v,ds[j]? = some d∧Ty c d∧w.cell? ⟨b,o + (i * le.length + j),none⟩ = some v∧RelD w (ZC w) d v:=by
            intro i hi;obtain ⟨p,h1,h4,ds,h5,h6⟩:=elem i q6;obtain ⟨_,h2,h3⟩:=World.cells?_some h1;refine ⟨ds,h5,fun j c hj=>?_⟩;have bn:=Kg hj;obtain ⟨v,hv⟩:=Zq (xs:=p) (i:=j) q6;obtain ⟨d,z,g2,g3⟩:=h6 j c v hj hv;have:=h3 j q6;rw [hv,Js,Js,← u,Nat.add_assoc] at this;exact ⟨d,v,z,g2,this,g3⟩
          obtain ⟨F,hF⟩:=choose_lt ag
          have q : ∀ (i : Nat) (x : List DV),((List.range len).map F)[i]? = some x→i < len∧x = F i:=by
            intro i x s;simp only [List.getElem?_map,Y7] at s;obtain ⟨k,hk,rfl⟩:=s;have hi : i < len:=by simpa using Kg hk
            rw [List.getElem?_range hi] at hk;cases hk;exact ⟨hi,rfl⟩
          have r : ((List.range len).map F).length = len:=by simp
          have ab : RelD w (ZC w) (.sl le.length ((List.range len).map F)) (.slice (some ⟨b,o,none⟩) ((List.range len).map F).length cap):=by
            refine .sl (by rw [r];exact am) (fun _=>hz) ?_ ?_ ?_
            · intro i x s;obtain ⟨hi,rfl⟩:=q i x s;exact (hF i hi).1
            · intro i x j d s hd;obtain ⟨hi,rfl⟩:=q i x s;obtain ⟨c,hc⟩:=Zq (xs:=le) (i:=j) (by rw [← (hF i hi).1];exact Kg hd);obtain ⟨d',v,z,g2,g3,g4⟩:=(hF i hi).2 j c hc;rw [hd] at z;cases z;exact ⟨g2.cell,v,g3⟩
            · intro i x j d v s hd hv;obtain ⟨hi,rfl⟩:=q i x s;obtain ⟨c,hc⟩:=Zq (xs:=le) (i:=j) (by rw [← (hF i hi).1];exact Kg hd);obtain ⟨d',v',z,g2,g3,g4⟩:=(hF i hi).2 j c hc;rw [hd] at z;cases z;rw [hv] at g3;cases g3;exact g4
          rw [r] at ab
          refine q6g (.sl (by rw [r];omega) ?_ ?_) ab
          · intro i x s
            obtain ⟨hi,rfl⟩:=q i x s
            exact (hF i hi).1
          · intro i x j c d s hc hd
            obtain ⟨hi,rfl⟩:=q i x s
            obtain ⟨d',v,z,g2,_⟩:=(hF i hi).2 j c hc
            rw [hd] at z;cases z
            exact g2
    · rename_i fs ht
      split at hl <;> simp at hl
      rename_i l' au
      obtain ⟨u,rfl⟩:=hl
      obtain ⟨xs,n,_,_,bj,bk,hf⟩:=DataW.trod_struct ht h
      have:=qoc (P:=P) (w:=w) (f:=tyL P f) (g:=fun x cs=>∃ y,DataW.trod enc P w base (fun _=>true) held n x.type cs = some y) (fun x l cs h1 ⟨y,h2⟩=>qe0 f x.type l n cs y h1 h2) fs.toList 0 l' cs au q6 ?_
      · simpa using this
      · intro x s
        obtain ⟨i,hi⟩:=List.getElem?_of_mem s
        have:=hf i x (by simpa using hi)
        obtain ⟨y,hy⟩:=Zq (xs:=xs) (i:=i) (by have:=Kg hi;simp at this;omega)
        exact ⟨y,by rw [this];exact hy⟩
end
end Go.Am
namespace Go.Am
open Go
open Go.ChangeShapes Go.WideShapes Go.ChangeAt Go.RowKit Go.Deep
theorem q12f {P : Program} {l : List (Nat × TI)} (h : l.map (fun x=>tiOf P x.1) = l.map (fun x=>some x.2)) : Z4 P (qo8 l):=by
  intro t i c;have a:=Zz (show find l t = some i from c);obtain ⟨k,b⟩:=List.getElem?_of_mem a;have:=congrArg (fun r=>r[k]?) h;simp only [List.getElem?_map,b,Option.map_some] at this;exact qe6 this
def aggT (P : Program) (t : TypeId) : Bool:=match P.underlying t with
  | some (.struct _) | some (.array _ _)=>true
  | _=>false
inductive Jl : List (Bool × List CT)→List DV→Prop
  | nil : Jl [] []
  | one {c : CT} {d : DV} {ps : List (Bool × List CT)} {ds : List DV} : Ty c d→Jl ps ds→Jl ((false,[c])::ps) (d::ds)
  | agg {l : List CT} {xs : List DV} {ps : List (Bool × List CT)} {ds : List DV} : xs.length = l.length→(∀ (j : Nat) (c : CT) (d : DV),l[j]? = some c→xs[j]? = some d→Ty c d)→Jl ps ds→Jl ((true,l)::ps) (.agg xs::ds)
section
variable {H : Type} {enc : TypeId × Value→H} {P : Program} {T : Tab} {W : World} {base : Nat}
theorem qp1 {t : TypeId} {f : Nat} {l : List CT} {v : Value} {d : DataW H} {p : List MemPlace} (y : aggT P t = false) (o : tyL P f t = some l) (g : Value.okWide P W .any base t v) (h : DataW.Trod enc P W 0 (fun _=>true) true t v d p) :
    ∃ c x,l = [c]∧Ty c x∧RelD W (ZC W) x v:=by
  obtain ⟨fuel,hf⟩:=h;have m:=qe0 f t l fuel _ _ o hf
  have key : v.cells = #[v]→∃ c,l = [c]→∃ x,Ty c x∧RelD W (ZC W) x v:=by
    intro w;rw [w] at m;obtain ⟨z,ds,h2,r⟩:=m
    match l,z with
    | [c],_=>
      obtain ⟨x,_,u,q⟩:=r 0 c v rfl rfl;exact ⟨c,fun _=>⟨x,u,q⟩⟩
  have fin : v.cells = #[v]→∃ c x,l = [c]∧Ty c x∧RelD W (ZC W) x v:=by
    intro w;have j:=m.1;rw [w] at j m
    match l,j,m with
    | [c],_,m=>
      obtain ⟨_,ds,h2,r⟩:=m;obtain ⟨x,_,u,q⟩:=r 0 c v rfl rfl;exact ⟨c,x,rfl,u,q⟩
  cases f with
  | zero=>simp [tyL] at o
  | succ f=>
    simp only [tyL] at o;split at o <;> try simp at o
    · rename_i a;obtain ⟨b,rfl⟩:=okWide_bool a g;exact fin rfl
    · rename_i k a;obtain ⟨n,rfl⟩:=okWide_int a g;exact fin rfl
    · rename_i a;obtain ⟨s,rfl⟩:=okWide_string a g;exact fin rfl
    · rename_i e a;obtain ⟨a0,len,cap,rfl⟩:=okWide_slice a g;exact fin rfl
    · rename_i fs a;simp [aggT,a] at y
theorem qp0 {t : TypeId} {f : Nat} {l : List CT} {v : Value} {d : DataW H} {p : List MemPlace} (b : aggT P t = true) (w : tyL P f t = some l) (a : Value.okWide P W .any base t v) (h : DataW.Trod enc P W 0 (fun _=>true) true t v d p) :
    ∃ xs : List DV,xs.length = l.length∧(∀ (j : Nat) (c : CT) (d : DV),l[j]? = some c→xs[j]? = some d→Ty c d)∧RelD W (ZC W) (.agg xs) v:=by
  obtain ⟨fuel,y⟩:=h
  have r : ∃ cs,v = .agg cs:=by
    unfold aggT at b;unfold Value.okWide at a;split at b
    · rename_i n;simp only [n] at a;obtain ⟨cs,h,_⟩:=a;exact ⟨cs,h⟩
    · rename_i n;simp only [n] at a;obtain ⟨cs,h,_⟩:=a;exact ⟨cs,h⟩
    · simp at b
  obtain ⟨cs,rfl⟩:=r;obtain ⟨o,ds,s,m⟩:=qe0 f t l fuel _ _ w y;simp only [Value.cells] at o m;refine ⟨ds,s,fun j c d k hd=>?_,.agg (by simpa [s] using o.symm) fun j d c hd k=>?_⟩
  · obtain ⟨v,r⟩:=Zq (xs:=cs.toList) (i:=j) (by rw [o];exact Kg k);obtain ⟨x,g,u,_⟩:=m j c v k r;rw [hd] at g;cases g;exact u
  · obtain ⟨ct,q⟩:=Zq (xs:=l) (i:=j) (by rw [← s];exact Kg hd);obtain ⟨x,g,_,z⟩:=m j ct c q (by simpa using k);rw [hd] at g;cases g;exact z
theorem qi3 {f : Nat} : ∀ (n : List TypeId) (a : List (Bool × List CT)) (m : List Value) (ds : List (DataW H)) (p : List MemPlace),n.map (fun t=>(aggT P t,tyL P f t)) = a.map (fun x=>(x.1,some x.2))→
    (∀ (j : Nat) t v,n[j]? = some t→m[j]? = some v→Value.okWide P W .any base t v)→DataW.TrodAll enc P W 0 (fun _=>true) true n m ds p→
    ∃ xs : List DV,Jl a xs∧xs.length = m.length∧∀ (j : Nat) (x : DV) (v : Value),xs[j]? = some x→m[j]? = some v→RelD W (ZC W) x v
  | [],a,m,ds,p,hp,hok,h=>by
    obtain ⟨rfl,rfl,rfl⟩:=trodAll_nil h
    cases a with
    | nil=>exact ⟨[],.nil,rfl,qf⟩
    | cons _ _=>simp at hp
  | t::n,a,m,ds,p,hp,hok,h=>by
    obtain ⟨v,r,d,z,q,q',rfl,rfl,rfl,h1,h2⟩:=trodAll_cons h
    cases a with
    | nil=>simp at hp
    | cons pr a=>
      obtain ⟨ag,l⟩:=pr
      simp only [List.map_cons,List.cons.injEq,Prod.mk.injEq] at hp
      obtain ⟨⟨o,hl⟩,hp⟩:=hp
      obtain ⟨xs,g1,g2,g3⟩:=qi3 n a r z q' hp (fun j t v ht hv=>hok (j + 1) t v (by simpa using ht) (by simpa using hv)) h2
      have b:=hok 0 t v rfl rfl
      cases ag with
      | false=>
        obtain ⟨c,x,rfl,w,s⟩:=qp1 o hl b h1
        refine ⟨x::xs,.one w g1,by simp [g2],fun j y u g k=>?_⟩
        cases j with
        | zero=>simp at g k;subst g k;exact s
        | succ j=>exact g3 j y u (by simpa using g) (by simpa using k)
      | true=>
        obtain ⟨zs,k0,w,s⟩:=qp0 o hl b h1
        refine ⟨.agg zs::xs,.agg k0 w g1,by simp [g2],fun j y u g k=>?_⟩
        cases j with
        | zero=>simp at g k;subst g k;exact s
        | succ j=>exact g3 j y u (by simpa using g) (by simpa using k)
theorem q12u {F : FuncId} {m : Array Value} {xs : List DV} (hT : Z4 P T) (u : P.follows .mixedOrders = true) (hp : Pure P T F xs (.bool true)) (hl : xs.length = m.size) (hr : ∀ (j : Nat) (x : DV) (v : Value),xs[j]? = some x→m[j]? = some v→RelD W (ZC W) x v) :
    Calls P F m W fun e g=>e = .returned (.bool true)∧Grown W g∧Below W.heap.size W g:=by
  obtain ⟨v,hp',nx',r',he,p,r⟩:=hp;have hg:=qpe hT u he
  have h0 : RelH W (ZC W) (fun _=>none) [] 0:=⟨fun _ _ h=>by simp [find] at h,fun _ _ _ _ _ _ h=>by simp [find] at h,fun _ _ _ h=>by simp [find] at h,
    fun b ⟨c,e,f,h⟩=>J6 h,fun b h=>h⟩
  have t:=hg.2 W (ZC W) (fun _=>none) m h0 ⟨by simpa using hl,fun j x v s q=>by
    simp only [List.getElem?_map,Y7] at s;obtain ⟨y,w,rfl⟩:=s
    exact .d (hr j y v w q)⟩
  refine (callsIn_wide (n:=0).1 t).mono ?_;rintro e g ⟨x,Z',inj',rfl,hh,a,q,hn⟩;have z:=(qbj hh 8 p q).le r;cases z;have l : ∀ k,k < W.heap.size→g.heap[k]? = W.heap[k]?:=fun k l=>a.keep k l (by rintro ⟨n,blk,o,h1,_⟩;simp [find] at h1);refine ⟨rfl,⟨⟨a.os,a.output,fun i hi=>?_⟩,a.frz,a.size⟩,⟨a.os,a.tape,a.output,a.size,l⟩⟩;rw [l i hi]
  cases hw : W.heap[i]? with
  | none=>simp
  | some o=>cases o <;> simp
theorem qi4 (a : laidOutB P = true) {l : World} {k : Nat→Bool} : ∀ (b : List TypeId) (f : List Value) (ds : List (DataW H)) (p : List MemPlace),(∀ t∈b,P.readableRec t = true∧t < P.types.size)→DataW.TrodAll enc P W 0 (fun _=>true) true b f ds p→
    Below W.heap.size W l→(∀ x∈p,x.block < W.heap.size∧k x.block = true)→DataW.TrodAll enc P l 0 k true b f ds p
  | [],f,ds,p,_,h,_,_=>by obtain ⟨rfl,rfl,rfl⟩:=trodAll_nil h;exact trodAll_mk0
  | t::b,f,ds,p,ht,h,hb,hp=>by
    obtain ⟨v,g,d,j,q,q',rfl,rfl,rfl,m,o⟩:=trodAll_cons h
    refine trodAll_cons_mk (WideElems.Trod_stays a (ht t qf).1 (ht t qf).2 m (fun x c=>hb.same (hp x (by simp [c])).1) (fun x c=>(hp x (by simp [c])).2))
      (qi4 a b g j q' (fun u n=>ht u (by simp [n])) o hb (fun x c=>hp x (by simp [c])))
theorem contract {f : Func} {F : FuncId} {s : ChangeSpec} {tb : TypeId} {fuel : Nat} {ps : List (Bool × List CT)} (hT : Z4 P T) (hm : P.follows .mixedOrders = true) (w : laidOutB P = true)
    (a : s.vars = []) (c : f.resultTypes = #[tb]) (z : P.underlying tb = some .bool) (m : ∀ t∈f.params.toList,P.readableRec t = true∧t < P.types.size)
    (ah : f.params.toList.map (fun t=>(aggT P t,tyL P fuel t)) = ps.map (fun x=>(x.1,some x.2)))
    (hs : ∀ ds : List (DataW H),ds.length = f.params.size→s.fn H ds = {results:=[.lit (.bool true)],args:=ds})
    (g : ∀ xs,Jl ps xs→Pure P T F xs (.bool true))
    {args : Array Value} {ds gs : List (DataW H)} {before : List MemPlace} (n : ∀ (j : Nat) t v,f.params[j]? = some t→args[j]? = some v→Value.okWide P W .any base t v)
    (hW : DataW.Whole enc P f.params.toList s.vars false W args.toList ds gs before) :
    Calls P F args W fun e W'=>∃ v,e = .returned v∧s.post enc P f false true false false W args v W':=by
  have k:=hW;obtain ⟨p,q,hA,hV,rfl,ao,ar⟩:=hW;rw [a] at hV;obtain ⟨rfl,rfl⟩:=trodVars_none hV;have y:=k.lt;simp only [List.append_nil] at k y;obtain ⟨xs,g1,g2,g3⟩:=qi3 (base:=base) f.params.toList ps args.toList ds p ah (fun j t v ht hv=>n j t v (by simpa using ht) (by simpa using hv)) hA;refine (q12u hT hm (g xs g1) (by simpa using g2) (fun j x v hx hv=>g3 j x v hx (by simpa using hv))).mono ?_;rintro e W' ⟨rfl,hg,hb⟩
  have o : ds.length = f.params.size:=by
    have : ∀ (r : List TypeId) (vs : List Value) (ds : List (DataW H)) (p : List MemPlace),DataW.TrodAll enc P W 0 (fun _=>true) true r vs ds p→ds.length = r.length:=by
      intro r
      induction r with
      | nil=>intro vs ds p h;obtain ⟨_,rfl,_⟩:=trodAll_nil h;rfl
      | cons t r ih=>intro vs ds p h;obtain ⟨v,au,d,ax,q,q',rfl,rfl,rfl,_,h2⟩:=trodAll_cons h;simp [ih _ _ _ h2]
    simpa using this _ _ _ _ hA
  have l:=hs (ds ++ []) (by simpa using o);refine ⟨_,rfl,post_of_same (pa:=p) (pv:=[]) k ?_ ?_ ?_ qf (hg.frame _) hg.2.1 (ok_one c rfl (okWide_bool_mk z _))⟩
  · intro b sp hd;rw [c,l];exact trodAll_cons_mk (shut_bool z _) trodAll_mk0
  · intro sp u;rw [l];show DataW.TrodAll enc P W' 0 sp true f.params.toList args.toList (ds ++ []) p;rw [List.append_nil];exact qi4 w _ _ _ _ m hA hb fun x hx=>⟨y x hx,u x hx⟩
  · intro sp u;rw [l,a];rfl
end
end Go.Am
namespace Go.Am
open Go
variable {P : Program} {T : Tab}
section
variable {base : Nat} {ops : Array Oper} {dr : Dr} {l : List Oper} {sl sl1 : List (Nat × V)} {hp hp1 : List (Nat × Blk)} {nx nx1 : Nat} {K : AS→Prop} {ty : TypeId} {pos : String} {af : Array Edge} {t : Tmp} {g : Option (Nat × Bool)} {v : V}
theorem qrh {st : AS} {op : Op} (h : touch op = 0) : fp st op = (some [],[]):=by
  unfold touch at h;split at h <;> first | rfl | (simp at h;done) | (exact absurd h Q2)
theorem qt6 {dr : Dr} {k : Nat} {st st1 : AS} {t : TypeId} {p : Operand} (h : okF dr k (fp st (.load t p)) = true) : okO dr k st (.load t p) st1 = true:=by
  cases dr with
  | none=>rfl
  | some F=>simp only [okF] at h;simp only [okO,h,Bool.true_and,q3g,touch]
theorem qle {dr : Dr} {k n es : Nat} {st st1 : AS} {op : Op} {xs : List (List DV)} {r : List (Nat × Blk)} (a : st1.hp = (n,.dat es xs)::r) (h : okF dr k (fp st op) = true) : okO dr k st op st1 = true:=by
  cases dr with
  | none=>rfl
  | some F=>
    simp only [okF] at h;simp only [okO,h,Bool.true_and,q3g,a];split <;> rfl
theorem Jd {dr : Dr} {k : Nat} {st st1 : AS} {op : Op} (h : touch op = 0) : okO dr k st op st1 = true:=by
  cases dr with
  | none=>rfl
  | some F=>simp only [okO,qrh h,qjt,Bool.true_and,q3g,h]
theorem fin {ex : Ex} {st : AS} {b : List ResultVar} {v : V} {r a : DV} (f : ex = .nor∨ex = .ret) (c : resV T st b = some v) (g : toD st.hp 8 v = some a) (d : a = r) : (ex = .nor∨ex = .ret)∧∃ v a,resV T st b = some v∧toD st.hp 8 v = some a∧DLe a r:=
  ⟨f,v,a,c,g,d ▸ .refl _⟩
theorem qtb {x y : Operand} {a : TypeId} {i : TI} {k : IntKind} {n : Int} {m es off len : Nat} (j : Qx ops ⟨sl,hp,nx⟩ ⟨some t,.indexAddr a x y,ty,pos,af,g⟩ = some true) (f : T a = some i)
    (o : AS.ev ⟨sl,hp,nx⟩ x = some (.hs m es off len)) (q : AS.ev ⟨sl,hp,nx⟩ y = some (.d (.int k n))) (p : i.kind = .slice) (b : es = i.esize) (c : 0≤n) (hi : n < len)
    (h : OpsK P T base ops dr l ⟨(t,.ref m es (off + n.toNat) 0)::sl,hp,nx⟩ K) : OpsK P T base ops dr (⟨some t,.indexAddr a x y,ty,pos,af,g⟩::l) ⟨sl,hp,nx⟩ K:=
  Ye j (v:=.ref m es (off + n.toNat) 0) (st1:=⟨sl,hp,nx⟩) (by simp [opFn,o,q,f,q3m,p,b,c,hi]) h (Jd rfl)
theorem qlg {p : Operand} {b : TypeId} {i : TI} {m es a j : Nat} {xs : List (List DV)} {cs r : List DV} {w : V} (n : Qx ops ⟨sl,hp,nx⟩ ⟨some t,.load b p,ty,pos,af,g⟩ = some true) (k : T b = some i)
    (o : AS.ev ⟨sl,hp,nx⟩ p = some (.ref m es a j)) (hb : find hp m = some (.dat es xs)) (hi : xs[a]? = some cs) (hs : sub cs j i.size = some r) (f : (q1s i.agg r).map .d = some w)
    (h : OpsK P T base ops dr l ⟨(t,w)::sl,hp,nx⟩ K) (c : okF dr l.length (fp ⟨sl,hp,nx⟩ (.load b p)) = true:=by rfl) : OpsK P T base ops dr (⟨some t,.load b p,ty,pos,af,g⟩::l) ⟨sl,hp,nx⟩ K:=
  Ye n (v:=w) (st1:=⟨sl,hp,nx⟩) (by simp only [opFn,o,k,Jy,AS.blk,hb,Nat.beq_refl,hi,hs,f,Option.map_some]) h (qt6 c)
end
end Go.Am
namespace Go.Am
open Go
variable {P : Program} {T : Tab}
section
variable {base : Nat} {ops : Array Oper} {dr : Dr} {l : List Oper} {sl : List (Nat × V)} {hp : List (Nat × Blk)} {nx : Nat} {K : AS→Prop} {ty : TypeId} {pos : String} {af : Array Edge} {t : Tmp} {g : Option (Nat × Bool)} {v : V}
theorem Qz {a : TypeId} {i : TI} (c : Qx ops ⟨sl,hp,nx⟩ ⟨some t,.alloc a,ty,pos,af,g⟩ = some true) (d : T a = some i)
    (h : OpsK P T base ops dr l ⟨(t,.ref nx i.size 0 0)::sl,(nx,.dat i.size [i.zero])::hp,nx + 1⟩ K) (b : okF dr l.length (fp ⟨sl,hp,nx⟩ (.alloc a)) = true:=by rfl) : OpsK P T base ops dr (⟨some t,.alloc a,ty,pos,af,g⟩::l) ⟨sl,hp,nx⟩ K:=
  Ye c (v:=.ref nx i.size 0 0) (st1:=⟨sl,(nx,.dat i.size [i.zero])::hp,nx + 1⟩) (by simp only [opFn,d,Option.map_some];rfl) h (qle rfl b)
theorem qt7 {x y : Operand} {a b : TypeId} {i j : TI} {n es len : Nat} {xs ys : List (List DV)} {f : V} (r : Qx ops ⟨sl,hp,nx⟩ ⟨some t,.call {callee:=.builtin .append,args:=#[x,y],argTypes:=#[a,b]},ty,pos,af,g⟩ = some true)
    (q : T a = some i) (c : T b = some j) (s : AS.ev ⟨sl,hp,nx⟩ x = some (.hs n es 0 len)) (z : AS.ev ⟨sl,hp,nx⟩ y = some f) (hb : find hp n = some (.dat es xs)) (hl : len = xs.length) (p : Yx ⟨sl,hp,nx⟩ f = some ys)
    (w : i.kind = .slice) (d : j.kind = .slice) (m : es = i.esize) (u : Zy i.esize f = true) (o : (len + ys.length) * (i.ebytes * 4)≤4294967296)
    (h : OpsK P T base ops dr l ⟨(t,.hs nx es 0 (len + ys.length))::sl,(nx,.dat es (xs ++ ys))::repl hp n .dead,nx + 1⟩ K) (k : okF dr l.length (fp ⟨sl,hp,nx⟩ (.call {callee:=.builtin .append,args:=#[x,y],argTypes:=#[a,b]})) = true:=by rfl) : OpsK P T base ops dr (⟨some t,.call {callee:=.builtin .append,args:=#[x,y],argTypes:=#[a,b]},ty,pos,af,g⟩::l) ⟨sl,hp,nx⟩ K:=by
  refine Ye r (v:=.hs nx es 0 (len + ys.length)) (st1:=⟨sl,(nx,.dat es (xs ++ ys))::repl hp n .dead,nx + 1⟩) ?_ h (qle rfl k);subst hl;have e : ((xs.drop 0).take xs.length ++ ys) = xs ++ ys:=by simp
  simp only [opFn,evL,s,z,Ya];simp only [List.getElem?_toArray,List.getElem?_cons_zero,List.getElem?_cons_succ,q,c];rw [qq ⟨w,d,u⟩];simp only [Z5,AS.blk,hb,p];rw [qq ⟨q6,trivial,o,m⟩,e];rfl
theorem qgh {x : Operand} (b : Qx ops ⟨sl,hp,nx⟩ ⟨some t,.move x,ty,pos,af,g⟩ = some true) (a : AS.ev ⟨sl,hp,nx⟩ x = some v)
    (h : OpsK P T base ops dr l ⟨(t,v)::sl,hp,nx⟩ K) : OpsK P T base ops dr (⟨some t,.move x,ty,pos,af,g⟩::l) ⟨sl,hp,nx⟩ K:=
  Ye b (v:=v) (st1:=⟨sl,hp,nx⟩) (by simp only [opFn,a,Option.map_some]) h (Jd rfl)
theorem qt8 {x : Operand} (b : Qx ops ⟨sl,hp,nx⟩ ⟨some t,.assign x,ty,pos,af,g⟩ = some true) (a : AS.ev ⟨sl,hp,nx⟩ x = some v)
    (h : OpsK P T base ops dr l ⟨(t,v)::sl,hp,nx⟩ K) : OpsK P T base ops dr (⟨some t,.assign x,ty,pos,af,g⟩::l) ⟨sl,hp,nx⟩ K:=
  Ye b (v:=v) (st1:=⟨sl,hp,nx⟩) (by simp only [opFn,a,Option.map_some]) h (Jd rfl)
theorem qd {op : Op} {j : Nat} {w : Bool} (a : Qx ops ⟨sl,hp,nx⟩ ⟨some t,op,ty,pos,af,some (j,w)⟩ = some false) (h : OpsK P T base ops dr l ⟨(t,.d (.tup []))::sl,hp,nx⟩ K) : OpsK P T base ops dr (⟨some t,op,ty,pos,af,some (j,w)⟩::l) ⟨sl,hp,nx⟩ K:=
  qto a h
theorem qtg {x : Operand} {a : TypeId} {i : TI} {es : Nat} {xs : List (List DV)} {m : Nat} (c : Qx ops ⟨sl,hp,nx⟩ ⟨some t,.call {callee:=.builtin .len,args:=#[x],argTypes:=#[a]},ty,pos,af,g⟩ = some true) (k : T a = some i) (j : i.kind = .slice) (f : AS.ev ⟨sl,hp,nx⟩ x = some (.d (.sl es xs))) (b : xs.length = m)
    (h : OpsK P T base ops dr l ⟨(t,.d (.int .i64 m))::sl,hp,nx⟩ K) : OpsK P T base ops dr (⟨some t,.call {callee:=.builtin .len,args:=#[x],argTypes:=#[a]},ty,pos,af,g⟩::l) ⟨sl,hp,nx⟩ K:=by
  subst b;exact Ye c (v:=.d (.int .i64 xs.length)) (st1:=⟨sl,hp,nx⟩) (by simp only [opFn,evL,f,Ya];simp only [List.getElem?_toArray,List.getElem?_cons_zero,k,j]) h (Jd rfl)
end
end Go.Am
namespace Go.Am
open Go
def iter {α β : Type} (f : α→Option (α ⊕ β)) : Nat→α→Option β
  | 0,_=>none
  | n + 1,a=>match f a with
    | none=>none
    | some (.inl a')=>iter f n a'
    | some (.inr b)=>some b
theorem qfs {α β : Type} {f : α→Option (α ⊕ β)} : ∀ {n : Nat} {a : α} {b : β},iter f n a = some b→∀ m,n≤m→iter f m a = some b
  | 0,_,_,h,_,_=>by simp [iter] at h
  | n + 1,a,b,h,m,hm=>by
    obtain ⟨k,rfl⟩ : ∃ k,m = k + 1:=⟨m - 1,q6⟩
    simp only [iter] at h ⊢
    split at h
    · simp at h
    · rename_i a' c;exact qfs h k q6
    · exact h
theorem qs4 {α β : Type} {f : α→Option (α ⊕ β)} {n m : Nat} {a : α} {b c : β} (h : iter f n a = some b) (d : iter f m a = some c) : b = c:=by
  have g:=qfs h (max n m) q6;have j:=qfs d (max n m) q6;grind
open Classical in
noncomputable def loop {α β : Type} (f : α→Option (α ⊕ β)) (a : α) : Option β:=
  if h : ∃ b n,iter f n a = some b then some h.choose else none
theorem q93 {α β : Type} {f : α→Option (α ⊕ β)} {a : α} {b : β} : loop f a = some b↔∃ n,iter f n a = some b:=by
  unfold loop;split
  · rename_i h;constructor
    · grind
    · rintro ⟨n,d⟩;obtain ⟨m,c⟩:=h.choose_spec;rw [qs4 c d]
  grind
theorem Y5 {α β : Type} {f : α→Option (α ⊕ β)} {a a' : α} (h : f a = some (.inl a')) : loop f a = loop f a':=by
  apply Option.ext;intro b;rw [q93,q93];constructor
  · rintro ⟨n,c⟩
    cases n with
    | zero=>simp [iter] at c
    | succ n=>simp only [iter,h] at c;exact ⟨n,c⟩
  · rintro ⟨n,c⟩;exact ⟨n + 1,by simp only [iter,h];exact c⟩
theorem Kj {α β : Type} {f : α→Option (α ⊕ β)} {a : α} {b : β} (h : f a = some (.inr b)) : loop f a = some b:=
  q93.2 ⟨1,by simp [iter,h]⟩
theorem qsl {α β : Type} {f : α→Option (α ⊕ β)} (I : α→Prop) (μ : α→Nat) (Q : β→Prop) (step : ∀ a,I a→(∃ a',f a = some (.inl a')∧I a'∧μ a' < μ a)∨∃ b,f a = some (.inr b)∧Q b) {a : α} (h : I a) : ∃ b,loop f a = some b∧Q b:=by
  generalize g : μ a = n
  induction n using Nat.strongRecOn generalizing a with
  | _ n ih=>
    rcases step a h with ⟨a',c,d,j⟩ | ⟨b,c,d⟩
    · rw [Y5 c];exact ih _ (g ▸ j) d rfl
    · exact ⟨b,Kj c,d⟩
def w64 (x : Int) : Int:=IntKind.i64.wrap x
theorem Qk {x : Int} (h : -9223372036854775808≤x∧x≤9223372036854775807) : w64 x = x:=qhn h
def idx {α : Type} (xs : List α) (i : Int) : Option α:=if 0≤i then xs[i.toNat]? else none
def app {α : Type} (c : Nat) (xs ys : List α) : Option (List α):=if (xs.length + ys.length) * (c * 4)≤4294967296 then some (xs ++ ys) else none
def sub2 (n : Nat) (a b : Int) : Option (Nat × Nat):=if 0≤a∧a≤b∧b≤n then some (a.toNat,b.toNat - a.toNat) else none
def cpyw {α : Type} (xs : List α) (w : Nat × Nat) (ys : List α) : List α:=splice xs w.1 (ys.take (min ys.length w.2))
theorem leb {n m : Nat} (h : Nat.ble n m = true) : n≤m:=by simpa using h
theorem qj5 {α : Type} {xs ys : List α} {w : Nat × Nat} (h : w.1 + w.2≤xs.length) : (cpyw xs w ys).length = xs.length:=by
  simp [cpyw,splice];omega
theorem ltd {n m : Nat} (h : Nat.blt n m = true) : n < m:=by simpa [Nat.blt_eq] using h
def eI (k : IntKind) (x : Int) : List DV:=[.int k x]
def eB (b : Bool) : List DV:=[.bool b]
theorem qcf {α : Type} {xs : List α} {i : Int} {v : α} (h : idx xs i = some v) : 0≤i∧xs[i.toNat]? = some v∧i.toNat < xs.length:=by
  unfold idx at h;grind
theorem q13a {α β : Type} {o : Option α} {f : α→Option β} {x : β} (h : o.bind f = some x) : ∃ v,o = some v∧f v = some x:=by
  cases o with
  | none=>cases h
  | some v=>exact ⟨v,rfl,h⟩
theorem q13h {α : Type} {a b : α} (h : some a = some b) : a = b:=qe6 h
section
variable {P : Program} {T : Tab} {base : Nat} {cs : List Code} {st : AS} {K : Ex→AS→Prop}
theorem RunK.mono {a : Ex→AS→Prop} : ∀ {cs : List Code} {st : AS},RunK P T base cs st K→(∀ ex st,K ex st→a ex st)→RunK P T base cs st a
  | [],_,h,hk=>hk _ _ h
  | c::cs,st,h,hk=>q3a.mono h fun ex st h=>by
    cases ex with
    | nor=>exact RunK.mono (cs:=cs) h hk
    | exit i=>exact hk _ _ h
    | ret=>exact hk _ _ h
theorem qn {α : Type} {c : Operand} {a b : Code} {t : Bool} {X Y : Option α} {x : α} (f : st.ev c = some (.d (.bool t))) (h : cond t X Y = some x) (j : t = true→X = some x→RunK P T base (a::cs) st K) (g : t = false→Y = some x→RunK P T base (b::cs) st K) :
    RunK P T base (.cond c a b::cs) st K:=by
  cases t with
  | true=>exact Zf f (j rfl h)
  | false=>exact Ze f (g rfl h)
theorem Qd {α β : Type} {body : Code} (f : α→Option (α ⊕ β)) (S : α→AS) (j : α) (m : β) (p : loop f j = some m) (o : WkE base st (S j))
    (round : ∀ a y,f a = some y→RunK P T base [body] (S a) (fun ex st'=>match ex with
      | .nor=>∃ a',y = .inl a'∧WkE base st' (S a')
      | ex=>∃ b,y = .inr b∧(b = m→K ex st'))) : RunK P T base (.loop body::cs) st K:=by
  obtain ⟨n,l⟩:=q93.1 p;refine qwl (fun x : Nat × α=>S x.2) (fun x=>iter f x.1 x.2 = some m) (fun x=>x.1) (n,j) o l ?_;rintro ⟨k,a⟩ c
  cases k with
  | zero=>simp [iter] at c
  | succ k=>
    simp only [iter] at c;split at c
    · cases c
    · rename_i a' g;refine (round a _ g).mono ?_;intro ex st' h
      cases ex with
      | nor=>
        obtain ⟨a'',d,q⟩:=h;cases d;exact ⟨(k,a'),c,qf,q⟩
      | exit i=>obtain ⟨b,d,_⟩:=h;cases d
      | ret=>obtain ⟨b,d,_⟩:=h;cases d
    · rename_i b g;cases c;refine (round a _ g).mono ?_;grind
theorem Jv {id : Nat} {N : AS→Prop} (h : N st) : q3d id N K (.exit id) st:=by simpa [q3d] using h
theorem Qn {id : Nat} {N : AS→Prop} (h : N st) : q3d id N K .nor st:=h
theorem Ys {β : Type} {c : Code} (E : β→Prop) (S : β→AS) (d : cs≠[]) (j : RunK P T base [c] st (qbh (fun st'=>∃ b,E b∧WkE base st' (S b)) K)) (a : ∀ b,E b→RunK P T base cs (S b) K) : RunK P T base (c::cs) st K:=by
  obtain ⟨ex,st1,g,f⟩:=q55 j;refine ⟨ex,st1,g,?_⟩
  cases ex with
  | nor=>obtain ⟨b,hb,h⟩:=f;exact Yb h (a b hb) d
  | exit i=>exact f
  | ret=>exact f
theorem Qi {β : Type} {id : Nat} {a : Code} (E : β→Prop) (S : β→AS) (d : cs≠[]) (g : RunK P T base [a] st (q3d id (fun st'=>∃ b,E b∧WkE base st' (S b)) K)) (c : ∀ b,E b→RunK P T base cs (S b) K) : RunK P T base (.block id a::cs) st K:=by
  refine Q3 (g.mono ?_);intro ex st' h
  cases ex with
  | nor=>obtain ⟨b,hb,f⟩:=h;exact Yb f (c b hb) d
  | ret=>exact h
  | exit i=>
    simp only [q3d] at h ⊢;split
    · rename_i hi;rw [qq hi] at h;obtain ⟨b,hb,f⟩:=h;exact Yb f (c b hb) d
    grind
theorem q6q {β : Type} {c : Code} (E : β→Prop) (S : β→AS) (f : RunK P T base [c] st (qbh (fun st'=>∃ b,E b∧WkE base st' (S b)) K)) (a : ∀ b st',E b→WkE base st' (S b)→K .nor st') : RunK P T base [c] st K:=by
  refine f.mono ?_;intro ex st' h
  cases ex with
  | nor=>obtain ⟨b,hb,d⟩:=h;exact a b st' hb d
  | exit i=>exact h
  | ret=>exact h
end
section
variable {P : Program} {T : Tab} {base : Nat} {ops : Array Oper} {dr : Dr} {l : List Oper} {sl : List (Nat × V)} {hp : List (Nat × Blk)} {nx : Nat} {K : AS→Prop} {ty : TypeId} {pos : String} {af : Array Edge} {t : Tmp} {g : Option (Nat × Bool)}
theorem qtr {op : Op} (v : V) (c : Qx ops ⟨sl,hp,nx⟩ ⟨some t,op,ty,pos,af,g⟩ = some true) (b : opFn T ⟨sl,hp,nx⟩ op = some (v,⟨sl,hp,nx⟩)) (h : OpsK P T base ops dr l ⟨(t,v)::sl,hp,nx⟩ K) (a : okO dr l.length ⟨sl,hp,nx⟩ (op) ⟨sl,hp,nx⟩ = true:=by rfl) : OpsK P T base ops dr (⟨some t,op,ty,pos,af,g⟩::l) ⟨sl,hp,nx⟩ K:=
  Ye c b h a
theorem qtk {op : Op} (v : V) (b : Blk) (d : Qx ops ⟨sl,hp,nx⟩ ⟨some t,op,ty,pos,af,g⟩ = some true) (c : opFn T ⟨sl,hp,nx⟩ op = some (v,⟨sl,(nx,b)::hp,nx + 1⟩)) (h : OpsK P T base ops dr l ⟨(t,v)::sl,(nx,b)::hp,nx + 1⟩ K) (a : okO dr l.length ⟨sl,hp,nx⟩ (op) ⟨sl,(nx,b)::hp,nx + 1⟩ = true:=by rfl) : OpsK P T base ops dr (⟨some t,op,ty,pos,af,g⟩::l) ⟨sl,hp,nx⟩ K:=
  Ye d c h a
theorem qge {op : Op} {es len : Nat} (xs : List (List DV)) (b : Qx ops ⟨sl,hp,nx⟩ ⟨some t,op,ty,pos,af,g⟩ = some true) (j : opFn T ⟨sl,hp,nx⟩ op = some (.hs nx es 0 len,⟨sl,(nx,.dat es xs)::hp,nx + 1⟩)) (k : len = xs.length) (f : touch op = 2) (c : find hp nx = none) (h : OpsK P T base ops dr l ⟨(t,.d (.sl es xs))::sl,hp,nx + 1⟩ K) (a : okF dr l.length (fp ⟨sl,hp,nx⟩ op) = true:=by rfl) : OpsK P T base ops dr (⟨some t,op,ty,pos,af,g⟩::l) ⟨sl,hp,nx⟩ K:=by
  subst k;exact qtl (n:=nx) (hp2:=hp) (st1:=⟨sl,(nx,.dat es xs)::hp,nx + 1⟩) b j f ⟨rfl,rfl⟩ rfl c h a
theorem qtq {op : Op} (n : Nat) (b : Blk) (c : Qx ops ⟨sl,hp,nx⟩ ⟨none,op,ty,pos,af,g⟩ = some true) (a : opFn T ⟨sl,hp,nx⟩ op = some (.dead,⟨sl,repl hp n b,nx⟩)) (h : OpsK P T base ops dr l ⟨sl,repl hp n b,nx⟩ K) (d : okO dr l.length ⟨sl,hp,nx⟩ (op) ⟨sl,repl hp n b,nx⟩ = true:=by rfl) : OpsK P T base ops dr (⟨none,op,ty,pos,af,g⟩::l) ⟨sl,hp,nx⟩ K:=
  Ye c a h d
theorem Qf {α : Type} {x : Operand} {b : Bool} {X Y : Option α} {m : α} (a : Qx ops ⟨sl,hp,nx⟩ ⟨some t,.move x,ty,pos,af,g⟩ = some true) (c : AS.ev ⟨sl,hp,nx⟩ x = some (.d (.bool b))) (h : cond b X Y = some m)
    (j : X = some m→OpsK P T base ops dr l ⟨(t,.d (.bool true))::sl,hp,nx⟩ K) (f : Y = some m→OpsK P T base ops dr l ⟨(t,.d (.bool false))::sl,hp,nx⟩ K) : OpsK P T base ops dr (⟨some t,.move x,ty,pos,af,g⟩::l) ⟨sl,hp,nx⟩ K:=by
  cases b with
  | true=>exact qgh a c (j h)
  | false=>exact qgh a c (f h)
theorem q1b {dr : Dr} (hd : dr = none) {m n : List Oper} {st st1 st2 : AS} : Ks P T base ops dr m st st1→Ks P T base ops dr n st1 st2→Ks P T base ops dr (m ++ n) st st2
  | .nil,h2=>h2
  | .skip a b,h2=>.skip a (q1b hd b h2)
  | .op a b _ c,h2=>.op a b (by subst hd;rfl) (q1b hd c h2)
  | .opF a b c d e f _ g,h2=>.opF a b c d e f (by subst hd;rfl) (q1b hd g h2)
  | .callP a b c d e f g h _ i,h2=>.callP a b c d e f g h (by subst hd;rfl) (q1b hd i h2)
  | .callS a b c d e,h2=>.callS a b c d (q1b hd e h2)
  | .callF a b c d e f g h i,h2=>.callF a b c d e f g h (q1b hd i h2)
  | .callY a b c d e f g h i j k l,h2=>.callY a b c d e f g h i j k (q1b hd l h2)
  | .wk a b,h2=>.wk a (q1b hd b h2)
  | .piv _ _ _,_=>by cases hd
theorem qfg {F : List Fp} {m k : Nat} : fpAt (F.drop m) k = fpAt F (k + m):=by
  unfold fpAt;grind
theorem qt5 {F : List Fp} {l a : List Oper} {dr : Dr} (hd : dr = some (F.drop a.length)) {st st1 : AS} {op : Op} (h : okO dr l.length st op st1 = true) : okO (some F) (l ++ a).length st op st1 = true:=by
  subst hd;simp only [okO,qfg] at h;simpa only [okO,List.length_append] using h
theorem qld {F : List Fp} {l a : List Oper} {dr : Dr} (hd : dr = some (F.drop a.length)) {x : Fp} (h : okF dr l.length x = true) : okF (some F) (l ++ a).length x = true:=by
  subst hd;simp only [okF,qfg] at h;simpa only [okF,List.length_append] using h
theorem qr5 {F : List Fp} {m : List Oper} {dr : Dr} {k : Dr} (q : k = some F) (hd : dr = some (F.drop m.length)) {n : List Oper} {st st1 st2 : AS} (p : Ks P T base ops dr n st st1) (r : Ks P T base ops k m st1 st2) : Ks P T base ops k (n ++ m) st st2:=by
  subst q
  induction n generalizing st with
  | nil=>cases p with
    | nil=>exact r
    | wk _ _=>cases hd
  | cons o l ih=>
    cases p with
    | skip a b=>exact .skip a (ih b)
    | op a b c d=>exact .op a b (qt5 hd c) (ih d)
    | opF a b c d e f g h=>exact .opF a b c d e f (qld hd g) (ih h)
    | callP a b c d e f g h i j=>exact .callP a b c d e f g h (qld hd i) (ih j)
    | callS _ _ _ _ _=>cases hd
    | callF _ _ _ _ _ _ _ _ _=>cases hd
    | callY _ _ _ _ _ _ _ _ _ _ _ _=>cases hd
    | wk _ _=>cases hd
    | piv a b c=>
      cases hd;rw [qfg] at a;exact .piv (by show Ud (fpAt F (l ++ m).length) = true;rw [List.length_append];exact a) b (ih c)
def qj6 (dr : Dr) (k : Nat) : Dr:=match dr with
  | none=>none
  | some F=>some (F.drop k)
theorem qr4 {dr : Dr} {b a : List Oper} {st st1 st2 : AS} (c : Ks P T base ops (qj6 dr a.length) b st st1) (d : Ks P T base ops dr a st1 st2) : Ks P T base ops dr (b ++ a) st st2:=by
  cases dr with
  | none=>exact q1b rfl c d
  | some F=>exact qr5 rfl rfl c d
theorem Qe (n : Nat) (Q : (List (Nat × V)→AS)→AS→Prop) (f : OpsK P T base ops (qj6 dr (l.drop n).length) (l.take n) ⟨sl,hp,nx⟩ (Q fun p=>⟨p ++ sl,hp,nx⟩)) (a : ∀ st',Q (fun p=>⟨p ++ sl,hp,nx⟩) st'→OpsK P T base ops dr (l.drop n) st' K) : OpsK P T base ops dr l ⟨sl,hp,nx⟩ K:=by
  obtain ⟨st1,c,g⟩:=f;obtain ⟨st2,b,d⟩:=a st1 g;refine ⟨st2,?_,d⟩;have:=qr4 c b;simp_all
theorem qtd {α : Type} {x y : Operand} {a : TypeId} {i : TI} {k : IntKind} {n : Int} {es : Nat} {xs : List α} {enc : α→List DV} {v : α} (m : idx xs n = some v) (o : Qx ops ⟨sl,hp,nx⟩ ⟨some t,.indexAddr a x y,ty,pos,af,g⟩ = some true) (j : T a = some i)
    (p : AS.ev ⟨sl,hp,nx⟩ x = some (.d (.sl es (xs.map enc)))) (r : AS.ev ⟨sl,hp,nx⟩ y = some (.d (.int k n))) (q : i.kind = .slice) (b : es = i.esize)
    (h : OpsK P T base ops dr l ⟨(t,.dref (enc v) 0)::sl,hp,nx⟩ K) : OpsK P T base ops dr (⟨some t,.indexAddr a x y,ty,pos,af,g⟩::l) ⟨sl,hp,nx⟩ K:=by
  obtain ⟨c,f,_⟩:=qcf m;exact Ye o (v:=.dref (enc v) 0) (st1:=⟨sl,hp,nx⟩) (by simp [opFn,p,r,j,q3m,q,b,c,f]) h (Jd rfl)
theorem qtc {α : Type} {x y : Operand} {a : TypeId} {i : TI} {k : IntKind} {n : Int} {m es len : Nat} {xs : List α} {v : α} (j : idx xs n = some v) (s : len = xs.length) (o : Qx ops ⟨sl,hp,nx⟩ ⟨some t,.indexAddr a x y,ty,pos,af,g⟩ = some true) (f : T a = some i)
    (p : AS.ev ⟨sl,hp,nx⟩ x = some (.hs m es 0 len)) (r : AS.ev ⟨sl,hp,nx⟩ y = some (.d (.int k n))) (q : i.kind = .slice) (b : es = i.esize)
    (h : OpsK P T base ops dr l ⟨(t,.ref m es n.toNat 0)::sl,hp,nx⟩ K) : OpsK P T base ops dr (⟨some t,.indexAddr a x y,ty,pos,af,g⟩::l) ⟨sl,hp,nx⟩ K:=by
  subst s;obtain ⟨c,_,u⟩:=qcf j;exact Ye o (v:=.ref m es n.toNat 0) (st1:=⟨sl,hp,nx⟩) (by simp [opFn,p,r,f,q3m,q,b,c];omega) h (Jd rfl)
theorem qth {α : Type} {p : Operand} {a : TypeId} {i : TI} {m es j : Nat} {n : Int} {xs : List α} {enc : α→List DV} {r : List DV} {v : α} (w : V) (k : idx xs n = some v) (o : Qx ops ⟨sl,hp,nx⟩ ⟨some t,.load a p,ty,pos,af,g⟩ = some true) (f : T a = some i)
    (q : AS.ev ⟨sl,hp,nx⟩ p = some (.ref m es n.toNat j)) (hb : find hp m = some (.dat es (xs.map enc))) (hs : sub (enc v) j i.size = some r) (c : (q1s i.agg r).map .d = some w)
    (h : OpsK P T base ops dr l ⟨(t,w)::sl,hp,nx⟩ K) (b : okF dr l.length (fp ⟨sl,hp,nx⟩ (.load a p)) = true:=by rfl) : OpsK P T base ops dr (⟨some t,.load a p,ty,pos,af,g⟩::l) ⟨sl,hp,nx⟩ K:=
  qlg o f q hb (by rw [List.getElem?_map,(qcf k).2.1];rfl) hs c h b
theorem K4 {α : Type} {p x : Operand} {k : TypeId} {i : TI} {m es j : Nat} {n : Int} {xs : List α} {enc : α→List DV} {v : α} (f : α) {u : V} {ds : List DV} (t : idx xs n = some v) (w : Qx ops ⟨sl,hp,nx⟩ ⟨none,.store k p x,ty,pos,af,g⟩ = some true) (s : T k = some i)
    (hp' : AS.ev ⟨sl,hp,nx⟩ p = some (.ref m es n.toNat j)) (y : AS.ev ⟨sl,hp,nx⟩ x = some u) (hb : find hp m = some (.dat es (xs.map enc))) (o : cellsOf u = ds.map .d) (hl : ds.length = i.size) (z : ds.all Yg = true) (r : j + i.size≤(enc v).length) (hs : splice (enc v) j ds = enc f)
    (h : OpsK P T base ops dr l ⟨sl,repl hp m (.dat es ((xs.set n.toNat f).map enc)),nx⟩ K) (q : okO dr l.length ⟨sl,hp,nx⟩ (.store k p x) ⟨sl,repl hp m (.dat es ((xs.set n.toNat f).map enc)),nx⟩ = true:=by rfl) : OpsK P T base ops dr (⟨none,.store k p x,ty,pos,af,g⟩::l) ⟨sl,hp,nx⟩ K:=by
  refine Ye w (v:=.dead) (st1:=⟨sl,repl hp m (.dat es ((xs.set n.toNat f).map enc)),nx⟩) ?_ h q;have a : (cellsOf u).all Ko = true:=by rw [o,List.all_map];exact z
  have c : (cellsOf u).length = i.size:=by rw [o];simpa using hl
  have b : (xs.map enc)[n.toNat]? = some (enc v):=by rw [List.getElem?_map,(qcf t).2.1];rfl
  simp only [opFn,s,hp',y,Jj,AS.blk,hb,Nat.beq_refl,b];rw [qp (by simp [a,c]),qq r,o,qee];simp only [hs,List.map_set,AS.setBlk];rfl
theorem qlh {α : Type} {x : Operand} {a : TypeId} {i : TI} {es : Nat} {xs : List α} {enc : α→List DV} (b : Qx ops ⟨sl,hp,nx⟩ ⟨some t,.call {callee:=.builtin .len,args:=#[x],argTypes:=#[a]},ty,pos,af,g⟩ = some true) (j : T a = some i) (f : i.kind = .slice) (c : AS.ev ⟨sl,hp,nx⟩ x = some (.d (.sl es (xs.map enc))))
    (h : OpsK P T base ops dr l ⟨(t,.d (.int .i64 (xs.length : Int)))::sl,hp,nx⟩ K) : OpsK P T base ops dr (⟨some t,.call {callee:=.builtin .len,args:=#[x],argTypes:=#[a]},ty,pos,af,g⟩::l) ⟨sl,hp,nx⟩ K:=
  qtg b j f c qf h
theorem Kr {α : Type} {x y : Operand} {a d : TypeId} {i j : TI} {n es len : Nat} {xs ys zs : List α} {enc : α→List DV} (m : V) (c : app i.ebytes xs ys = some zs) (b : len = xs.length) (u : Qx ops ⟨sl,hp,nx⟩ ⟨some t,.call {callee:=.builtin .append,args:=#[x,y],argTypes:=#[a,d]},ty,pos,af,g⟩ = some true)
    (s : T a = some i) (f : T d = some j) (v : AS.ev ⟨sl,hp,nx⟩ x = some (.hs n es 0 len)) (hy : AS.ev ⟨sl,hp,nx⟩ y = some m) (hb : find hp n = some (.dat es (xs.map enc))) (r : Yx ⟨sl,hp,nx⟩ m = some (ys.map enc))
    (z : i.kind = .slice) (k : j.kind = .slice) (p : es = i.esize) (w : Zy i.esize m = true)
    (h : OpsK P T base ops dr l ⟨(t,.hs nx es 0 zs.length)::sl,(nx,.dat es (zs.map enc))::repl hp n .dead,nx + 1⟩ K) (o : okF dr l.length (fp ⟨sl,hp,nx⟩ (.call {callee:=.builtin .append,args:=#[x,y],argTypes:=#[a,d]})) = true:=by rfl) : OpsK P T base ops dr (⟨some t,.call {callee:=.builtin .append,args:=#[x,y],argTypes:=#[a,d]},ty,pos,af,g⟩::l) ⟨sl,hp,nx⟩ K:=by
  subst b;unfold app at c;split at c
  · rename_i q;cases c;refine qt7 u s f v hy hb qf r z k p w (by simpa [Nat.mul_assoc] using q) ?_ o;grind
  · cases c
theorem Kp {α : Type} {n es len : Nat} {ys : List α} {enc : α→List DV} (a : len = ys.length) (hb : find hp n = some (.dat es (ys.map enc))) : Yx ⟨sl,hp,nx⟩ (.hs n es 0 len) = some (ys.map enc):=by
  subst a;simp only [Yx,AS.blk,hb];grind
theorem q8k {o : Operand} {k : IntKind} {a : Int} {d : Nat} {st : AS} (h : st.ev o = some (.d (.int k a))) (b : 0≤a) : bound st d (some o) = some a.toNat:=by
  simp [bound,h,b]
theorem q99 {x : Operand} {j : TypeId} {lo hi : Option Operand} {i : TI} {n es len : Nat} {a b : Int} {w : Nat × Nat} (c : sub2 len a b = some w) (o : Qx ops ⟨sl,hp,nx⟩ ⟨some t,.slice j x lo hi none,ty,pos,af,g⟩ = some true) (m : T j = some i) (q : i.kind = .slice) (r : es = i.esize)
    (p : AS.ev ⟨sl,hp,nx⟩ x = some (.hs n es 0 len)) (d : 0≤a→bound ⟨sl,hp,nx⟩ 0 lo = some a.toNat) (f : 0≤b→bound ⟨sl,hp,nx⟩ len hi = some b.toNat)
    (h : OpsK P T base ops dr l ⟨(t,.hs n es w.1 w.2)::sl,hp,nx⟩ K) : OpsK P T base ops dr (⟨some t,.slice j x lo hi none,ty,pos,af,g⟩::l) ⟨sl,hp,nx⟩ K:=by
  unfold sub2 at c;split at c
  · rename_i k;cases c;refine Ye o (v:=.hs n es a.toNat (b.toNat - a.toNat)) (st1:=⟨sl,hp,nx⟩) ?_ h (Jd rfl);simp only [opFn,m,p,q,lenV,d k.1,f q6,qdf];grind
  · cases c
theorem qb6 {n : Nat} {a b : Int} {w : Nat × Nat} (h : sub2 n a b = some w) : w.1 + w.2≤n:=by
  unfold sub2 at h;grind
theorem q11q {α β : Type} (f : α→β) (xs ys : List α) (j : Nat) : splice (xs.map f) j (ys.map f) = (splice xs j ys).map f:=by
  simp [splice,List.map_take,List.map_drop]
theorem qta {α : Type} {x y : Operand} {a b : TypeId} {i j : TI} {n es : Nat} {w : Nat × Nat} {xs ys : List α} {enc : α→List DV} (k : V) (p : w.1 + w.2≤xs.length) (s : Qx ops ⟨sl,hp,nx⟩ ⟨some t,.call {callee:=.builtin .copy,args:=#[x,y],argTypes:=#[a,b]},ty,pos,af,g⟩ = some true)
    (r : T a = some i) (c : T b = some j) (u : AS.ev ⟨sl,hp,nx⟩ x = some (.hs n es w.1 w.2)) (hy : AS.ev ⟨sl,hp,nx⟩ y = some k) (hb : find hp n = some (.dat es (xs.map enc))) (q : Yx ⟨sl,hp,nx⟩ k = some (ys.map enc))
    (hk : i.kind = .slice) (f : j.kind = .slice) (o : es = i.esize) (z : Zy i.esize k = true)
    (h : OpsK P T base ops dr l ⟨(t,.d (.int .i64 (min ys.length w.2 : Nat)))::sl,repl hp n (.dat es ((cpyw xs w ys).map enc)),nx⟩ K) (m : okO dr l.length ⟨sl,hp,nx⟩ (.call {callee:=.builtin .copy,args:=#[x,y],argTypes:=#[a,b]}) ⟨sl,repl hp n (.dat es ((cpyw xs w ys).map enc)),nx⟩ = true:=by rfl) : OpsK P T base ops dr (⟨some t,.call {callee:=.builtin .copy,args:=#[x,y],argTypes:=#[a,b]},ty,pos,af,g⟩::l) ⟨sl,hp,nx⟩ K:=by
  refine Ye s (v:=.d (.int .i64 (min ys.length w.2 : Nat))) (st1:=⟨sl,repl hp n (.dat es ((cpyw xs w ys).map enc)),nx⟩) ?_ h m;simp only [opFn,evL,u,hy,Ya];simp only [List.getElem?_toArray,List.getElem?_cons_zero,List.getElem?_cons_succ,r,c];rw [qq ⟨hk,f,by simp [Zy,o],z⟩];simp only [copyV,AS.blk,hb,q];rw [qq ⟨by simpa using p,trivial⟩];simp only [List.length_map,cpyw,← List.map_take,q11q,AS.setBlk]
theorem qqj {α : Type} {n es : Nat} {w : Nat × Nat} {ys : List α} {enc : α→List DV} (a : w.1 + w.2≤ys.length) (hb : find hp n = some (.dat es (ys.map enc))) : Yx ⟨sl,hp,nx⟩ (.hs n es w.1 w.2) = some (((ys.drop w.1).take w.2).map enc):=by
  simp only [Yx,AS.blk,hb];simp_all
theorem q1o {k c : IntKind} {a b : Int} {r : List V} : minI false (.d (.int k a)) (.d (.int c b)::r) = minI false (.d (.int k (min a b))) r:=by
  simp only [minI];grind
theorem Ux {k c : IntKind} {a b : Int} {r : List V} : minI true (.d (.int k a)) (.d (.int c b)::r) = minI true (.d (.int k (max a b))) r:=by
  simp only [minI];grind
theorem q1r {xs : Array Operand} {ats : Array TypeId} {b : List V} {k : IntKind} {a : Int} {r : Int} (c : Qx ops ⟨sl,hp,nx⟩ ⟨some t,.call {callee:=.builtin .min,args:=xs,argTypes:=ats},ty,pos,af,g⟩ = some true) (f : evL (AS.ev ⟨sl,hp,nx⟩) xs.toList = some (.d (.int k a)::b)) (j : minI false (.d (.int k a)) b = some (.d (.int k r)))
    (h : OpsK P T base ops dr l ⟨(t,.d (.int k r))::sl,hp,nx⟩ K) : OpsK P T base ops dr (⟨some t,.call {callee:=.builtin .min,args:=xs,argTypes:=ats},ty,pos,af,g⟩::l) ⟨sl,hp,nx⟩ K:=
  Ye c (v:=.d (.int k r)) (st1:=⟨sl,hp,nx⟩) (by simp [opFn,f,Ya,j]) h (Jd rfl)
theorem Uy {xs : Array Operand} {ats : Array TypeId} {b : List V} {k : IntKind} {a : Int} {r : Int} (c : Qx ops ⟨sl,hp,nx⟩ ⟨some t,.call {callee:=.builtin .max,args:=xs,argTypes:=ats},ty,pos,af,g⟩ = some true) (f : evL (AS.ev ⟨sl,hp,nx⟩) xs.toList = some (.d (.int k a)::b)) (j : minI true (.d (.int k a)) b = some (.d (.int k r)))
    (h : OpsK P T base ops dr l ⟨(t,.d (.int k r))::sl,hp,nx⟩ K) : OpsK P T base ops dr (⟨some t,.call {callee:=.builtin .max,args:=xs,argTypes:=ats},ty,pos,af,g⟩::l) ⟨sl,hp,nx⟩ K:=
  Ye c (v:=.d (.int k r)) (st1:=⟨sl,hp,nx⟩) (by simp [opFn,f,Ya,j]) h (Jd rfl)
theorem q98 {c : Call} {f : FuncId} {ds : List DV} {r : DV} (a : List V) (b : Pure P T f ds r) (k : Qx ops ⟨sl,hp,nx⟩ ⟨some t,.call c,ty,pos,af,g⟩ = some true) (m : callee ⟨sl,hp,nx⟩ c = some (f,a)) (hd : Ku hp a = some ds)
    (hs : (a.all V.isD = true∨r.scalar = true)) (h : OpsK P T base ops dr l ⟨(t,.d r)::sl,hp,nx⟩ K) (j : okF dr l.length (fpC a) = true:=by rfl) : OpsK P T base ops dr (⟨some t,.call c,ty,pos,af,g⟩::l) ⟨sl,hp,nx⟩ K:=
  qlf k rfl m hd hs b h j
theorem U6 {hp : List (Nat × Blk)} {v : V} {d : DV} {a : List V} {ds : List DV} (h : toD hp 8 v = some d) (b : Ku hp a = some ds) : Ku hp (v::a) = some (d::ds):=by
  simp [Ku,h,b]
theorem Zm {α : Type} {k n es len : Nat} {ys : List α} {enc : α→List DV} (a : len = ys.length) (hb : find hp n = some (.dat es (ys.map enc))) : toD hp (k + 1) (.hs n es 0 len) = some (.sl es (ys.map enc)):=by
  subst a;simp only [toD,hb];grind
theorem q25 {k : Nat} {a : List V} {ds : List DV} (h : Zk (toD hp k) a = some ds) : toD hp (k + 1) (.tup a) = some (.tup ds):=by simp [toD,h]
theorem qoa {k : Nat} {f : FuncId} {a : List V} {ds : List DV} (h : Zk (toD hp k) a = some ds) : toD hp (k + 1) (.fn f a) = some (.fn f ds):=by simp [toD,h]
theorem Yy {k : Nat} {v : V} {d : DV} {a : List V} {ds : List DV} (h : toD hp k v = some d) (b : Zk (toD hp k) a = some ds) : Zk (toD hp k) (v::a) = some (d::ds):=by simp [Zk,h,b]
inductive DLeL : List DV→List DV→Prop
  | nil : DLeL [] []
  | cons {x y : DV} {xs ys : List DV} : DLe x y→DLeL xs ys→DLeL (x::xs) (y::ys)
theorem DLeL.len {xs ys : List DV} (h : DLeL xs ys) : xs.length = ys.length:=by
  induction h with
  | nil=>rfl
  | cons _ _ ih=>simp [ih]
theorem DLeL.get {xs ys : List DV} (h : DLeL xs ys) : ∀ (i : Nat) (x y : DV),xs[i]? = some x→ys[i]? = some y→DLe x y:=by
  induction h with
  | nil=>intro i x y h;simp at h
  | cons h1 _ ih=>grind
theorem Kn {xs ys : List DV} (h : DLeL xs ys) : DLe (.tup xs) (.tup ys):=.tup h.len h.get
theorem q13b {xs ys : List DV} (h : DLeL xs ys) : DLe (.agg xs) (.agg ys):=.agg h.len h.get
theorem finD {ex : Ex} {st : AS} {b : List ResultVar} {v : V} {r a : DV} (f : ex = .nor∨ex = .ret) (c : resV T st b = some v) (g : toD st.hp 8 v = some a) (d : DLe a r) : (ex = .nor∨ex = .ret)∧∃ v a,resV T st b = some v∧toD st.hp 8 v = some a∧DLe a r:=
  ⟨f,v,a,c,g,d⟩
end
theorem qon {α : Type} {st : AS} {ρ : Nat→Nat} {fz ph : List Nat} {nx n es len : Nat} {ys : List α} {enc : α→List DV} (b : len = ys.length) (hb : st.blk n = some (.dat es (ys.map enc))) (a : n∈fz) : Wv st ρ fz ph nx (.hs n es 0 len) (.d (.sl es (ys.map enc))):=by
  subst b;exact .frz hb a qf (by rw [List.drop_zero,List.take_of_length_le qf]) rfl
theorem K6 {st : AS} {ρ : Nat→Nat} {fz ph : List Nat} {nx n m es o l l' : Nat} (d : l = l') (b : ρ m = n) (c : m ∉ ph) (a : m < nx) : Wv st ρ fz ph nx (.hs n es o l) (.hs m es o l'):=d ▸ .hs b c a
inductive WvC (st : AS) (ρ : Nat→Nat) (fz ph : List Nat) (nx : Nat) : List V→List V→Prop
  | nil : WvC st ρ fz ph nx [] []
  | cons {c d : V} {cs ds : List V} : Wv st ρ fz ph nx c d→Ko d = true→WvC st ρ fz ph nx cs ds→WvC st ρ fz ph nx (c::cs) (d::ds)
theorem WvC.len {st : AS} {ρ : Nat→Nat} {fz ph : List Nat} {nx : Nat} {cs ds : List V} (h : WvC st ρ fz ph nx cs ds) : cs.length = ds.length:=by
  induction h with
  | nil=>rfl
  | cons _ _ _ ih=>simp [ih]
theorem WvC.get {st : AS} {ρ : Nat→Nat} {fz ph : List Nat} {nx : Nat} {cs ds : List V} (h : WvC st ρ fz ph nx cs ds) : ∀ (j : Nat) (c d : V),cs[j]? = some c→ds[j]? = some d→Wv st ρ fz ph nx c d∧Ko d = true:=by
  induction h with
  | nil=>intro i x y h;simp at h
  | cons h1 h2 _ ih=>grind
theorem Jk {st : AS} {ρ : Nat→Nat} {fz ph : List Nat} {nx es : Nat} {cs ds : List V} (h : WvC st ρ fz ph nx cs ds) : Wb st ρ fz ph nx (.cel es [cs]) (.cel es [ds]):=by
  refine .cel rfl fun i x y a b=>?_
  cases i with
  | zero=>simp at a b;subst a b;exact ⟨h.len,h.get⟩
  | succ i=>simp at a
theorem qhm {st : AS} {ρ : Nat→Nat} {fz ph : List Nat} {nx es : Nat} {cs : List DV} {ds : List V} (h : WvC st ρ fz ph nx (cs.map .d) ds) : Wb st ρ fz ph nx (.dat es [cs]) (.cel es [ds]):=by
  refine .datcel rfl fun i x y a b=>?_
  cases i with
  | zero=>
    simp at a b;subst a b;exact ⟨by simpa using h.len,fun j c d f hd=>h.get j (.d c) d (by simp [f]) hd⟩
  | succ i=>simp at a
inductive WvL (st : AS) (ρ : Nat→Nat) (fz ph : List Nat) (nx : Nat) : List V→List V→Prop
  | nil : WvL st ρ fz ph nx [] []
  | cons {c d : V} {cs ds : List V} : Wv st ρ fz ph nx c d→WvL st ρ fz ph nx cs ds→WvL st ρ fz ph nx (c::cs) (d::ds)
theorem WvL.len {st : AS} {ρ : Nat→Nat} {fz ph : List Nat} {nx : Nat} {cs ds : List V} (h : WvL st ρ fz ph nx cs ds) : cs.length = ds.length:=by
  induction h with
  | nil=>rfl
  | cons _ _ ih=>simp [ih]
theorem WvL.get {st : AS} {ρ : Nat→Nat} {fz ph : List Nat} {nx : Nat} {cs ds : List V} (h : WvL st ρ fz ph nx cs ds) : ∀ (j : Nat) (c d : V),cs[j]? = some c→ds[j]? = some d→Wv st ρ fz ph nx c d:=by
  induction h with
  | nil=>intro i x y h;simp at h
  | cons h1 _ ih=>grind
theorem q28 {st : AS} {ρ : Nat→Nat} {fz ph : List Nat} {nx : Nat} {f : FuncId} {cs ds : List V} (h : WvL st ρ fz ph nx cs ds) : Wv st ρ fz ph nx (.fn f cs) (.fn f ds):=.fn h.len h.get
theorem qhp {st : AS} {ρ : Nat→Nat} {fz ph : List Nat} {nx : Nat} {cs ds : List V} (h : WvL st ρ fz ph nx cs ds) : Wv st ρ fz ph nx (.tup cs) (.tup ds):=.tup h.len h.get
theorem q133 {st : AS} {ρ : Nat→Nat} {fz ph : List Nat} {nx : Nat} {cs : List DV} {ds : List V} (h : WvL st ρ fz ph nx (cs.map .d) ds) : Wv st ρ fz ph nx (.d (.tup cs)) (.tup ds):=
  .dtup (by have:=h.len;simpa using this) fun i c d a hd=>h.get i _ d (by simp [a]) hd
theorem q132 {st : AS} {ρ : Nat→Nat} {fz ph : List Nat} {nx : Nat} {cs : List DV} {ds : List V} (h : WvL st ρ fz ph nx (cs.map .d) ds) : Wv st ρ fz ph nx (.d (.agg cs)) (.agg ds):=
  .dagg (by have:=h.len;simpa using this) fun i c d a hd=>h.get i _ d (by simp [a]) hd
theorem qe3 {st : AS} {ρ : Nat→Nat} {fz ph : List Nat} {nx : Nat} {cs ds : List V} (h : WvL st ρ fz ph nx cs ds) : Wv st ρ fz ph nx (.agg cs) (.agg ds):=.agg h.len h.get
theorem qjk {P : Program} {T : Tab} {f : FuncId} {ds g : List DV} (j : DLeL g ds) {o : List V} {hp hp' : List (Nat × Blk)} {nx nx' : Nat} {v : V} : K9 P T f o hp nx v hp' nx'→o = ds.map .d→hp = []→nx = 0→K9 P T f (g.map .d) [] 0 v hp' nx'
  | .wk e w,a,hh,hn=>by
    have h:=qjk j e a hh hn
    subst hh hn
    exact .wk h w
  | .mk h1 h2 h3 h4 h5 h6 h7 h8,a,hh,hn=>by
    subst a hh hn
    refine .mk h1 h2 h3 h4 (by simpa [j.len] using h5) (.wk (ρ:=fun n=>n) (fz:=[]) (ph:=[]) ⟨?_,?_,?_,?_,?_,?_,?_,?_⟩ h6) h7 h8
    · intro t p a
      simp only [AS.get,qbv] at a ⊢
      simp only [Nat.zero_le,if_true,Nat.sub_zero,List.getElem?_map,Y7] at a ⊢
      obtain ⟨y,l,rfl⟩:=a
      obtain ⟨x,k⟩:=Zq (xs:=g) (i:=t) (by rw [j.len];exact Kg l)
      exact ⟨_,⟨x,k,rfl⟩,.d (j.get t x y k l)⟩
    · intro n b h;simp [AS.blk,find] at h
    · intro n m b c h;simp [AS.blk,find] at h
    · intro n b h;simp [AS.blk,find] at h
    · intro n h;rfl
    · exact Nat.le_refl _
    · intro n h;cases h
    · intro n h;cases h
theorem qcs {P : Program} {T : Tab} {f : FuncId} {ds a : List DV} {r : DV} (g : DLeL a ds) (h : Pure P T f ds r) : Pure P T f a r:=by
  obtain ⟨v,hp,nx,c,e,d,b⟩:=h;exact ⟨v,hp,nx,c,qjk g e rfl rfl rfl,d,b⟩
end Go.Am
namespace Go.Sh
open Go Go.Am
theorem Qs {α : Type} {xs : List α} {k : Nat} (h : k < xs.length) : idx xs (k : Int) = some xs[k]:=by simp [idx,h]
theorem J1 {α : Type} {xs : List α} {i : Int} {k : Nat} (hi : i = k) (h : k < xs.length) : idx xs i = some xs[k]:=by subst hi;exact Qs h
theorem Y4 {α : Type} {c : Nat} {xs ys : List α} (h : (xs.length + ys.length) * (c * 4)≤4294967296) : app c xs ys = some (xs ++ ys):=by simp [app,h]
theorem qqg {α : Type} {c : Bool} {a b : α} : (cond c (some a) (some b)) = some (cond c a b):=by cases c <;> rfl
theorem J2 {α β σ : Type} {f : α→Option (α ⊕ β)} (mk : Nat→σ→α) (n : Nat) (I : Nat→σ→Prop) (Q : β→Prop)
    (step : ∀ k c,k < n→I k c→(∃ g,f (mk k c) = some (.inl (mk (k + 1) g))∧I (k + 1) g)∨∃ b,f (mk k c) = some (.inr b)∧Q b)
    (done : ∀ c,I n c→∃ b,f (mk n c) = some (.inr b)∧Q b) {k0 : Nat} {c0 : σ} (h : k0≤n) (j : I k0 c0) : ∃ b,loop f (mk k0 c0) = some b∧Q b:=by
  have key : ∀ m k c,n - k = m→k≤n→I k c→∃ b,loop f (mk k c) = some b∧Q b:=by
    intro m
    induction m with
    | zero=>
      intro k c l h hi;obtain rfl : k = n:=by omega
      obtain ⟨b,a,d⟩:=done c hi;exact ⟨b,Kj a,d⟩
    | succ m ih=>
      intro k c l h hi;rcases step k c q6 hi with ⟨g,a,d⟩ | ⟨b,a,d⟩
      · rw [Y5 a];exact ih (k + 1) g q6 q6 d
      · exact ⟨b,Kj a,d⟩
  exact key _ k0 c0 rfl h j
def I64 (x : Int) : Prop:=-9223372036854775808≤x∧x≤9223372036854775807
end Go.Sh
namespace Go.Am
open Go
theorem q13k {k : IntKind} {d : DV} (h : Ty (.int k) d) : ∃ n : Int,d = .int k n∧(Lit.int k n).wf = true:=by
  cases h with | int hw=>exact ⟨_,rfl,hw⟩
def q29 (l : List CT) (x : List DV) : Prop:=x.length = l.length∧∀ (j : Nat) (c : CT) (d : DV),l[j]? = some c→x[j]? = some d→Ty c d
theorem q13f {x : List DV} (h : q29 [] x) : x = []:=List.length_eq_zero_iff.1 h.1
theorem q13e {c : CT} {l : List CT} {x : List DV} (h : q29 (c::l) x) : ∃ d r,x = d::r∧Ty c d∧q29 l r:=by
  obtain ⟨a,b⟩:=h
  cases x with
  | nil=>simp at a
  | cons d r=>exact ⟨d,r,rfl,b 0 c d rfl rfl,by simpa using a,fun j f g k hd=>b (j + 1) f g (by simpa using k) (by simpa using hd)⟩
theorem q13l {α : Type} {l : List CT} {enc : α→List DV} {wf : α→Prop} (row : ∀ x,q29 l x→∃ a,x = enc a∧wf a) {d : DV} (h : Ty (.sl l) d) : ∃ xs : List α,DLe d (.sl l.length (xs.map enc))∧(∀ x∈xs,wf x)∧xs.length≤maxLen:=by
  cases h with
  | nil=>exact ⟨[],.nil _,qf,qf⟩
  | @sl _ xs hl h1 h2=>
    have key : ∀ ys : List (List DV),(∀ y∈ys,q29 l y)→∃ zs : List α,ys = zs.map enc∧∀ z∈zs,wf z:=by
      intro ys
      induction ys with
      | nil=>intro _;exact ⟨[],rfl,qf⟩
      | cons y ys ih=>
        intro f;obtain ⟨a,rfl,g⟩:=row y (f y qf);obtain ⟨zs,rfl,b⟩:=ih fun z b=>f z (by simp [b]);exact ⟨a::zs,rfl,by simpa using ⟨g,b⟩⟩
    obtain ⟨zs,rfl,b⟩:=key xs fun y f=>by
      obtain ⟨i,hi⟩:=List.getElem?_of_mem f;exact ⟨h1 i y hi,fun j c d k hd=>h2 i y j c d hi k hd⟩
    exact ⟨zs,.refl _,b,by simpa using hl⟩
theorem qqp {α : Type} {es : Nat} {enc : α→List DV} {xs : List (List DV)} {zs : List α} (k : xs.length = zs.length) (h : ∀ (i : Nat) (x : List DV) (z : α),xs[i]? = some x→zs[i]? = some z→DLeL x (enc z)) : DLe (.sl es xs) (.sl es (zs.map enc)):=by
  have key : ∀ (i : Nat) (x y : List DV),xs[i]? = some x→(zs.map enc)[i]? = some y→DLeL x y:=fun i x y b a=>by
    rw [List.getElem?_map,Y7] at a;obtain ⟨z,f,rfl⟩:=a;exact h i x z b f
  exact .sl (by simpa using k) (fun i x y b a=>(key i x y b a).len) fun i x y j c d b a g hd=>(key i x y b a).get j c d g hd
theorem q13m {α : Type} {l : List CT} {enc : α→List DV} {wf : α→Prop} (row : ∀ x,q29 l x→∃ a,DLeL x (enc a)∧wf a) {d : DV} (h : Ty (.sl l) d) : ∃ xs : List α,DLe d (.sl l.length (xs.map enc))∧(∀ x∈xs,wf x)∧xs.length≤maxLen:=by
  cases h with
  | nil=>exact ⟨[],.nil _,qf,qf⟩
  | @sl _ xs hl h1 h2=>
    have key : ∀ ys : List (List DV),(∀ y∈ys,q29 l y)→∃ zs : List α,ys.length = zs.length∧(∀ (i : Nat) (x : List DV) (z : α),ys[i]? = some x→zs[i]? = some z→DLeL x (enc z))∧∀ z∈zs,wf z:=by
      intro ys
      induction ys with
      | nil=>intro _;exact ⟨[],rfl,qf,qf⟩
      | cons y ys ih=>
        intro m;obtain ⟨a,o,p⟩:=row y (m y qf);obtain ⟨zs,b,k,g⟩:=ih fun z k=>m z (by simp [k]);refine ⟨a::zs,by simp [b],fun i x z n f=>?_,by simpa using ⟨p,g⟩⟩
        cases i with
        | zero=>simp only [List.getElem?_cons_zero,Option.some.injEq] at n f;subst n f;exact o
        | succ i=>exact k i x z (by simpa using n) (by simpa using f)
    obtain ⟨zs,b,k,g⟩:=key xs fun y m=>by
      obtain ⟨i,hi⟩:=List.getElem?_of_mem m;exact ⟨h1 i y hi,fun j c d q hd=>h2 i y j c d hi q hd⟩
    exact ⟨zs,qqp b k,g,q6⟩
theorem q13n {n : Int} (h : (Lit.int .i64 n).wf = true) : -9223372036854775808≤n∧n≤9223372036854775807:=by
  simp [Lit.wf,IntKind.min,IntKind.max,IntKind.signed,IntKind.bits] at h;omega
theorem q138 {xs : List DV} (h : Jl [] xs) : xs = []:=by cases h;rfl
theorem q139 {c : CT} {a : List (Bool × List CT)} {xs : List DV} (h : Jl ((false,[c])::a) xs) : ∃ d r,xs = d::r∧Ty c d∧Jl a r:=by
  cases h with | one h1 h2=>exact ⟨_,_,rfl,h1,h2⟩
theorem q137 {l : List CT} {a : List (Bool × List CT)} {xs : List DV} (h : Jl ((true,l)::a) xs) : ∃ x r,xs = .agg x::r∧q29 l x∧Jl a r:=by
  cases h with | agg h1 h2 h3=>exact ⟨_,_,rfl,⟨h1,h2⟩,h3⟩
end Go.Am
