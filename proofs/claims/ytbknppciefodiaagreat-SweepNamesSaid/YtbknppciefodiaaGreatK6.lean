/- Am26 Am27 Am28 Am29 Am30 Am31 Lf1 Pl0 Lf2 -/
import Derived.Test.YtbknppciefodiaaGreatK5
import Derived.ProofKit
import Derived.OpenShut
import Derived.Deep.Slices
namespace Go.Am
open Go
variable {P : Program} {T : Tab}
def wpL (F : Fence) (P : Program) (c : Code) (Q : Exit→Act→World→Prop) (a : Act) (w : World) : Prop:=
  ∀ (b : Frame) (k : List Item) (cs : List Frame),b.roundOf = F.round→F.fn b.fn→F.room (cs.length + 1 + 0)→
    ∃ e a' w',Q e a' w'∧ArrivesIn (Machine.fenced P F) P (lone (b.atR a (.code c::.inLoop c::k)) cs w) b k cs e a' w'
theorem qmt {F : Fence} {c : Code} {Q : Exit→Act→World→Prop} {a : Act} {w : World} (h : c.wpIn F 0 P (Exit.then (wpL F P c Q) Q) a w) : wpL F P c Q a w:=by
  intro b k cs n hb o;obtain ⟨e,j,m,g,d⟩:=h b (.inLoop c::k) cs n hb o
  cases e with
  | normal=>
    obtain ⟨q,r,s,p,f⟩:=g b k cs n hb o;exact ⟨q,r,s,p,.of_steps (StepsIn.trans d (.one (fenced_calm hb o rfl) stepR_inLoop)) f⟩
  | exit id=>exact ⟨_,j,m,g,.pass (x:=.inLoop c) rfl (fun _ _=>.inl qe) d⟩
  | goto l=>exact ⟨_,j,m,g,.pass (x:=.inLoop c) rfl (fun _ _=>.inl qe) d⟩
  | ret=>exact ⟨_,j,m,g,.pass (x:=.inLoop c) rfl (fun _ _=>.inl qe) d⟩
  | panic ch=>exact ⟨_,j,m,g,.pass (x:=.inLoop c) rfl (fun _ _=>.inl qe) d⟩
  | outgrown=>exact ⟨_,j,m,g,.pass (x:=.inLoop c) rfl (fun _ _=>.inl qe) d⟩
theorem q10n {F : Fence} {c : Code} {Q : Exit→Act→World→Prop} {a : Act} {w : World} (h : wpL F P c Q a w) : (Code.loop c).wpIn F 0 P Q a w:=by
  intro b k cs f hb g;obtain ⟨e,a',w',j,d⟩:=h b k cs f hb g;exact ⟨e,a',w',j,.of_steps (.one (fenced_calm hb g rfl) stepR_loop) d⟩
theorem qms {F : Fence} {c : Code} {Q d : Exit→Act→World→Prop} {a : Act} {w : World} (h : wpL F P c Q a w) (g : ∀ e a w,Q e a w→d e a w) : wpL F P c d a w:=
  fun b k cs l j f=>let ⟨e,a',w',q,r⟩:=h b k cs l j f;⟨e,a',w',g _ _ _ q,r⟩
def CP (base : Nat) (w : World) (Z : Nat→Prop) (inj : Inj) (st : AS) (a : Act) (Ds : List Nat) (ex : Ex) (st' : AS) (e : Exit) (a' : Act) (w' : World) : Prop:=e = toE ex∧Kt base w Z inj st a Ds st' a' w'
def Kv (P : Program) (base : Nat) (c : Code) (st : AS) (ex : Ex) (st' : AS) : Prop:=
  ∀ (ro : Option Nat) (w : World) (Z : Nat→Prop) (inj : Inj) (a : Act) (Ds : List Nat),RelS w Z inj st a Ds→codeOk a.tmps.size c = true→base≤st.nx→Yg ro w→
    c.wpIn (Fw ro) 0 P (CP base w Z inj st a Ds ex st') a w∧∀ d,c = .loop d→wpL (Fw ro) P d (CP base w Z inj st a Ds ex st') a w
section
variable {base : Nat} {st st1 st2 : AS} {ex : Ex}
theorem U2 {c : Code} (j : ∀ d,c≠.loop d) (h : ∀ (ro : Option Nat) (w : World) (Z : Nat→Prop) (inj : Inj) (a : Act) (Ds : List Nat),RelS w Z inj st a Ds→codeOk a.tmps.size c = true→base≤st.nx→Yg ro w→
    c.wpIn (Fw ro) 0 P (CP base w Z inj st a Ds ex st1) a w) : Kv P base c st ex st1:=
  fun ro w Z inj a Ds k b g f=>⟨h ro w Z inj a Ds k b g f,fun d hd=>absurd hd (j d)⟩
theorem Kt.round {w : World} {Z : Nat→Prop} {inj : Inj} {a : Act} {Ds : List Nat} {a' : Act} {w' : World} {ro : Option Nat} (h : Kt base w Z inj st a Ds st1 a' w') (b : Yg ro w) : Yg ro w':=by
  obtain ⟨_,_,_,_,e,_⟩:=h;exact b.ext e
theorem qo8 : Kv P base .skip st .nor st:=
  U2 qe fun ro w Z inj a Ds h _ hb _=>wpIn_skip ⟨rfl,Kt.refl h hb⟩
theorem qnz {id : Nat} : Kv P base (.exit id) st (.exit id) st:=
  U2 qe fun ro w Z inj a Ds h _ hb _=>wpIn_exit ⟨rfl,Kt.refl h hb⟩
theorem qo5 : Kv P base .ret st .ret st:=
  U2 qe fun ro w Z inj a Ds h _ hb _=>wpIn_ret ⟨rfl,Kt.refl h hb⟩
theorem qo6 {a b : Code} (n : Kv P base a st .nor st1) (m : Kv P base b st1 ex st2) : Kv P base (.seq a b) st ex st2:=by
  refine U2 qe fun ro w Z inj act Ds h c hb k=>wpIn_seq (wpIn_mono (n ro w Z inj act Ds h ?_ hb k).1 ?_)
  · simp only [codeOk,Bool.and_eq_true] at c;exact c.1
  · rintro e a' w' ⟨rfl,hp⟩;refine hp.bind fun Z' inj' l j f g _ d=>?_;refine wpIn_mono (m ro w' Z' inj' a' l j ?_ g (hp.round k)).1 ?_
    · simp only [codeOk,Bool.and_eq_true] at c;rw [f];exact c.2
    · rintro e o p ⟨rfl,hp2⟩;exact ⟨rfl,d _ _ _ hp2⟩
theorem qo7 {a b : Code} (g : Kv P base a st ex st1) (f : ex≠.nor) : Kv P base (.seq a b) st ex st1:=by
  refine U2 qe fun ro w Z inj act Ds h c hb d=>wpIn_seq (wpIn_mono (g ro w Z inj act Ds h ?_ hb d).1 ?_)
  · simp only [codeOk,Bool.and_eq_true] at c;exact c.1
  · rintro e a' w' ⟨rfl,hp⟩
    cases ex with
    | nor=>exact absurd rfl f
    | exit id=>exact ⟨rfl,hp⟩
    | ret=>exact ⟨rfl,hp⟩
theorem qny {c : Operand} {a b : Code} (j : st.ev c = some (.d (.bool true))) (k : Kv P base a st ex st1) : Kv P base (.cond c a b) st ex st1:=by
  refine U2 qe fun ro w Z inj act Ds h f hb g=>wpIn_cond_true ?_ (k ro w Z inj act Ds h ?_ hb g).1
  · have:=Kb h j;generalize act.eval c = x at this
    cases this with | d this=>cases this;rfl
  · simp only [codeOk,Bool.and_eq_true] at f;exact f.1
theorem qnx {c : Operand} {a b : Code} (j : st.ev c = some (.d (.bool false))) (k : Kv P base b st ex st1) : Kv P base (.cond c a b) st ex st1:=by
  refine U2 qe fun ro w Z inj act Ds h f hb g=>wpIn_cond_false ?_ (k ro w Z inj act Ds h ?_ hb g).1
  · have:=Kb h j;generalize act.eval c = x at this
    cases this with | d this=>cases this;rfl
  · simp only [codeOk,Bool.and_eq_true] at f;exact f.2
theorem qnw {id : Nat} {a : Code} (d : Kv P base a st ex st1) : Kv P base (.block id a) st (ex.block id) st1:=by
  refine U2 qe fun ro w Z inj act Ds h b hb c=>wpIn_block (wpIn_mono (d ro w Z inj act Ds h b hb c).1 ?_);rintro e a' w' ⟨rfl,hp⟩
  cases ex with
  | nor=>exact ⟨rfl,hp⟩
  | ret=>exact ⟨rfl,hp⟩
  | exit i=>
    by_cases hi : i = id
    · simp only [toE,Exit.inBlock,hi,if_true,Ex.block];exact ⟨rfl,hp⟩
    · simp only [toE,Exit.inBlock,hi,if_false,Ex.block];exact ⟨rfl,hp⟩
theorem qgi {a : Code} (h : ∀ (ro : Option Nat) (w : World) (Z : Nat→Prop) (inj : Inj) (act : Act) (Ds : List Nat),RelS w Z inj st act Ds→codeOk act.tmps.size (.loop a) = true→base≤st.nx→Yg ro w→
    wpL (Fw ro) P a (CP base w Z inj st act Ds ex st1) act w) : Kv P base (.loop a) st ex st1:=
  fun ro w Z inj act Ds g b f c=>⟨q10n (h ro w Z inj act Ds g b f c),fun d hd=>by cases hd;exact h ro w Z inj act Ds g b f c⟩
theorem qo0 {a : Code} (m : Kv P base a st .nor st1) (l : Kv P base (.loop a) st1 ex st2) : Kv P base (.loop a) st ex st2:=by
  refine qgi fun ro w Z inj act Ds h f hb j=>qmt (wpIn_mono (m ro w Z inj act Ds h f hb j).1 ?_);rintro e a' w' ⟨rfl,hp⟩;refine hp.bind fun Z' inj' k g c d _ b=>?_;refine qms ((l ro w' Z' inj' a' k g (by rw [c];exact f) d (hp.round j)).2 a rfl) ?_;rintro e n o ⟨rfl,hp2⟩;exact ⟨rfl,b _ _ _ hp2⟩
theorem qo1 {a : Code} (d : Kv P base a st ex st1) (f : ex≠.nor) : Kv P base (.loop a) st ex st1:=by
  refine qgi fun ro w Z inj act Ds h b hb c=>qmt (wpIn_mono (d ro w Z inj act Ds h b hb c).1 ?_);rintro e a' w' ⟨rfl,hp⟩
  cases ex with
  | nor=>exact absurd rfl f
  | exit id=>exact ⟨rfl,hp⟩
  | ret=>exact ⟨rfl,hp⟩
theorem qo9 {ρ : Nat→Nat} {fz ph : List Nat} {c : Code} (k : Wk base ρ fz ph st st1) (l : Kv P base c st1 ex st2) : Kv P base c st ex st2:=by
  intro ro w Z inj a Ds h g hb j;obtain ⟨f,x⟩:=q20 h k
  have b : ∀ e a' w',CP base w (wkZ Z inj st fz) (wkI inj ρ ph) st1 a Ds ex st2 e a' w'→CP base w Z inj st a Ds ex st2 e a' w':=by
    rintro e a' w' ⟨rfl,m,o,q,n,p,t,v,r⟩;exact ⟨rfl,m,o,q,n,x.trans p (Nat.le_refl _),t,v,r⟩
  obtain ⟨u,s⟩:=l ro w _ _ a Ds f g k.bs j;exact ⟨wpIn_mono u b,fun d hd=>qms (s d hd) b⟩
theorem qoc {ops : Array Oper} {ro : Option Nat} {w0 : World} {Z0 : Nat→Prop} {inj0 : Inj} {d : AS} {k : Act} {Ds0 : List Nat} {Q : Exit→Act→World→Prop} {l : List Oper} {st st' : AS} (v : Zm P base ops l st st')
    (hd : ∀ o∈ops,J7 k.tmps.size o.dst = true) (q : ∀ a' w',Kt base w0 Z0 inj0 d k Ds0 st' a' w'→Q .normal a' w') : ∀ (pre : List Oper) (a : Act) (w : World),ops.toList = pre ++ l→Kt base w0 Z0 inj0 d k Ds0 st a w→Yg ro w→
    wpOpsIn (Fw ro) 0 P ops Q (List.range' pre.length l.length) a w:=by
  have one : ∀ {o : Oper} {l : List Oper} {st st1 st2 : AS},Jl P base ops o st st1→(∀ (pre : List Oper) (a : Act) (w : World),ops.toList = pre ++ l→Kt base w0 Z0 inj0 d k Ds0 st1 a w→Yg ro w→wpOpsIn (Fw ro) 0 P ops Q (List.range' pre.length l.length) a w)→
      ∀ (pre : List Oper) (a : Act) (w : World),ops.toList = pre ++ o::l→Kt base w0 Z0 inj0 d k Ds0 st a w→Yg ro w→wpOpsIn (Fw ro) 0 P ops Q (List.range' pre.length (o::l).length) a w:=by
    intro o l st st1 st2 hs m pre a w p hp c
    have r : ops[pre.length]? = some o:=by rw [← Array.getElem?_toList,p];simp
    rw [List.length_cons,List.range'_succ,wpOpsIn_cons]
    refine qfa r ?_
    refine hp.bind fun Z' inj' h b g j _ f=>?_
    refine hs ro Q w Z' inj' a h _ b (by rw [g];exact hd o (Array.mem_of_getElem? r)) j c fun a' w' hp'=>?_
    have:=m (pre ++ [o]) a' w' (by rw [p];simp) (f _ _ _ hp') (hp'.round c)
    simpa using this
  induction v with
  | nil=>intro pre a w _ hp _;simpa [wpOpsIn] using q _ _ hp
  | cons hs _ m=>exact one (st2:=st) hs (m q)
  | wk hw _ m=>
    intro pre a w p hp c;refine m q pre a w p ?_ c;obtain ⟨Z',inj',h,x,s,u,y,t⟩:=hp;obtain ⟨b,n⟩:=q20 x hw;exact ⟨_,_,h,b,s.trans n (Nat.le_refl _),u,hw.bs,t⟩
theorem qo3 {id : Nat} {ops : Array Oper} (f : Zm P base ops ops.toList st st1) : Kv P base (.region id ops false) st .nor st1:=by
  refine U2 qe fun ro w Z inj a Ds h b hb c=>wpIn_region ?_
  have hd : ∀ o∈ops,J7 a.tmps.size o.dst = true:=by
    intro o d;simp only [codeOk,List.all_eq_true] at b;exact b o (by simpa using d)
  have:=qoc (Q:=CP base w Z inj st a Ds .nor st1) f hd (fun a' w' hp=>⟨rfl,hp⟩) [] a w rfl (Kt.refl h hb) c;rw [List.range_eq_range'];simpa using this
theorem qo4 {id : Nat} {ops : Array Oper} {F : List Fp} (f : P.follows .mixedOrders = true) (d : Jk P base ops F ops.toList st st1) (hd : q7d F ops = true) : Kv P base (.region id ops true) st .nor st1:=
  U2 qe fun ro w Z inj a Ds h b hb c=>qtm f (qoz hd) d h b hb c fun a' w' hp=>⟨rfl,hp⟩
theorem qpy {ops : Array Oper} {o : Oper} {c : Call} {g : Operand} {n : Nat} {vs : List V} {s s1 s2 : List (Nat × V)} {k : List Tmp} {assign body : Code}
    (hg : Qp ops st o = some true) (ho : o.op = .call c) (v : c.callee = .value g) (bm : st.ev g = some (.yld n)) (bc : evL st.ev c.args.toList = some vs)
    (z : st.blk n = some (.loop s k assign body .ready none)) (al : k.length = vs.length)
    (h1 : Kv P st.nx assign {sl:=q1p s k vs,hp:=st.hp,nx:=st.nx} .nor st1) (bn : st1.blk n = some (.loop s1 k assign body .ready none))
    (h2 : Kv P st.nx body (st1.setBlk n (.loop s1 k assign body .busy none)) ex st2) (ax : st2.blk n = some (.loop s2 k assign body .busy none)) :
    Jl P base ops o st ({sl:=st.sl,hp:=repl st2.hp n (.loop s2 k assign body (if ex = .nor then .ready else .done) ex.code),nx:=st2.nx : AS}.putD o.dst (.d (.bool (decide (ex = .nor))))):=by
  intro ro Q w Z inj a Ds K h hd hb cq hK;unfold Ue;rw [q3i h hg];simp only [if_true];refine ⟨fun _ _=>trivial,?_⟩;have hr:=Kb h bm;obtain ⟨b,r,hi,hw,es,ep,ak,bk,be,ac,bd,_⟩:=qet (ls':=.ready) (pe':=none) (pin:=0) h.heap z;generalize bb : a.eval g = gv at hr
  cases hr with | @yld _ b' o' hlt hi'=>
  rw [hi] at hi';cases hi';have hl:=q7i h bc;have e2 : (c.args.toList.map a.eval).toArray = c.args.map a.eval:=by apply Array.ext';simp
  rw [e2] at hl;have ay : (c.args.map a.eval).size = r.params.size:=by rw [← hl.1,ak];simp [al]
  have ao : (execOp a.eval o).run P w = .ok (.round b r.fn ((r.params.zip (c.args.map a.eval)).foldl (fun tmps (t,a)=>tmps.setIfInBounds t a) r.tmps) r.assign r.body) w:=by
    have:=run_yield (P:=P) hw ay;obtain ⟨dst,op,type,pos,after,guard⟩:=o;simp only at ho;subst ho;obtain ⟨cw,args,argTypes⟩:=c;simp only at v;subst v;simp only [execOp,resolve,Sem.run_bind,bb,Deferred.ofValue,Sem.run_pure,Result.andThen_ok,invoke];simpa using this
  rw [show (Fw ro).round = ro from rfl,Oper.semAt_eq ro _ o (by rintro c' h';rw [ho] at h';cases h'),ao,Oper.uponIn_round];refine ⟨fun h=>by simp [Fw] at h,?_⟩;refine roundIn_of_wpIn trivial ?_
  have af : (r.params.zip (c.args.map a.eval)).foldl (fun tmps (t,a)=>tmps.setIfInBounds t a) r.tmps = (k.zip (c.args.map a.eval).toList).foldl (fun tmps (x : Tmp × Value)=>tmps.setIfInBounds x.1 x.2) r.tmps:=by
    rw [ak,← Array.foldl_toList,Array.toList_zip]
  obtain ⟨y,f⟩:=qkk k vs (c.args.map a.eval).toList s r.tmps (by rw [Array.length_toList];exact hl.1) (fun i d c h1 h2=>hl.2 i d c h1 (by rw [← Array.getElem?_toList];exact h2)) ac.2.2 bd;rw [af,bk,be];generalize (k.zip (c.args.map a.eval).toList).foldl (fun tmps (x : Tmp × Value)=>tmps.setIfInBounds x.1 x.2) r.tmps = tm at y f;have ab : RelS w Z inj {sl:=q1p s k vs,hp:=st.hp,nx:=st.nx} {tmps:=tm,defers:=[]} []:=⟨y,h.heap,rfl,qe,qe⟩
  have u : Yg (some b) w:=fun l hl=>by cases hl;exact ⟨r,hw⟩
  refine wpIn_mono (h1 (some b) w Z inj _ [] ab (by show codeOk tm.size assign = true;rw [f];exact ac.1) (Nat.le_refl _) u).1 ?_;rintro e a1 w1 ⟨rfl,Z1,m,aj,g1,g2,g3,g4,g5⟩;have ae : n < st.nx:=(h.heap.blk n _ z).1;obtain ⟨b1,r1,i1,bi,bf,an,ca,bw,ce,br,ck,bg,j⟩:=qet (ls':=.busy) (pe':=none) (pin:=st.nx) g1.heap bn;rw [g2.pinj n ae,hi] at i1;cases i1;refine ⟨_,run_beginRound bi bf,?_⟩;have e5 : ({r1 with state:=.busy} : Loop) = {r1 with state:=.busy,pending:=none}:=by cases r1;simp only at an;subst an;rfl
  rw [e5]
  have ad : RelS (w1.putObj b (.loop {r1 with state:=.busy,pending:=none})) Z1 m (st1.setBlk n (.loop s1 k assign body .busy none)) a1 aj:=
    ⟨g1.slots.mono (j.zkeep g1.heap) j.zin j.big (fun _ _=>rfl) (Nat.le_refl _),bg,g1.defs,g1.nodup,fun D hD=>j.marks g1.heap (g1.marks D hD)⟩
  have ai : Yg (some b) (w1.putObj b (.loop {r1 with state:=.busy,pending:=none})):=(u.ext g2).ext j;refine wpIn_mono (h2 (some b) _ Z1 m a1 aj ad (by rw [g3];show codeOk tm.size body = true;rw [f];exact ac.2.1) g4 ai).1 ?_;rintro e a3 w3 ⟨rfl,Z3,ah,cu,k1,k2,k3,k4,k5⟩;obtain ⟨b3,r3,i3,az,cv,co,bq,ch,cm,cc,bs,ba,au⟩:=qet (ls':=if ex = .nor then .ready else .done) (pe':=ex.code) (pin:=st.nx) k1.heap ax;have bl : m n = some (b,0):=(g2.pinj n ae).trans hi;rw [k2.pinj n ae,bl] at i3;cases i3
  have p : K (a.put o.dst (.bool (decide (ex = .nor)))) (w3.putObj b (.loop {r3 with state:=if ex = .nor then .ready else .done,pending:=ex.code})):=by
    have aq : Ext w Z inj st.hp (w3.putObj b (.loop {r3 with state:=if ex = .nor then .ready else .done,pending:=ex.code})) Z3 ah (repl st2.hp n (.loop s2 k assign body (if ex = .nor then .ready else .done) ex.code)) st.nx:=
      ((g2.trans j (Nat.le_refl _)).trans k2 (Nat.le_refl _)).trans au (Nat.le_refl _)
    exact hK _ _ (q3m h hb aq ba k4 (.d (.bool _)) hd)
  have q:=run_endRound (P:=P) ex.code az
  cases ex with
  | nor=>exact ⟨_,_,q,p⟩
  | ret=>exact ⟨_,_,q,p⟩
  | exit id=>exact ⟨_,_,q,p⟩
end
end Go.Am
namespace Go.Am
open Go
variable {P : Program} {T : Tab}
section
variable {base : Nat} {st st1 st2 : AS} {ex : Ex}
theorem qnl {ro : Option Nat} {f : FuncId} {xs : Array Value} {w : World} {R : Ending→World→Prop} (h : CallsIn (Fw none) 0 P f xs w R) : CallsIn (Fw ro) 0 P f xs w R:=by
  cases ro <;> exact h
theorem qrc {w : World} {Ds : List Nat} (h : Ds.Nodup) (b : ∀ D∈Ds,w.heap[D]? = some (.deferred (some []))) : (w.heap.size::Ds).Nodup:=
  List.nodup_cons.2 ⟨fun a=>by have:=J5 (b _ a);omega,h⟩
theorem qo2 {g : Operand} {k : Array Tmp} {assign body : Code} {f : FuncId} {u : List V} {v : V} {hp : List (Nat × Blk)} {nx : Nat} {pe : Option Code} {s : List (Nat × V)} {ls : LoopState}
    (hg : st.ev g = some (.fn f u)∨∃ ds,st.ev g = some (.d (.fn f ds))∧u = ds.map .d)
    (y : Jj P f (.yld st.nx::u) ((st.nx,.loop st.sl k.toList assign body .ready none)::st.hp) (st.nx + 1) v hp nx)
    (ah : find hp st.nx = some (.loop s k.toList assign body ls pe)) (bn : ls≠.busy) (aq : pe = ex.code) : Kv P base (.rangeFunc g k assign body) st ex {sl:=st.sl,hp:=repl hp st.nx .dead,nx:=nx}:=by
  refine U2 qe fun ro w Z inj a Ds h ab hb bg=>wpIn_rangeFunc fun fn _=>?_;simp only [codeOk,Bool.and_eq_true,List.all_eq_true,Nat.blt_eq] at ab
  have an : ∃ cs : Array Value,a.eval g = .func (.func f) #[] cs∧LRel w Z inj st.nx u cs:=by
    rcases hg with hg | ⟨ds,hg,rfl⟩
    · have hr:=Kb h hg;generalize a.eval g = gv at hr ⊢
      cases hr with | @fn _ _ cs h1 h2=>
      exact ⟨cs,rfl,h1,h2⟩
    · have hr:=Kb h hg;generalize a.eval g = gv at hr ⊢
      cases hr with | d hr=>
      cases hr with | @fn _ _ cs h1 h2=>
      refine ⟨cs,rfl,by simpa using h1,fun i d c hd hc=>?_⟩;simp only [List.getElem?_map,Y4] at hd;obtain ⟨d',hd,rfl⟩:=hd;exact .d (h2 i d' c hd hc)
  obtain ⟨cs,bi,aw⟩:=an
  have rest : ∀ (n : World) (l : Nat) (mark : List Deferred) (r : Loop) (Dn : List Nat),(Instr.enterLoop fn a.tmps k assign body (Fw ro).round).run P w = .ok (l,mark) n→
      n.heap[l]? = some (.loop r)→r.state = .ready→r.pending = none→
      RelH n Z (upd inj st.nx (some (l,0))) ((st.nx,.loop st.sl k.toList assign body .ready none)::st.hp) (st.nx + 1)→
      Ext w Z inj st.hp n Z (upd inj st.nx (some (l,0))) ((st.nx,.loop st.sl k.toList assign body .ready none)::st.hp) st.nx→
      mark = Dn.map (fun D=>{target:=.collected D,args:=#[]})→(Dn ++ Ds).Nodup→(∀ D∈Dn,n.heap[D]? = some (.deferred (some []))∧w.heap.size≤D)→
      ∃ (l : Nat) (mark : List Deferred) (w₁ : World) (d : Deferred) (af : World) (f : FuncId) (args : Array Value) (w₂ : World),
      (Instr.enterLoop fn a.tmps k assign body (Fw ro).round).run P w = .ok (l,mark) w₁∧
      (resolve a.eval (rangeCall g l) 0).run P w₁ = .ok d af∧
      (∀ f',Target.leads P af d.target d.args = some f'→(Fw ro).fn f')∧
      (invoke d.target d.args).run P af = .ok (.enter f args) w₂∧
      ((Fw ro).depth.isSome = true→1≤0)∧
      CallsIn (Fw ro) (0 - 1) P f args w₂ (rangePost (Fw ro) 0 P l (CP base w Z inj st a Ds ex {sl:=st.sl,hp:=repl hp st.nx .dead,nx:=nx}) {a with defers:=mark ++ a.defers}):=by
    intro n l mark r Dn z cn ci bs az aa ai bj ax
    refine ⟨l,mark,n,{target:=.fn (.func f) cs,args:=#[.func (.yield l) #[] #[]]},n,f,#[.func (.yield l) #[] #[]] ++ cs,n,z,?_,fun _ _=>trivial,?_,fun h=>by simp [Fw] at h,?_⟩
    · simp only [resolve,bi];simp [Deferred.ofValue,Act.eval]
    · simp [invoke,y.1]
    · refine qnl (CallsIn.mono (y.2 n Z _ _ az ?_) ?_)
      · refine ⟨by simp [aw.1];omega,fun i d c hd hc=>?_⟩
        cases i with
        | zero=>
          rw [Array.getElem?_append_left qe] at hc;simp at hd hc;subst hd hc;exact .yld q0 (Ky _ _ _)
        | succ i=>
          rw [Array.getElem?_append_right qe] at hc;simp at hd hc;exact (aw.2 i d c hd hc).mono (fun b hz=>aa.keep b (h.heap.zs b hz) (h.heap.z_im hz)) (fun _ h=>h) aa.big (fun m hm=>aa.pinj m hm) q0
      · rintro e w3 ⟨x,Z',inj',rfl,bh,ae,ck,co⟩
        obtain ⟨b3,r3,i3,ap,bm,ao,ak⟩:=qts (pin:=st.nx) bh ah
        obtain ⟨bo,bl⟩:=ak {r3 with state:=.exhausted} rfl
        have bk : b3 = l:=by
          have:=ae.pinj st.nx q0;rw [Ky,i3] at this;cases this;rfl
        subst bk
        refine ⟨r3.pending,_,run_endLoop ap (by rw [bm];exact bn),?_⟩
        have hE : Ext w Z inj st.hp (w3.putObj b3 (.loop {r3 with state:=.exhausted})) Z' inj' (repl hp st.nx .dead) st.nx:=(aa.trans ae q0).trans bl (Nat.le_refl _)
        have t : Kt base w Z inj st a Ds {sl:=st.sl,hp:=repl hp st.nx .dead,nx:=nx} {a with defers:=mark ++ a.defers} (w3.putObj b3 (.loop {r3 with state:=.exhausted})):=by
          refine ⟨Z',inj',Dn ++ Ds,⟨?_,bo,?_,bj,?_⟩,hE.pin_le hb,rfl,by show base≤nx;omega,?_⟩
          · exact h.slots.mono (hE.zkeep h.heap) hE.zin hE.big hE.pinj (by show st.nx≤nx;omega)
          · simp [ai,h.defs]
          · intro D q;rcases List.mem_append.1 q with q | q
            · obtain ⟨h5,h6⟩:=ax D q;have h7:=ae.marks az h5;rw [World.putObj_heap_other (fun e=>by rw [e] at h7;rw [ap] at h7;cases h7)];exact h7
            · exact hE.marks h.heap (h.marks D q)
          · intro D q;rcases List.mem_append.1 q with q | q
            · exact .inr (ax D q).2
            · exact .inl q
        rw [ao,aq] at t
        rw [ao,aq]
        cases ex with
        | nor=>exact ⟨rfl,t⟩
        | exit id=>exact wpIn_exit ⟨rfl,t⟩
        | ret=>exact wpIn_ret ⟨rfl,t⟩
  have ad : ∀ (n : World) (l : Nat) (r : Loop),r.state = .ready→r.pending = none→r.tmps = a.tmps→r.params = k→r.assign = assign→r.body = body→Yq n Z (upd inj st.nx (some (l,0))) (st.nx + 1) st.sl a.tmps→
      n.heap[l]? = some (.loop r)→RelB n Z (upd inj st.nx (some (l,0))) (st.nx + 1) st.nx (.loop st.sl k.toList assign body .ready none):=by
    rintro n l r e1 e2 e3 e4 e5 e6 hs hl
    obtain ⟨f1,f2,f3,f4,f5,f6,f7,f8⟩:=r
    simp only at e1 e2 e3 e4 e5 e6
    subst e1 e2 e3 e4 e5 e6
    exact ⟨l,_,_,_,Ky _ _ _,hl,⟨ab.1.2,ab.2,fun p hp=>ab.1.1 p hp⟩,hs⟩
  cases ro with
  | none=>
    have ar : RelH (w.alloc (.deferred (some []))) Z inj st.hp st.nx:=h.heap.grow fun b hb=>Zv w _ hb
    have ag : ∀ o,Yq ((w.alloc (.deferred (some []))).alloc o) Z (upd inj st.nx (some (w.heap.size + 1,0))) (st.nx + 1) st.sl a.tmps:=fun o=>
      h.slots.mono (fun b hz=>by have:=h.heap.zs b hz;rw [Zv _ _ (by simp;omega),Zv _ _ this]) (fun _ h=>h)
        (fun b c e f hb=>by obtain ⟨c1,e1,f1,h1,s1⟩:=q2m w (.deferred (some [])) b c e f hb;obtain ⟨c2,e2,f2,h2,s2⟩:=q2m _ o b c1 e1 f1 h1;exact ⟨c2,e2,f2,h2,s2.trans s1⟩) (fun _ hm=>Yb _ _ hm) q0
    have j:=Jp (w.alloc (.deferred (some []))) (.loop {state:=.ready,pending:=none,fn,tmps:=a.tmps,params:=k,assign,body,defers:=w.heap.size});rw [World.size_alloc] at j;have hB:=ad _ (w.heap.size + 1) {state:=.ready,pending:=none,fn,tmps:=a.tmps,params:=k,assign,body,defers:=w.heap.size} rfl rfl rfl rfl rfl rfl (ag _) j;have hn:=ar.new (.loop {state:=.ready,pending:=none,fn,tmps:=a.tmps,params:=k,assign,body,defers:=w.heap.size}) (.loop st.sl k.toList assign body .ready none) 0 (by rw [World.size_alloc];exact hB);have he:=Ext.new ar (.loop {state:=.ready,pending:=none,fn,tmps:=a.tmps,params:=k,assign,body,defers:=w.heap.size}) (.loop st.sl k.toList assign body .ready none) 0;rw [World.size_alloc] at hn he;refine rest _ (w.heap.size + 1) _ _ [w.heap.size] (run_enterLoop_outer fn a.tmps k assign body) j rfl rfl hn ((Ext.alloc _).trans he (Nat.le_refl _)) rfl (qrc h.nodup h.marks) ?_;intro D q;simp at q;subst q;exact ⟨by rw [Zv _ _ qe];exact Jp _ _,Nat.le_refl _⟩
  | some l0=>
    obtain ⟨r0,br⟩:=bg l0 rfl
    have ag : ∀ o,Yq (w.alloc o) Z (upd inj st.nx (some (w.heap.size,0))) (st.nx + 1) st.sl a.tmps:=fun o=>
      h.slots.mono (fun b hz=>Zv _ _ (h.heap.zs b hz)) (fun _ h=>h) (q2m w o) (fun _ hm=>Yb _ _ hm) q0
    have j:=Jp w (.loop {state:=.ready,pending:=none,fn,tmps:=a.tmps,params:=k,assign,body,defers:=r0.defers});have hB:=ad _ w.heap.size {state:=.ready,pending:=none,fn,tmps:=a.tmps,params:=k,assign,body,defers:=r0.defers} rfl rfl rfl rfl rfl rfl (ag _) j;exact rest _ w.heap.size _ _ [] (run_enterLoop_inner br fn a.tmps k assign body) j rfl rfl (h.heap.new _ _ 0 hB) (Ext.new h.heap _ _ 0) rfl (by simpa using h.nodup) qe
theorem qnn {f : FuncId} {fn : Func} {c : Code} {j : List V} {hp : List (Nat × Blk)} {nx : Nat} {v : V} (y : Yy P T) (q : P.funcs[f]? = some fn) (hb : fn.body = some c) (a : (fn.name == "runtime.NumGoroutine") = false) (m : codeOk fn.ntmps c = true) (aa : j.length ≤ fn.ntmps)
    (hc : Kv P nx c {sl:=Y5 0 j,hp:=hp,nx:=nx} ex st) (t : ex = .nor∨ex = .ret) (d : resV T st fn.results.toList = some v) : Jj P f j hp nx v st.hp st.nx:=by
  refine ⟨fun args w=>?_,fun w Z inj xs h g=>?_⟩
  · unfold callFunc
    have o : ¬ fn.name = "runtime.NumGoroutine" := by simpa using a
    simp [q,o,hb]
  · refine callsIn_of_wp_marks q hb trivial ?_
    have k : (xs ++ Array.replicate (fn.ntmps - xs.size) undef).size = fn.ntmps:=by
      have:=g.1;simp;omega
    have z : RelS w Z inj {sl:=Y5 0 j,hp:=hp,nx:=nx} {tmps:=xs ++ Array.replicate (fn.ntmps - xs.size) undef,defers:=[]} []:=⟨qtv _ g,h,rfl,qe,qe⟩
    refine wpIn_mono (hc none w Z inj _ [] z (by show codeOk (xs ++ Array.replicate (fn.ntmps - xs.size) undef).size c = true;rw [k];exact m) (Nat.le_refl _) (fun l g=>by cases g)).1 ?_;rintro e a' w' ⟨rfl,Z',inj',n,b,u,g3,g4,g5⟩
    have p:=qiu (P:=P) (fn:=fn) (pin:=nx) (w0:=w) (Z0:=Z) (inj0:=inj) (hp0:=hp) y d
      (R:=fun e w'=>∃ x Z' inj',e = .returned x∧RelH w' Z' inj' st.hp st.nx∧Ext w Z inj hp w' Z' inj' st.hp nx∧RelV w' Z' inj' st.nx v x∧nx≤st.nx)
      (fun x w' Z' inj' s k2 k3=>⟨x,Z',inj',rfl,s,k2,k3,g4⟩) n w' Z' inj' a' b.slots b.heap u b.nodup (fun D r=>⟨b.marks D r,(g5 D r).resolve_left qe⟩)
    rcases t with rfl | rfl
    · show LeavesInM (Fw none) 0 P fn a'.tmps _ a'.defers .returning w';rw [b.defs];exact p
    · show LeavesInM (Fw none) 0 P fn a'.tmps _ a'.defers .returning w';rw [b.defs];exact p
end
theorem qnm {f : FuncId} {m : List V} {hp hp' hp1 : List (Nat × Blk)} {nx nx' nx1 : Nat} {v g : V} {ρ : Nat→Nat} {fz ph : List Nat} (h : Jj P f m hp nx v hp' nx') (l : Wk nx ρ fz ph {sl:=[(0,v)],hp:=hp',nx:=nx'} {sl:=[(0,g)],hp:=hp1,nx:=nx1}) : Jj P f m hp nx g hp1 nx1:=by
  refine ⟨h.1,fun w Z inj xs o n=>(h.2 w Z inj xs o n).mono ?_⟩;rintro e w' ⟨x,Z',inj',rfl,j,r,p,s⟩
  have b : RelS w' Z' inj' {sl:=[(0,v)],hp:=hp',nx:=nx'} {tmps:=#[x],defers:=[]} []:=by
    refine ⟨fun t u c=>?_,j,rfl,List.nodup_nil,qe⟩;rw [Ks] at c;split at c
    · rename_i e;subst e;cases c;exact ⟨x,rfl,p⟩
    · simp [find] at c
  obtain ⟨a,d⟩:=q20 b l;obtain ⟨y,k,q⟩:=a.slots 0 g (by simp [find]);simp at k;subst k;exact ⟨x,_,_,rfl,a.heap,r.trans d (Nat.le_refl _),q,l.bs⟩
theorem qno (hT : Yy P T) (hm : P.follows .mixedOrders = true) {f : FuncId} {u : List V} {hp : List (Nat × Blk)} {nx : Nat} {v : V} {hp' : List (Nat × Blk)} {nx' : Nat} (h : K9 P T f u hp nx v hp' nx') : Jj P f u hp nx v hp' nx':=by
  refine K9.rec (motive_1:=fun base c st ex st' _=>Kv P base c st ex st') (motive_2:=fun base ops dr l st st' _=>q13 P base ops dr l st st') (motive_3:=fun f u hp nx v hp' nx' _=>Jj P f u hp nx v hp' nx')
    ?_ ?_ ?_ ?_ ?_ ?_ ?_ ?_ ?_ ?_ ?_ ?_ ?_ ?_ ?_ ?_ ?_ ?_ ?_ ?_ ?_ ?_ ?_ ?_ ?_ ?_ h
  · exact qo8
  · exact fun _ _ a d=>qo6 a d
  · exact fun _ q a=>qo7 a q
  · exact fun k _ a=>qny k a
  · exact fun k _ a=>qnx k a
  · exact fun _ a=>qnw a
  · exact qnz
  · exact qo5
  · exact fun _ _ a d=>qo0 a d
  · exact fun _ q a=>qo1 a q
  · exact fun _ a=>qo3 a
  · exact fun _ hd a=>qo4 hm a hd
  · exact fun t _ a=>qo9 t a
  · exact fun b _ n ae ac a=>qo2 b a n ae ac
  · exact fun {_ _ dr _}=>by cases dr <;> exact .nil
  · exact fun b _ a=>qnu b a
  · exact fun b g n _ a=>qns hT b g n a
  · exact fun b g _ hn hh n y _ a=>qnt hT b g hn hh n y a
  · exact fun b g k ad _ z ai hs y _ a d=>qnr b g k ad a z ai hs y d
  · exact fun b g k _ _ a d=>Zm.cons (qzc b g k a) d
  · exact fun b g k j af _ w hb _ a d=>Zm.cons (qpv b g k j af a w hb) d
  · exact fun b g p ag o r j _ ah _ x _ a d h3=>Zm.cons (qpy b g p ag o r j a ah d x) h3
  · exact fun t _ a=>Zm.wk t a
  · exact fun hp _ _ a d=>Jk.piv hp a d
  · exact fun n hb m ab o _ q s a=>qnn hT n hb m ab o a q s
  · exact fun _ t a=>qnm a t
end Go.Am
namespace Go.Am
open Go
open Go.ChangeShapes Go.WideShapes Go.ChangeAt Go.RowKit Go.Deep
inductive CT where
  | int (k : IntKind)
  | bool
  | str
  | sl (l : List CT)
def q9v (P : Program) (f : TypeId→Option (List CT)) : Nat→List Field→Option (List CT)
  | _,[]=>some []
  | o,x::r=>match f x.type with
    | some a=>if x.offset = o∧P.cellsOf x.type = a.length then
        match q9v P f (o + a.length) r with
        | some b=>some (a ++ b)
        | none=>none
      else none
    | none=>none
def tyL (P : Program) : Nat→TypeId→Option (List CT)
  | 0,_=>none
  | f + 1,t=>match P.underlying t with
    | some .bool=>some [.bool]
    | some (.int k)=>some [.int k]
    | some .string=>some [.str]
    | some (.slice e)=>match tyL P f e with
      | some l=>if l.length = P.cellsOf e∧l.length≠0 then some [.sl l] else none
      | none=>none
    | some (.struct fs)=>match q9v P (tyL P f) 0 fs.toList with
      | some l=>if l.length = P.cellsOf t then some l else none
      | none=>none
    | _=>none
inductive Ty : CT→DV→Prop
  | int {k : IntKind} {n : Int} : (Lit.int k n).wf = true→Ty (.int k) (.int k n)
  | bool (b : Bool) : Ty .bool (.bool b)
  | str {s : ByteArray} : s.size≤maxLen→Ty .str (.str s)
  | nil (l : List CT) : Ty (.sl l) .nilsl
  | sl {l : List CT} {xs : List (List DV)} : xs.length≤maxLen→(∀ (i : Nat) (x : List DV),xs[i]? = some x→x.length = l.length)→
      (∀ (i : Nat) (x : List DV) (j : Nat) (c : CT) (d : DV),xs[i]? = some x→l[j]? = some c→x[j]? = some d→Ty c d)→Ty (.sl l) (.sl l.length xs)
section
variable {H : Type} {enc : TypeId × Value→H} {P : Program} {w : World} {base : Nat} {held : Bool}
def ZC (w : World) (b : Nat) : Prop:=∃ c e f,w.heap[b]? = some (.cells c e f)
theorem Ty.cell {c : CT} {d : DV} (h : Ty c d) : Yd d = true:=by cases h <;> rfl
def Reads (w : World) (l : List CT) (cs : List Value) : Prop:=
  cs.length = l.length∧∃ ds : List DV,ds.length = l.length∧∀ (j : Nat) (c : CT) (v : Value),l[j]? = some c→cs[j]? = some v→∃ d,ds[j]? = some d∧Ty c d∧RelD w (ZC w) d v
theorem q50 {c : CT} {v : Value} {d : DV} (f : Ty c d) (g : RelD w (ZC w) d v) : Reads w [c] [v]:=by
  refine ⟨rfl,[d],rfl,fun j k h a b=>?_⟩
  cases j with
  | zero=>simp at a b;subst a b;exact ⟨d,rfl,f,g⟩
  | succ j=>simp at a
theorem qtc {l l' : List CT} {cs a : List Value} (h : Reads w l cs) (q : Reads w l' a) : Reads w (l ++ l') (cs ++ a):=by
  obtain ⟨n,ds,o,p⟩:=h;obtain ⟨b1,m,r,t⟩:=q;refine ⟨by simp [n,b1],ds ++ m,by simp [o,r],fun j c v b f=>?_⟩;by_cases s : j < l.length
  · rw [List.getElem?_append_left s] at b;rw [List.getElem?_append_left q0] at f;obtain ⟨d,g,k⟩:=p j c v b f;exact ⟨d,by rw [List.getElem?_append_left q0];exact g,k⟩
  · rw [List.getElem?_append_right q0] at b;rw [List.getElem?_append_right q0,n] at f;obtain ⟨d,g,k⟩:=t _ c v b f;exact ⟨d,by rw [List.getElem?_append_right q0,o];exact g,k⟩
theorem qmf {f : TypeId→Option (List CT)} {g : Field→List Value→Prop} (j : ∀ (x : Field) (l : List CT) (cs : List Value),f x.type = some l→g x cs→Reads w l cs) :
    ∀ (d : List Field) (o : Nat) (l : List CT) (cs : List Value),q9v P f o d = some l→o + l.length = cs.length→(∀ x∈d,g x ((cs.drop x.offset).take (P.cellsOf x.type)))→Reads w l (cs.drop o)
  | [],o,l,cs,h,hl,_=>by
    simp [q9v] at h;subst h
    simp at hl
    rw [hl]
    exact ⟨qe,[],rfl,qe⟩
  | x::r,o,l,cs,h,hl,hx=>by
    simp only [q9v] at h
    split at h <;> try simp at h
    rename_i a k
    obtain ⟨⟨p,m⟩,h⟩:=h
    split at h <;> simp at h
    rename_i b hb
    subst h
    have c:=j x a _ k (hx x qe)
    rw [p,m] at c
    have n:=qmf j r (o + a.length) b cs hb (by simp at hl;omega) (fun y q=>hx y (by simp [q]))
    have:=qtc c n
    rw [← List.drop_drop] at this
    rwa [List.take_append_drop] at this
theorem qc1 : ∀ (f : Nat) (t : TypeId) (l : List CT) (fuel : Nat) (cs : List Value) (x : DataW H × List MemPlace),tyL P f t = some l→DataW.trod enc P w base (fun _=>true) held fuel t cs = some x→Reads w l cs
  | 0,t,l,fuel,cs,x,hl,h=>by simp [tyL] at hl
  | f + 1,t,l,fuel,cs,x,hl,h=>by
    simp only [tyL] at hl
    split at hl <;> try simp at hl
    · rename_i ht
      subst hl
      cases fuel with
      | zero=>simp [DataW.trod] at h
      | succ n=>
        unfold DataW.trod at h
        rw [ht] at h
        split at h <;> simp_all
        exact q50 (.bool _) (.bool _)
    · rename_i k ht
      subst hl
      obtain ⟨n,rfl,_,hw⟩:=DataW.trod_int ht h
      exact q50 (.int hw) (.int _ _)
    · rename_i ht
      subst hl
      cases fuel with
      | zero=>simp [DataW.trod] at h
      | succ n=>
        unfold DataW.trod at h
        rw [ht] at h
        split at h <;> simp_all
        exact q50 (.str q0) (.str _)
    · rename_i e ht
      split at hl <;> simp at hl
      rename_i le av
      obtain ⟨⟨u,an⟩,rfl⟩:=hl
      rcases open_slice ht h with ⟨rfl,_⟩ | ⟨a,len,cap,m,n,D,Pl,rfl,_,aq,bg,hm,_,ao⟩
      · exact q50 (.nil _) .nilsl
      · obtain rfl : cap = m:=by simpa using hm.symm
        have elem : ∀ i,i < cap→∃ p,w.cells? base (a.add (i * P.cellsOf e)) (P.cellsOf e) = some p∧Reads w le p:=by
          intro i hi;obtain ⟨p,h1,h2⟩:=ao i hi;exact ⟨p,h1,qc1 f e le n p _ av h2⟩
        have ba : 0 < P.cellsOf e:=by rw [← u];exact List.length_pos_iff.2 an
        by_cases am : cap = 0
        · subst am
          have : len = 0:=by omega
          subst this
          exact q50 (.sl (xs:=[]) qe qe qe) (.slemp _ _)
        · have af : a.spot = none∧ZC w a.block:=by
            obtain ⟨p,h1,_⟩:=elem 0 q0;obtain ⟨_,h2,h3⟩:=World.cells?_some h1;have:=h3 0 q0;obtain ⟨v,hv⟩:=Zp (xs:=p) (i:=0) q0;rw [hv] at this;simp [World.cell?,Addr.add] at this;split at this <;> try simp at this
            rename_i c e' f' hc;exact ⟨this.1,c,e',f',hc⟩
          obtain ⟨b,o,sp⟩:=a
          obtain ⟨al,hz⟩:=af
          simp only at al hz;subst al
          have ad : ∀ i,i < len→∃ ds : List DV,ds.length = le.length∧∀ (j : Nat) (c : CT),le[j]? = some c→∃ d v,ds[j]? = some d∧Ty c d∧w.cell? ⟨b,o + (i * le.length + j),none⟩ = some v∧RelD w (ZC w) d v:=by
            intro i hi;obtain ⟨p,h1,h4,ds,h5,h6⟩:=elem i q0;obtain ⟨_,h2,h3⟩:=World.cells?_some h1;refine ⟨ds,h5,fun j c hj=>?_⟩;have bb:=Ke hj;obtain ⟨v,hv⟩:=Zp (xs:=p) (i:=j) q0;obtain ⟨d,z,g2,g3⟩:=h6 j c v hj hv;have:=h3 j q0;rw [hv,Jo,Jo,← u,Nat.add_assoc] at this;exact ⟨d,v,z,g2,this,g3⟩
          obtain ⟨F,hF⟩:=choose_lt ad
          have q : ∀ (i : Nat) (x : List DV),((List.range len).map F)[i]? = some x→i < len∧x = F i:=by
            intro i x s;simp only [List.getElem?_map,Y4] at s;obtain ⟨k,hk,rfl⟩:=s;have hi : i < len:=by simpa using Ke hk
            rw [List.getElem?_range hi] at hk;cases hk;exact ⟨hi,rfl⟩
          have r : ((List.range len).map F).length = len:=by simp
          have ab : RelD w (ZC w) (.sl le.length ((List.range len).map F)) (.slice (some ⟨b,o,none⟩) ((List.range len).map F).length cap):=by
            refine .sl (by rw [r];exact aq) (fun _=>hz) ?_ ?_ ?_
            · intro i x s;obtain ⟨hi,rfl⟩:=q i x s;exact (hF i hi).1
            · intro i x j d s hd;obtain ⟨hi,rfl⟩:=q i x s;obtain ⟨c,hc⟩:=Zp (xs:=le) (i:=j) (by rw [← (hF i hi).1];exact Ke hd);obtain ⟨d',v,z,g2,g3,g4⟩:=(hF i hi).2 j c hc;rw [hd] at z;cases z;exact ⟨g2.cell,v,g3⟩
            · intro i x j d v s hd hv;obtain ⟨hi,rfl⟩:=q i x s;obtain ⟨c,hc⟩:=Zp (xs:=le) (i:=j) (by rw [← (hF i hi).1];exact Ke hd);obtain ⟨d',v',z,g2,g3,g4⟩:=(hF i hi).2 j c hc;rw [hd] at z;cases z;rw [hv] at g3;cases g3;exact g4
          rw [r] at ab
          refine q50 (.sl (by rw [r];omega) ?_ ?_) ab
          · intro i x s
            obtain ⟨hi,rfl⟩:=q i x s
            exact (hF i hi).1
          · intro i x j c d s hc hd
            obtain ⟨hi,rfl⟩:=q i x s
            obtain ⟨d',v,z,g2,_⟩:=(hF i hi).2 j c hc
            rw [hd] at z;cases z
            exact g2
    · rename_i fs ht
      split at hl <;> simp at hl
      rename_i l' ap
      obtain ⟨u,rfl⟩:=hl
      obtain ⟨xs,n,_,_,bh,bj,hf⟩:=DataW.trod_struct ht h
      have:=qmf (P:=P) (w:=w) (f:=tyL P f) (g:=fun x cs=>∃ y,DataW.trod enc P w base (fun _=>true) held n x.type cs = some y) (fun x l cs h1 ⟨y,h2⟩=>qc1 f x.type l n cs y h1 h2) fs.toList 0 l' cs ap q0 ?_
      · simpa using this
      · intro x s
        obtain ⟨i,hi⟩:=List.getElem?_of_mem s
        have:=hf i x (by simpa using hi)
        obtain ⟨y,hy⟩:=Zp (xs:=xs) (i:=i) (by have:=Ke hi;simp at this;omega)
        exact ⟨y,by rw [this];exact hy⟩
end
end Go.Am
namespace Go.Am
open Go
open Go.ChangeShapes Go.WideShapes Go.ChangeAt Go.RowKit Go.Deep
theorem qzr {P : Program} {l : List (Nat × TI)} (h : l.map (fun x=>tiOf P x.1) = l.map (fun x=>some x.2)) : Yy P (qma l):=by
  intro t i a;have c:=Zx (show find l t = some i from a);obtain ⟨k,b⟩:=List.getElem?_of_mem c;have:=congrArg (fun r=>r[k]?) h;simp only [List.getElem?_map,b,Option.map_some] at this;exact qc8 this
def aggT (P : Program) (t : TypeId) : Bool:=match P.underlying t with
  | some (.struct _) | some (.array _ _)=>true
  | _=>false
inductive q24 : List (Bool × List CT)→List DV→Prop
  | nil : q24 [] []
  | one {c : CT} {d : DV} {ps : List (Bool × List CT)} {ds : List DV} : Ty c d→q24 ps ds→q24 ((false,[c])::ps) (d::ds)
  | agg {l : List CT} {xs : List DV} {ps : List (Bool × List CT)} {ds : List DV} : xs.length = l.length→(∀ (j : Nat) (c : CT) (d : DV),l[j]? = some c→xs[j]? = some d→Ty c d)→q24 ps ds→q24 ((true,l)::ps) (.agg xs::ds)
section
variable {H : Type} {enc : TypeId × Value→H} {P : Program} {T : Tab} {W : World} {base : Nat}
theorem qn8 {t : TypeId} {f : Nat} {l : List CT} {v : Value} {d : DataW H} {p : List MemPlace} (w : aggT P t = false) (o : tyL P f t = some l) (a : Value.okWide P W .any base t v) (h : DataW.Trod enc P W 0 (fun _=>true) true t v d p) :
    ∃ c x,l = [c]∧Ty c x∧RelD W (ZC W) x v:=by
  obtain ⟨fuel,hf⟩:=h;have m:=qc1 f t l fuel _ _ o hf
  have key : v.cells = #[v]→∃ c,l = [c]→∃ x,Ty c x∧RelD W (ZC W) x v:=by
    intro y;rw [y] at m;obtain ⟨h1,ds,z,u⟩:=m
    match l,h1 with
    | [c],_=>
      obtain ⟨x,_,r,q⟩:=u 0 c v rfl rfl;exact ⟨c,fun _=>⟨x,r,q⟩⟩
  have fin : v.cells = #[v]→∃ c x,l = [c]∧Ty c x∧RelD W (ZC W) x v:=by
    intro y;have j:=m.1;rw [y] at j m
    match l,j,m with
    | [c],_,m=>
      obtain ⟨_,ds,z,u⟩:=m;obtain ⟨x,_,r,q⟩:=u 0 c v rfl rfl;exact ⟨c,x,rfl,r,q⟩
  cases f with
  | zero=>simp [tyL] at o
  | succ f=>
    simp only [tyL] at o;split at o <;> try simp at o
    · rename_i g;obtain ⟨b,rfl⟩:=okWide_bool g a;exact fin rfl
    · rename_i k g;obtain ⟨n,rfl⟩:=okWide_int g a;exact fin rfl
    · rename_i g;obtain ⟨s,rfl⟩:=okWide_string g a;exact fin rfl
    · rename_i e g;obtain ⟨a0,len,cap,rfl⟩:=okWide_slice g a;exact fin rfl
    · rename_i fs g;simp [aggT,g] at w
theorem qn7 {t : TypeId} {f : Nat} {l : List CT} {v : Value} {d : DataW H} {p : List MemPlace} (b : aggT P t = true) (u : tyL P f t = some l) (a : Value.okWide P W .any base t v) (h : DataW.Trod enc P W 0 (fun _=>true) true t v d p) :
    ∃ xs : List DV,xs.length = l.length∧(∀ (j : Nat) (c : CT) (d : DV),l[j]? = some c→xs[j]? = some d→Ty c d)∧RelD W (ZC W) (.agg xs) v:=by
  obtain ⟨fuel,hf⟩:=h
  have s : ∃ cs,v = .agg cs:=by
    unfold aggT at b;unfold Value.okWide at a;split at b
    · rename_i q;simp only [q] at a;obtain ⟨cs,h,_⟩:=a;exact ⟨cs,h⟩
    · rename_i q;simp only [q] at a;obtain ⟨cs,h,_⟩:=a;exact ⟨cs,h⟩
    · simp at b
  obtain ⟨cs,rfl⟩:=s;obtain ⟨r,ds,m,o⟩:=qc1 f t l fuel _ _ u hf;simp only [Value.cells] at r o;refine ⟨ds,m,fun j c d k hd=>?_,.agg (by simpa [m] using r.symm) fun j d c hd k=>?_⟩
  · obtain ⟨v,s⟩:=Zp (xs:=cs.toList) (i:=j) (by rw [r];exact Ke k);obtain ⟨w,g,x,_⟩:=o j c v k s;rw [hd] at g;cases g;exact x
  · obtain ⟨y,n⟩:=Zp (xs:=l) (i:=j) (by rw [← m];exact Ke hd);obtain ⟨w,g,_,z⟩:=o j y c n (by simpa using k);rw [hd] at g;cases g;exact z
theorem qg3 {f : Nat} : ∀ (n : List TypeId) (a : List (Bool × List CT)) (m : List Value) (ds : List (DataW H)) (p : List MemPlace),n.map (fun t=>(aggT P t,tyL P f t)) = a.map (fun x=>(x.1,some x.2))→
    (∀ (j : Nat) t v,n[j]? = some t→m[j]? = some v→Value.okWide P W .any base t v)→DataW.TrodAll enc P W 0 (fun _=>true) true n m ds p→
    ∃ xs : List DV,q24 a xs∧xs.length = m.length∧∀ (j : Nat) (x : DV) (v : Value),xs[j]? = some x→m[j]? = some v→RelD W (ZC W) x v
  | [],a,m,ds,p,hp,hok,h=>by
    obtain ⟨rfl,rfl,rfl⟩:=trodAll_nil h
    cases a with
    | nil=>exact ⟨[],.nil,rfl,qe⟩
    | cons _ _=>simp at hp
  | t::n,a,m,ds,p,hp,hok,h=>by
    obtain ⟨v,r,d,w,q,q',rfl,rfl,rfl,h1,h2⟩:=trodAll_cons h
    cases a with
    | nil=>simp at hp
    | cons pr a=>
      obtain ⟨ag,l⟩:=pr
      simp only [List.map_cons,List.cons.injEq,Prod.mk.injEq] at hp
      obtain ⟨⟨o,hl⟩,hp⟩:=hp
      obtain ⟨xs,g1,g2,g3⟩:=qg3 n a r w q' hp (fun j t v ht hv=>hok (j + 1) t v (by simpa using ht) (by simpa using hv)) h2
      have b:=hok 0 t v rfl rfl
      cases ag with
      | false=>
        obtain ⟨c,x,rfl,s,z⟩:=qn8 o hl b h1
        refine ⟨x::xs,.one s g1,by simp [g2],fun j y u k g=>?_⟩
        cases j with
        | zero=>simp at k g;subst k g;exact z
        | succ j=>exact g3 j y u (by simpa using k) (by simpa using g)
      | true=>
        obtain ⟨zs,k0,s,z⟩:=qn7 o hl b h1
        refine ⟨.agg zs::xs,.agg k0 s g1,by simp [g2],fun j y u k g=>?_⟩
        cases j with
        | zero=>simp at k g;subst k g;exact z
        | succ j=>exact g3 j y u (by simpa using k) (by simpa using g)
theorem q10h {F : FuncId} {m : Array Value} {xs : List DV} (hT : Yy P T) (hm : P.follows .mixedOrders = true) (hp : Pure P T F xs (.bool true)) (t : xs.length = m.size) (hr : ∀ (j : Nat) (x : DV) (v : Value),xs[j]? = some x→m[j]? = some v→RelD W (ZC W) x v) :
    Calls P F m W fun e g=>e = .returned (.bool true)∧Grown W g∧Below W.heap.size W g:=by
  obtain ⟨v,hp',nx',r',he,p,r⟩:=hp;have hg:=qno hT hm he
  have h0 : RelH W (ZC W) (fun _=>none) [] 0:=⟨fun _ _ h=>by simp [find] at h,fun _ _ _ _ _ _ h=>by simp [find] at h,fun _ _ _ h=>by simp [find] at h,
    fun b ⟨c,e,f,h⟩=>J5 h,fun b h=>h⟩
  have z:=hg.2 W (ZC W) (fun _=>none) m h0 ⟨by simpa using t,fun j x v s q=>by
    simp only [List.getElem?_map,Y4] at s;obtain ⟨y,hy,rfl⟩:=s
    exact .d (hr j y v hy q)⟩
  refine (callsIn_wide (n:=0).1 z).mono ?_;rintro e g ⟨x,Z',inj',rfl,u,a,q,hn⟩;have w:=(q9w u 8 p q).le r;cases w;have l : ∀ k,k < W.heap.size→g.heap[k]? = W.heap[k]?:=fun k l=>a.keep k l (by rintro ⟨n,blk,o,h1,_⟩;simp [find] at h1);refine ⟨rfl,⟨⟨a.os,a.output,fun i hi=>?_⟩,a.frz,a.size⟩,⟨a.os,a.tape,a.output,a.size,l⟩⟩;rw [l i hi]
  cases hw : W.heap[i]? with
  | none=>simp
  | some o=>cases o <;> simp
theorem qg4 (a : laidOutB P = true) {k : World} {l : Nat→Bool} : ∀ (c : List TypeId) (f : List Value) (ds : List (DataW H)) (p : List MemPlace),(∀ t∈c,P.readableRec t = true∧t < P.types.size)→DataW.TrodAll enc P W 0 (fun _=>true) true c f ds p→
    Below W.heap.size W k→(∀ x∈p,x.block < W.heap.size∧l x.block = true)→DataW.TrodAll enc P k 0 l true c f ds p
  | [],f,ds,p,_,h,_,_=>by obtain ⟨rfl,rfl,rfl⟩:=trodAll_nil h;exact trodAll_mk0
  | t::c,f,ds,p,ht,h,hb,hp=>by
    obtain ⟨v,g,d,j,q,o,rfl,rfl,rfl,r,n⟩:=trodAll_cons h
    refine trodAll_cons_mk (WideElems.Trod_stays a (ht t qe).1 (ht t qe).2 r (fun x b=>hb.same (hp x (by simp [b])).1) (fun x b=>(hp x (by simp [b])).2))
      (qg4 a c g j o (fun u m=>ht u (by simp [m])) n hb (fun x b=>hp x (by simp [b])))
theorem contract {f : Func} {F : FuncId} {s : ChangeSpec} {tb : TypeId} {fuel : Nat} {ps : List (Bool × List CT)} (hT : Yy P T) (hm : P.follows .mixedOrders = true) (n : laidOutB P = true)
    (a : s.vars = []) (c : f.resultTypes = #[tb]) (o : P.underlying tb = some .bool) (g : ∀ t∈f.params.toList,P.readableRec t = true∧t < P.types.size)
    (ad : f.params.toList.map (fun t=>(aggT P t,tyL P fuel t)) = ps.map (fun x=>(x.1,some x.2)))
    (hs : ∀ ds : List (DataW H),ds.length = f.params.size→s.fn H ds = {results:=[.lit (.bool true)],args:=ds})
    (k : ∀ xs,q24 ps xs→Pure P T F xs (.bool true))
    {args : Array Value} {ds gs : List (DataW H)} {before : List MemPlace} (r : ∀ (j : Nat) t v,f.params[j]? = some t→args[j]? = some v→Value.okWide P W .any base t v)
    (hW : DataW.Whole enc P f.params.toList s.vars false W args.toList ds gs before) :
    Calls P F args W fun e W'=>∃ v,e = .returned v∧s.post enc P f false true false false W args v W':=by
  have l:=hW;obtain ⟨p,q,hA,hV,rfl,av,au⟩:=hW;rw [a] at hV;obtain ⟨rfl,rfl⟩:=trodVars_none hV;have w:=l.lt;simp only [List.append_nil] at l w;obtain ⟨xs,g1,g2,g3⟩:=qg3 (base:=base) f.params.toList ps args.toList ds p ad (fun j t v ht hv=>r j t v (by simpa using ht) (by simpa using hv)) hA;refine (q10h hT hm (k xs g1) (by simpa using g2) (fun j x v hx hv=>g3 j x v hx (by simpa using hv))).mono ?_;rintro e W' ⟨rfl,hg,hb⟩
  have u : ds.length = f.params.size:=by
    have : ∀ (y : List TypeId) (vs : List Value) (ds : List (DataW H)) (p : List MemPlace),DataW.TrodAll enc P W 0 (fun _=>true) true y vs ds p→ds.length = y.length:=by
      intro y
      induction y with
      | nil=>intro vs ds p h;obtain ⟨_,rfl,_⟩:=trodAll_nil h;rfl
      | cons t y ih=>intro vs ds p h;obtain ⟨v,al,d,ar,q,q',rfl,rfl,rfl,_,h2⟩:=trodAll_cons h;simp [ih _ _ _ h2]
    simpa using this _ _ _ _ hA
  have m:=hs (ds ++ []) (by simpa using u);refine ⟨_,rfl,post_of_same (pa:=p) (pv:=[]) l ?_ ?_ ?_ qe (hg.frame _) hg.2.1 (ok_one c rfl (okWide_bool_mk o _))⟩
  · intro b sp hd;rw [c,m];exact trodAll_cons_mk (shut_bool o _) trodAll_mk0
  · intro sp z;rw [m];show DataW.TrodAll enc P W' 0 sp true f.params.toList args.toList (ds ++ []) p;rw [List.append_nil];exact qg4 n _ _ _ _ g hA hb fun x hx=>⟨w x hx,z x hx⟩
  · intro sp z;rw [m,a];rfl
end
end Go.Am
namespace Go.Am
open Go
variable {P : Program} {T : Tab}
section
variable {base : Nat} {ops : Array Oper} {dr : Dr} {l : List Oper} {sl sl1 : List (Nat × V)} {hp hp1 : List (Nat × Blk)} {nx nx1 : Nat} {K : AS→Prop} {ty : TypeId} {pos : String} {af : Array Edge} {t : Tmp} {g : Option (Nat × Bool)} {v : V}
theorem qpp {st : AS} {op : Op} (h : touch op = 0) : fp st op = (some [],[]):=by
  unfold touch at h;split at h <;> first | rfl | (simp at h;done) | (exact absurd h qo)
theorem qre {dr : Dr} {k : Nat} {st st1 : AS} {t : TypeId} {p : Operand} (h : okF dr k (fp st (.load t p)) = true) : okO dr k st (.load t p) st1 = true:=by
  cases dr with
  | none=>rfl
  | some F=>simp only [okF] at h;simp only [okO,h,Bool.true_and,q3f,touch]
theorem qjj {dr : Dr} {k n es : Nat} {st st1 : AS} {op : Op} {xs : List (List DV)} {r : List (Nat × Blk)} (a : st1.hp = (n,.dat es xs)::r) (h : okF dr k (fp st op) = true) : okO dr k st op st1 = true:=by
  cases dr with
  | none=>rfl
  | some F=>
    simp only [okF] at h;simp only [okO,h,Bool.true_and,q3f,a];split <;> rfl
theorem Jd {dr : Dr} {k : Nat} {st st1 : AS} {op : Op} (h : touch op = 0) : okO dr k st op st1 = true:=by
  cases dr with
  | none=>rfl
  | some F=>simp only [okO,qpp h,qhw,Bool.true_and,q3f,h]
theorem fin {ex : Ex} {st : AS} {b : List ResultVar} {v : V} {r a : DV} (d : ex = .nor∨ex = .ret) (f : resV T st b = some v) (c : toD st.hp 8 v = some a) (g : a = r) : (ex = .nor∨ex = .ret)∧∃ v a,resV T st b = some v∧toD st.hp 8 v = some a∧DLe a r:=
  ⟨d,v,a,f,c,g ▸ .refl _⟩
theorem qri {x y : Operand} {a : TypeId} {i : TI} {k : IntKind} {n : Int} {m es off len : Nat} (f : Qp ops ⟨sl,hp,nx⟩ ⟨some t,.indexAddr a x y,ty,pos,af,g⟩ = some true) (j : T a = some i)
    (c : AS.ev ⟨sl,hp,nx⟩ x = some (.hs m es off len)) (q : AS.ev ⟨sl,hp,nx⟩ y = some (.d (.int k n))) (b : i.kind = .slice) (p : es = i.esize) (o : 0≤n) (hi : n < len)
    (h : OpsK P T base ops dr l ⟨(t,.ref m es (off + n.toNat) 0)::sl,hp,nx⟩ K) : OpsK P T base ops dr (⟨some t,.indexAddr a x y,ty,pos,af,g⟩::l) ⟨sl,hp,nx⟩ K:=
  Ye f (v:=.ref m es (off + n.toNat) 0) (st1:=⟨sl,hp,nx⟩) (by simp [opFn,c,q,j,q3k,b,p,o,hi]) h (Jd rfl)
theorem qjl {p : Operand} {b : TypeId} {i : TI} {m es a j : Nat} {xs : List (List DV)} {cs r : List DV} {w : V} (f : Qp ops ⟨sl,hp,nx⟩ ⟨some t,.load b p,ty,pos,af,g⟩ = some true) (o : T b = some i)
    (c : AS.ev ⟨sl,hp,nx⟩ p = some (.ref m es a j)) (hb : find hp m = some (.dat es xs)) (hi : xs[a]? = some cs) (hs : sub cs j i.size = some r) (k : (q1n i.agg r).map .d = some w)
    (h : OpsK P T base ops dr l ⟨(t,w)::sl,hp,nx⟩ K) (n : okF dr l.length (fp ⟨sl,hp,nx⟩ (.load b p)) = true:=by rfl) : OpsK P T base ops dr (⟨some t,.load b p,ty,pos,af,g⟩::l) ⟨sl,hp,nx⟩ K:=
  Ye f (v:=w) (st1:=⟨sl,hp,nx⟩) (by simp only [opFn,c,o,Jx,AS.blk,hb,Nat.beq_refl,hi,hs,k,Option.map_some]) h (qre n)
end
end Go.Am
namespace Go.Am
open Go
variable {P : Program} {T : Tab}
section
variable {base : Nat} {ops : Array Oper} {dr : Dr} {l : List Oper} {sl : List (Nat × V)} {hp : List (Nat × Blk)} {nx : Nat} {K : AS→Prop} {ty : TypeId} {pos : String} {af : Array Edge} {t : Tmp} {g : Option (Nat × Bool)} {v : V}
theorem K0 {a : TypeId} {i : TI} (c : Qp ops ⟨sl,hp,nx⟩ ⟨some t,.alloc a,ty,pos,af,g⟩ = some true) (b : T a = some i)
    (h : OpsK P T base ops dr l ⟨(t,.ref nx i.size 0 0)::sl,(nx,.dat i.size [i.zero])::hp,nx + 1⟩ K) (d : okF dr l.length (fp ⟨sl,hp,nx⟩ (.alloc a)) = true:=by rfl) : OpsK P T base ops dr (⟨some t,.alloc a,ty,pos,af,g⟩::l) ⟨sl,hp,nx⟩ K:=
  Ye c (v:=.ref nx i.size 0 0) (st1:=⟨sl,(nx,.dat i.size [i.zero])::hp,nx + 1⟩) (by simp only [opFn,b,Option.map_some];rfl) h (qjj rfl d)
theorem qrf {x y : Operand} {a b : TypeId} {i j : TI} {n es len : Nat} {xs ys : List (List DV)} {c : V} (q : Qp ops ⟨sl,hp,nx⟩ ⟨some t,.call {callee:=.builtin .append,args:=#[x,y],argTypes:=#[a,b]},ty,pos,af,g⟩ = some true)
    (s : T a = some i) (d : T b = some j) (p : AS.ev ⟨sl,hp,nx⟩ x = some (.hs n es 0 len)) (hy : AS.ev ⟨sl,hp,nx⟩ y = some c) (hb : find hp n = some (.dat es xs)) (k : len = xs.length) (u : Zg ⟨sl,hp,nx⟩ c = some ys)
    (m : i.kind = .slice) (f : j.kind = .slice) (z : es = i.esize) (w : Ju i.esize c = true) (o : (len + ys.length) * (i.ebytes * 4)≤4294967296)
    (h : OpsK P T base ops dr l ⟨(t,.hs nx es 0 (len + ys.length))::sl,(nx,.dat es (xs ++ ys))::repl hp n .dead,nx + 1⟩ K) (r : okF dr l.length (fp ⟨sl,hp,nx⟩ (.call {callee:=.builtin .append,args:=#[x,y],argTypes:=#[a,b]})) = true:=by rfl) : OpsK P T base ops dr (⟨some t,.call {callee:=.builtin .append,args:=#[x,y],argTypes:=#[a,b]},ty,pos,af,g⟩::l) ⟨sl,hp,nx⟩ K:=by
  refine Ye q (v:=.hs nx es 0 (len + ys.length)) (st1:=⟨sl,(nx,.dat es (xs ++ ys))::repl hp n .dead,nx + 1⟩) ?_ h (qjj rfl r);subst k;have e : ((xs.drop 0).take xs.length ++ ys) = xs ++ ys:=by simp
  simp only [opFn,evL,p,hy,Y7];simp only [List.getElem?_toArray,List.getElem?_cons_zero,List.getElem?_cons_succ,s,d];rw [qm ⟨m,f,w⟩];simp only [Yz,AS.blk,hb,u];rw [qm ⟨q0,trivial,o,z⟩,e];rfl
theorem qei {x : Operand} (b : Qp ops ⟨sl,hp,nx⟩ ⟨some t,.move x,ty,pos,af,g⟩ = some true) (a : AS.ev ⟨sl,hp,nx⟩ x = some v)
    (h : OpsK P T base ops dr l ⟨(t,v)::sl,hp,nx⟩ K) : OpsK P T base ops dr (⟨some t,.move x,ty,pos,af,g⟩::l) ⟨sl,hp,nx⟩ K:=
  Ye b (v:=v) (st1:=⟨sl,hp,nx⟩) (by simp only [opFn,a,Option.map_some]) h (Jd rfl)
theorem qrg {x : Operand} (b : Qp ops ⟨sl,hp,nx⟩ ⟨some t,.assign x,ty,pos,af,g⟩ = some true) (a : AS.ev ⟨sl,hp,nx⟩ x = some v)
    (h : OpsK P T base ops dr l ⟨(t,v)::sl,hp,nx⟩ K) : OpsK P T base ops dr (⟨some t,.assign x,ty,pos,af,g⟩::l) ⟨sl,hp,nx⟩ K:=
  Ye b (v:=v) (st1:=⟨sl,hp,nx⟩) (by simp only [opFn,a,Option.map_some]) h (Jd rfl)
theorem qd {op : Op} {j : Nat} {w : Bool} (a : Qp ops ⟨sl,hp,nx⟩ ⟨some t,op,ty,pos,af,some (j,w)⟩ = some false) (h : OpsK P T base ops dr l ⟨(t,.d (.tup []))::sl,hp,nx⟩ K) : OpsK P T base ops dr (⟨some t,op,ty,pos,af,some (j,w)⟩::l) ⟨sl,hp,nx⟩ K:=
  qrw a h
theorem qrn {x : Operand} {a : TypeId} {i : TI} {es : Nat} {xs : List (List DV)} {m : Nat} (k : Qp ops ⟨sl,hp,nx⟩ ⟨some t,.call {callee:=.builtin .len,args:=#[x],argTypes:=#[a]},ty,pos,af,g⟩ = some true) (b : T a = some i) (c : i.kind = .slice) (j : AS.ev ⟨sl,hp,nx⟩ x = some (.d (.sl es xs))) (f : xs.length = m)
    (h : OpsK P T base ops dr l ⟨(t,.d (.int .i64 m))::sl,hp,nx⟩ K) : OpsK P T base ops dr (⟨some t,.call {callee:=.builtin .len,args:=#[x],argTypes:=#[a]},ty,pos,af,g⟩::l) ⟨sl,hp,nx⟩ K:=by
  subst f;exact Ye k (v:=.d (.int .i64 xs.length)) (st1:=⟨sl,hp,nx⟩) (by simp only [opFn,evL,j,Y7];simp only [List.getElem?_toArray,List.getElem?_cons_zero,b,c]) h (Jd rfl)
end
end Go.Am
namespace Go.Am
open Go
def iter {α β : Type} (f : α→Option (α ⊕ β)) : Nat→α→Option β
  | 0,_=>none
  | n + 1,a=>match f a with
    | none=>none
    | some (.inl a')=>iter f n a'
    | some (.inr b)=>some b
theorem qdv {α β : Type} {f : α→Option (α ⊕ β)} : ∀ {n : Nat} {a : α} {b : β},iter f n a = some b→∀ m,n≤m→iter f m a = some b
  | 0,_,_,h,_,_=>by simp [iter] at h
  | n + 1,a,b,h,m,hm=>by
    obtain ⟨k,rfl⟩ : ∃ k,m = k + 1:=⟨m - 1,q0⟩
    simp only [iter] at h ⊢
    split at h
    · simp at h
    · rename_i a' c;exact qdv h k q0
    · exact h
theorem qqc {α β : Type} {f : α→Option (α ⊕ β)} {n m : Nat} {a : α} {b c : β} (h : iter f n a = some b) (d : iter f m a = some c) : b = c:=by
  have j:=qdv h (max n m) q0;have g:=qdv d (max n m) q0;grind
open Classical in
noncomputable def loop {α β : Type} (f : α→Option (α ⊕ β)) (a : α) : Option β:=
  if h : ∃ b n,iter f n a = some b then some h.choose else none
theorem q7q {α β : Type} {f : α→Option (α ⊕ β)} {a : α} {b : β} : loop f a = some b↔∃ n,iter f n a = some b:=by
  unfold loop;split
  · rename_i h;constructor
    · grind
    · rintro ⟨n,d⟩;obtain ⟨m,c⟩:=h.choose_spec;rw [qqc c d]
  grind
theorem Kx {α β : Type} {f : α→Option (α ⊕ β)} {a a' : α} (h : f a = some (.inl a')) : loop f a = loop f a':=by
  apply Option.ext;intro b;rw [q7q,q7q];constructor
  · rintro ⟨n,c⟩
    cases n with
    | zero=>simp [iter] at c
    | succ n=>simp only [iter,h] at c;exact ⟨n,c⟩
  · rintro ⟨n,c⟩;exact ⟨n + 1,by simp only [iter,h];exact c⟩
theorem Kh {α β : Type} {f : α→Option (α ⊕ β)} {a : α} {b : β} (h : f a = some (.inr b)) : loop f a = some b:=
  q7q.2 ⟨1,by simp [iter,h]⟩
theorem qqs {α β : Type} {f : α→Option (α ⊕ β)} (I : α→Prop) (μ : α→Nat) (Q : β→Prop) (step : ∀ a,I a→(∃ a',f a = some (.inl a')∧I a'∧μ a' < μ a)∨∃ b,f a = some (.inr b)∧Q b) {a : α} (h : I a) : ∃ b,loop f a = some b∧Q b:=by
  generalize j : μ a = n
  induction n using Nat.strongRecOn generalizing a with
  | _ n ih=>
    rcases step a h with ⟨a',d,c,g⟩ | ⟨b,d,c⟩
    · rw [Kx d];exact ih _ (j ▸ g) c rfl
    · exact ⟨b,Kh d,c⟩
def w64 (x : Int) : Int:=IntKind.i64.wrap x
theorem Qe {x : Int} (h : -9223372036854775808≤x∧x≤9223372036854775807) : w64 x = x:=qfn h
def idx {α : Type} (xs : List α) (i : Int) : Option α:=if 0≤i then xs[i.toNat]? else none
def app {α : Type} (c : Nat) (xs ys : List α) : Option (List α):=if (xs.length + ys.length) * (c * 4)≤4294967296 then some (xs ++ ys) else none
def mks {α : Type} (c : Nat) (n : Int) (z : α) : Option (List α):=if 0≤n∧n * (c * 4)≤4294967296 then some (List.replicate n.toNat z) else none
def sub2 (n : Nat) (a b : Int) : Option (Nat × Nat):=if 0≤a∧a≤b∧b≤n then some (a.toNat,b.toNat - a.toNat) else none
def cpyw {α : Type} (xs : List α) (w : Nat × Nat) (ys : List α) : List α:=splice xs w.1 (ys.take (min ys.length w.2))
theorem leb {n m : Nat} (h : Nat.ble n m = true) : n≤m:=by simpa using h
theorem qov {α : Type} {xs ys : List α} {w : Nat × Nat} (h : w.1 + w.2≤xs.length) : (cpyw xs w ys).length = xs.length:=by
  simp [cpyw,splice];omega
theorem ltd {n m : Nat} (h : Nat.blt n m = true) : n < m:=by simpa [Nat.blt_eq] using h
def eI (k : IntKind) (x : Int) : List DV:=[.int k x]
theorem qan {α : Type} {xs : List α} {i : Int} {v : α} (h : idx xs i = some v) : 0≤i∧xs[i.toNat]? = some v∧i.toNat < xs.length:=by
  unfold idx at h;grind
theorem q10w {α β : Type} {o : Option α} {f : α→Option β} {x : β} (h : o.bind f = some x) : ∃ v,o = some v∧f v = some x:=by
  cases o with
  | none=>cases h
  | some v=>exact ⟨v,rfl,h⟩
theorem qv {α : Type} {a b : α} (h : some a = some b) : a = b:=qc8 h
section
variable {P : Program} {T : Tab} {base : Nat} {cs : List Code} {st : AS} {K : Ex→AS→Prop}
theorem RunK.mono {a : Ex→AS→Prop} : ∀ {cs : List Code} {st : AS},RunK P T base cs st K→(∀ ex st,K ex st→a ex st)→RunK P T base cs st a
  | [],_,h,hk=>hk _ _ h
  | c::cs,st,h,hk=>q39.mono h fun ex st h=>by
    cases ex with
    | nor=>exact RunK.mono (cs:=cs) h hk
    | exit i=>exact hk _ _ h
    | ret=>exact hk _ _ h
theorem qr {α : Type} {c : Operand} {a b : Code} {t : Bool} {X Y : Option α} {x : α} (f : st.ev c = some (.d (.bool t))) (h : cond t X Y = some x) (g : t = true→X = some x→RunK P T base (a::cs) st K) (j : t = false→Y = some x→RunK P T base (b::cs) st K) :
    RunK P T base (.cond c a b::cs) st K:=by
  cases t with
  | true=>exact Zc f (g rfl h)
  | false=>exact Zb f (j rfl h)
theorem Qm {α β : Type} {body : Code} (f : α→Option (α ⊕ β)) (S : α→AS) (g : α) (m : β) (q : loop f g = some m) (p : WkE base st (S g))
    (round : ∀ a y,f a = some y→RunK P T base [body] (S a) (fun ex st'=>match ex with
      | .nor=>∃ a',y = .inl a'∧WkE base st' (S a')
      | ex=>∃ b,y = .inr b∧(b = m→K ex st'))) : RunK P T base (.loop body::cs) st K:=by
  obtain ⟨n,o⟩:=q7q.1 q;refine qu2 (fun x : Nat × α=>S x.2) (fun x=>iter f x.1 x.2 = some m) (fun x=>x.1) (n,g) p o ?_;rintro ⟨k,a⟩ c
  cases k with
  | zero=>simp [iter] at c
  | succ k=>
    simp only [iter] at c;split at c
    · cases c
    · rename_i a' j;refine (round a _ j).mono ?_;intro ex st' h
      cases ex with
      | nor=>
        obtain ⟨a'',d,l⟩:=h;cases d;exact ⟨(k,a'),c,qe,l⟩
      | exit i=>obtain ⟨b,d,_⟩:=h;cases d
      | ret=>obtain ⟨b,d,_⟩:=h;cases d
    · rename_i b j;cases c;refine (round a _ j).mono ?_;grind
theorem Jq {id : Nat} {N : AS→Prop} (h : N st) : q3c id N K (.exit id) st:=by simpa [q3c] using h
theorem Qr {id : Nat} {N : AS→Prop} (h : N st) : q3c id N K .nor st:=h
theorem Z6 {β : Type} {c : Code} (E : β→Prop) (S : β→AS) (f : cs≠[]) (h : RunK P T base [c] st (q9u (fun st'=>∃ b,E b∧WkE base st' (S b)) K)) (a : ∀ b,E b→RunK P T base cs (S b) K) : RunK P T base (c::cs) st K:=by
  obtain ⟨ex,st1,g,d⟩:=q4f h;refine ⟨ex,st1,g,?_⟩
  cases ex with
  | nor=>obtain ⟨b,hb,j⟩:=d;exact Y8 j (a b hb) f
  | exit i=>exact d
  | ret=>exact d
theorem Qv {β : Type} {id : Nat} {a : Code} (E : β→Prop) (S : β→AS) (d : cs≠[]) (g : RunK P T base [a] st (q3c id (fun st'=>∃ b,E b∧WkE base st' (S b)) K)) (c : ∀ b,E b→RunK P T base cs (S b) K) : RunK P T base (.block id a::cs) st K:=by
  refine Q5 (g.mono ?_);intro ex st' h
  cases ex with
  | nor=>obtain ⟨b,hb,f⟩:=h;exact Y8 f (c b hb) d
  | ret=>exact h
  | exit i=>
    simp only [q3c] at h ⊢;split
    · rename_i hi;rw [qm hi] at h;obtain ⟨b,hb,f⟩:=h;exact Y8 f (c b hb) d
    grind
theorem q5a {β : Type} {c : Code} (E : β→Prop) (S : β→AS) (d : RunK P T base [c] st (q9u (fun st'=>∃ b,E b∧WkE base st' (S b)) K)) (a : ∀ b st',E b→WkE base st' (S b)→K .nor st') : RunK P T base [c] st K:=by
  refine d.mono ?_;intro ex st' h
  cases ex with
  | nor=>obtain ⟨b,hb,f⟩:=h;exact a b st' hb f
  | exit i=>exact h
  | ret=>exact h
end
section
variable {P : Program} {T : Tab} {base : Nat} {ops : Array Oper} {dr : Dr} {l : List Oper} {sl : List (Nat × V)} {hp : List (Nat × Blk)} {nx : Nat} {K : AS→Prop} {ty : TypeId} {pos : String} {af : Array Edge} {t : Tmp} {g : Option (Nat × Bool)}
theorem qrz {op : Op} (v : V) (b : Qp ops ⟨sl,hp,nx⟩ ⟨some t,op,ty,pos,af,g⟩ = some true) (a : opFn T ⟨sl,hp,nx⟩ op = some (v,⟨sl,hp,nx⟩)) (h : OpsK P T base ops dr l ⟨(t,v)::sl,hp,nx⟩ K) (c : okO dr l.length ⟨sl,hp,nx⟩ (op) ⟨sl,hp,nx⟩ = true:=by rfl) : OpsK P T base ops dr (⟨some t,op,ty,pos,af,g⟩::l) ⟨sl,hp,nx⟩ K:=
  Ye b a h c
theorem qrs {op : Op} (v : V) (b : Blk) (c : Qp ops ⟨sl,hp,nx⟩ ⟨some t,op,ty,pos,af,g⟩ = some true) (a : opFn T ⟨sl,hp,nx⟩ op = some (v,⟨sl,(nx,b)::hp,nx + 1⟩)) (h : OpsK P T base ops dr l ⟨(t,v)::sl,(nx,b)::hp,nx + 1⟩ K) (d : okO dr l.length ⟨sl,hp,nx⟩ (op) ⟨sl,(nx,b)::hp,nx + 1⟩ = true:=by rfl) : OpsK P T base ops dr (⟨some t,op,ty,pos,af,g⟩::l) ⟨sl,hp,nx⟩ K:=
  Ye c a h d
theorem Zt {op : Op} {es len : Nat} (xs : List (List DV)) (f : Qp ops ⟨sl,hp,nx⟩ ⟨some t,op,ty,pos,af,g⟩ = some true) (b : opFn T ⟨sl,hp,nx⟩ op = some (.hs nx es 0 len,⟨sl,(nx,.dat es xs)::hp,nx + 1⟩)) (a : len = xs.length) (c : touch op = 2) (j : find hp nx = none) (h : OpsK P T base ops dr l ⟨(t,.d (.sl es xs))::sl,hp,nx + 1⟩ K) (k : okF dr l.length (fp ⟨sl,hp,nx⟩ op) = true:=by rfl) : OpsK P T base ops dr (⟨some t,op,ty,pos,af,g⟩::l) ⟨sl,hp,nx⟩ K:=by
  subst a;exact qrt (n:=nx) (hp2:=hp) (st1:=⟨sl,(nx,.dat es xs)::hp,nx + 1⟩) f b c ⟨rfl,rfl⟩ rfl j h k
theorem qry {op : Op} (n : Nat) (b : Blk) (c : Qp ops ⟨sl,hp,nx⟩ ⟨none,op,ty,pos,af,g⟩ = some true) (a : opFn T ⟨sl,hp,nx⟩ op = some (.dead,⟨sl,repl hp n b,nx⟩)) (h : OpsK P T base ops dr l ⟨sl,repl hp n b,nx⟩ K) (d : okO dr l.length ⟨sl,hp,nx⟩ (op) ⟨sl,repl hp n b,nx⟩ = true:=by rfl) : OpsK P T base ops dr (⟨none,op,ty,pos,af,g⟩::l) ⟨sl,hp,nx⟩ K:=
  Ye c a h d
theorem Qg {α : Type} {x : Operand} {b : Bool} {X Y : Option α} {m : α} (c : Qp ops ⟨sl,hp,nx⟩ ⟨some t,.move x,ty,pos,af,g⟩ = some true) (a : AS.ev ⟨sl,hp,nx⟩ x = some (.d (.bool b))) (h : cond b X Y = some m)
    (f : X = some m→OpsK P T base ops dr l ⟨(t,.d (.bool true))::sl,hp,nx⟩ K) (j : Y = some m→OpsK P T base ops dr l ⟨(t,.d (.bool false))::sl,hp,nx⟩ K) : OpsK P T base ops dr (⟨some t,.move x,ty,pos,af,g⟩::l) ⟨sl,hp,nx⟩ K:=by
  cases b with
  | true=>exact qei c a (f h)
  | false=>exact qei c a (j h)
theorem q17 {dr : Dr} (hd : dr = none) {n m : List Oper} {st st1 st2 : AS} : Ko P T base ops dr n st st1→Ko P T base ops dr m st1 st2→Ko P T base ops dr (n ++ m) st st2
  | .nil,h2=>h2
  | .skip a b,h2=>.skip a (q17 hd b h2)
  | .op a b _ c,h2=>.op a b (by subst hd;rfl) (q17 hd c h2)
  | .opF a b c d e f _ g,h2=>.opF a b c d e f (by subst hd;rfl) (q17 hd g h2)
  | .callP a b c d e f g h _ i,h2=>.callP a b c d e f g h (by subst hd;rfl) (q17 hd i h2)
  | .callS a b c d e,h2=>.callS a b c d (q17 hd e h2)
  | .callF a b c d e f g h i,h2=>.callF a b c d e f g h (q17 hd i h2)
  | .callY a b c d e f g h i j k l,h2=>.callY a b c d e f g h i j k (q17 hd l h2)
  | .wk a b,h2=>.wk a (q17 hd b h2)
  | .piv _ _ _,_=>by cases hd
theorem qdk {F : List Fp} {m k : Nat} : fpAt (F.drop m) k = fpAt F (k + m):=by
  unfold fpAt;grind
theorem qrd {F : List Fp} {l a : List Oper} {dr : Dr} (hd : dr = some (F.drop a.length)) {st st1 : AS} {op : Op} (h : okO dr l.length st op st1 = true) : okO (some F) (l ++ a).length st op st1 = true:=by
  subst hd;simp only [okO,qdk] at h;simpa only [okO,List.length_append] using h
theorem qji {F : List Fp} {l a : List Oper} {dr : Dr} (hd : dr = some (F.drop a.length)) {x : Fp} (h : okF dr l.length x = true) : okF (some F) (l ++ a).length x = true:=by
  subst hd;simp only [okF,qdk] at h;simpa only [okF,List.length_append] using h
theorem qpe {F : List Fp} {m : List Oper} {dr : Dr} {k : Dr} (r : k = some F) (hd : dr = some (F.drop m.length)) {n : List Oper} {st st1 st2 : AS} (p : Ko P T base ops dr n st st1) (q : Ko P T base ops k m st1 st2) : Ko P T base ops k (n ++ m) st st2:=by
  subst r
  induction n generalizing st with
  | nil=>cases p with
    | nil=>exact q
    | wk _ _=>cases hd
  | cons o l ih=>
    cases p with
    | skip a b=>exact .skip a (ih b)
    | op a b c d=>exact .op a b (qrd hd c) (ih d)
    | opF a b c d e f g h=>exact .opF a b c d e f (qji hd g) (ih h)
    | callP a b c d e f g h i j=>exact .callP a b c d e f g h (qji hd i) (ih j)
    | callS _ _ _ _ _=>cases hd
    | callF _ _ _ _ _ _ _ _ _=>cases hd
    | callY _ _ _ _ _ _ _ _ _ _ _ _=>cases hd
    | wk _ _=>cases hd
    | piv a b c=>
      cases hd;rw [qdk] at a;exact .piv (by show U8 (fpAt F (l ++ m).length) = true;rw [List.length_append];exact a) b (ih c)
def qh6 (dr : Dr) (k : Nat) : Dr:=match dr with
  | none=>none
  | some F=>some (F.drop k)
theorem qpd {dr : Dr} {b a : List Oper} {st st1 st2 : AS} (d : Ko P T base ops (qh6 dr a.length) b st st1) (c : Ko P T base ops dr a st1 st2) : Ko P T base ops dr (b ++ a) st st2:=by
  cases dr with
  | none=>exact q17 rfl d c
  | some F=>exact qpe rfl rfl d c
theorem Qi (n : Nat) (Q : (List (Nat × V)→AS)→AS→Prop) (g : OpsK P T base ops (qh6 dr (l.drop n).length) (l.take n) ⟨sl,hp,nx⟩ (Q fun p=>⟨p ++ sl,hp,nx⟩)) (c : ∀ st',Q (fun p=>⟨p ++ sl,hp,nx⟩) st'→OpsK P T base ops dr (l.drop n) st' K) : OpsK P T base ops dr l ⟨sl,hp,nx⟩ K:=by
  obtain ⟨st1,a,d⟩:=g;obtain ⟨st2,b,f⟩:=c st1 d;refine ⟨st2,?_,f⟩;have:=qpd a b;simp_all
theorem qrk {α : Type} {x y : Operand} {a : TypeId} {i : TI} {k : IntKind} {n : Int} {es : Nat} {xs : List α} {enc : α→List DV} {v : α} (p : idx xs n = some v) (f : Qp ops ⟨sl,hp,nx⟩ ⟨some t,.indexAddr a x y,ty,pos,af,g⟩ = some true) (j : T a = some i)
    (c : AS.ev ⟨sl,hp,nx⟩ x = some (.d (.sl es (xs.map enc)))) (r : AS.ev ⟨sl,hp,nx⟩ y = some (.d (.int k n))) (b : i.kind = .slice) (q : es = i.esize)
    (h : OpsK P T base ops dr l ⟨(t,.dref (enc v) 0)::sl,hp,nx⟩ K) : OpsK P T base ops dr (⟨some t,.indexAddr a x y,ty,pos,af,g⟩::l) ⟨sl,hp,nx⟩ K:=by
  obtain ⟨m,o,_⟩:=qan p;exact Ye f (v:=.dref (enc v) 0) (st1:=⟨sl,hp,nx⟩) (by simp [opFn,c,r,j,q3k,b,q,m,o]) h (Jd rfl)
theorem qrj {α : Type} {x y : Operand} {a : TypeId} {i : TI} {k : IntKind} {n : Int} {m es len : Nat} {xs : List α} {v : α} (r : idx xs n = some v) (b : len = xs.length) (o : Qp ops ⟨sl,hp,nx⟩ ⟨some t,.indexAddr a x y,ty,pos,af,g⟩ = some true) (p : T a = some i)
    (j : AS.ev ⟨sl,hp,nx⟩ x = some (.hs m es 0 len)) (c : AS.ev ⟨sl,hp,nx⟩ y = some (.d (.int k n))) (f : i.kind = .slice) (s : es = i.esize)
    (h : OpsK P T base ops dr l ⟨(t,.ref m es n.toNat 0)::sl,hp,nx⟩ K) : OpsK P T base ops dr (⟨some t,.indexAddr a x y,ty,pos,af,g⟩::l) ⟨sl,hp,nx⟩ K:=by
  subst b;obtain ⟨q,_,u⟩:=qan r;exact Ye o (v:=.ref m es n.toNat 0) (st1:=⟨sl,hp,nx⟩) (by simp [opFn,j,c,p,q3k,f,s,q];omega) h (Jd rfl)
theorem qro {α : Type} {p : Operand} {a : TypeId} {i : TI} {m es j : Nat} {n : Int} {xs : List α} {enc : α→List DV} {r : List DV} {v : α} (w : V) (q : idx xs n = some v) (c : Qp ops ⟨sl,hp,nx⟩ ⟨some t,.load a p,ty,pos,af,g⟩ = some true) (o : T a = some i)
    (b : AS.ev ⟨sl,hp,nx⟩ p = some (.ref m es n.toNat j)) (hb : find hp m = some (.dat es (xs.map enc))) (hs : sub (enc v) j i.size = some r) (f : (q1n i.agg r).map .d = some w)
    (h : OpsK P T base ops dr l ⟨(t,w)::sl,hp,nx⟩ K) (k : okF dr l.length (fp ⟨sl,hp,nx⟩ (.load a p)) = true:=by rfl) : OpsK P T base ops dr (⟨some t,.load a p,ty,pos,af,g⟩::l) ⟨sl,hp,nx⟩ K:=
  qjl c o b hb (by rw [List.getElem?_map,(qan q).2.1];rfl) hs f h k
theorem K3 {α : Type} {p x : Operand} {f : TypeId} {i : TI} {m es j : Nat} {n : Int} {xs : List α} {enc : α→List DV} {v : α} (k : α) {u : V} {ds : List DV} (hv : idx xs n = some v) (t : Qp ops ⟨sl,hp,nx⟩ ⟨none,.store f p x,ty,pos,af,g⟩ = some true) (y : T f = some i)
    (hp' : AS.ev ⟨sl,hp,nx⟩ p = some (.ref m es n.toNat j)) (s : AS.ev ⟨sl,hp,nx⟩ x = some u) (hb : find hp m = some (.dat es (xs.map enc))) (o : cellsOf u = ds.map .d) (q : ds.length = i.size) (r : ds.all Yd = true) (z : j + i.size≤(enc v).length) (hs : splice (enc v) j ds = enc k)
    (h : OpsK P T base ops dr l ⟨sl,repl hp m (.dat es ((xs.set n.toNat k).map enc)),nx⟩ K) (w : okO dr l.length ⟨sl,hp,nx⟩ (.store f p x) ⟨sl,repl hp m (.dat es ((xs.set n.toNat k).map enc)),nx⟩ = true:=by rfl) : OpsK P T base ops dr (⟨none,.store f p x,ty,pos,af,g⟩::l) ⟨sl,hp,nx⟩ K:=by
  refine Ye t (v:=.dead) (st1:=⟨sl,repl hp m (.dat es ((xs.set n.toNat k).map enc)),nx⟩) ?_ h w;have c : (cellsOf u).all Km = true:=by rw [o,List.all_map];exact r
  have a : (cellsOf u).length = i.size:=by rw [o];simpa using q
  have b : (xs.map enc)[n.toNat]? = some (enc v):=by rw [List.getElem?_map,(qan hv).2.1];rfl
  simp only [opFn,y,hp',s,Jg,AS.blk,hb,Nat.beq_refl,b];rw [ql (by simp [c,a]),qm z,o,qce];simp only [hs,List.map_set,AS.setBlk];rfl
theorem qjm {α : Type} {x : Operand} {a : TypeId} {i : TI} {es : Nat} {xs : List α} {enc : α→List DV} (j : Qp ops ⟨sl,hp,nx⟩ ⟨some t,.call {callee:=.builtin .len,args:=#[x],argTypes:=#[a]},ty,pos,af,g⟩ = some true) (b : T a = some i) (c : i.kind = .slice) (f : AS.ev ⟨sl,hp,nx⟩ x = some (.d (.sl es (xs.map enc))))
    (h : OpsK P T base ops dr l ⟨(t,.d (.int .i64 (xs.length : Int)))::sl,hp,nx⟩ K) : OpsK P T base ops dr (⟨some t,.call {callee:=.builtin .len,args:=#[x],argTypes:=#[a]},ty,pos,af,g⟩::l) ⟨sl,hp,nx⟩ K:=
  qrn j b c f qe h
theorem Yw {α : Type} {x y : Operand} {a c : TypeId} {i j : TI} {n es len : Nat} {xs ys zs : List α} {enc : α→List DV} (f : V) (d : app i.ebytes xs ys = some zs) (b : len = xs.length) (r : Qp ops ⟨sl,hp,nx⟩ ⟨some t,.call {callee:=.builtin .append,args:=#[x,y],argTypes:=#[a,c]},ty,pos,af,g⟩ = some true)
    (s : T a = some i) (k : T c = some j) (q : AS.ev ⟨sl,hp,nx⟩ x = some (.hs n es 0 len)) (hy : AS.ev ⟨sl,hp,nx⟩ y = some f) (hb : find hp n = some (.dat es (xs.map enc))) (v : Zg ⟨sl,hp,nx⟩ f = some (ys.map enc))
    (p : i.kind = .slice) (m : j.kind = .slice) (z : es = i.esize) (w : Ju i.esize f = true)
    (h : OpsK P T base ops dr l ⟨(t,.hs nx es 0 zs.length)::sl,(nx,.dat es (zs.map enc))::repl hp n .dead,nx + 1⟩ K) (u : okF dr l.length (fp ⟨sl,hp,nx⟩ (.call {callee:=.builtin .append,args:=#[x,y],argTypes:=#[a,c]})) = true:=by rfl) : OpsK P T base ops dr (⟨some t,.call {callee:=.builtin .append,args:=#[x,y],argTypes:=#[a,c]},ty,pos,af,g⟩::l) ⟨sl,hp,nx⟩ K:=by
  subst b;unfold app at d;split at d
  · rename_i o;cases d;refine qrf r s k q hy hb qe v p m z w (by simpa [Nat.mul_assoc] using o) ?_ u;grind
  · cases d
theorem Yu {α : Type} {n es len : Nat} {ys : List α} {enc : α→List DV} (a : len = ys.length) (hb : find hp n = some (.dat es (ys.map enc))) : Zg ⟨sl,hp,nx⟩ (.hs n es 0 len) = some (ys.map enc):=by
  subst a;simp only [Zg,AS.blk,hb];grind
theorem qco {o : Operand} {k : IntKind} {a : Int} {d : Nat} {st : AS} (h : st.ev o = some (.d (.int k a))) (b : 0≤a) : bound st d (some o) = some a.toNat:=by
  simp [bound,h,b]
theorem qej {x : Operand} {j : TypeId} {lo hi : Option Operand} {i : TI} {n es len : Nat} {a b : Int} {w : Nat × Nat} (c : sub2 len a b = some w) (p : Qp ops ⟨sl,hp,nx⟩ ⟨some t,.slice j x lo hi none,ty,pos,af,g⟩ = some true) (q : T j = some i) (m : i.kind = .slice) (r : es = i.esize)
    (o : AS.ev ⟨sl,hp,nx⟩ x = some (.hs n es 0 len)) (d : 0≤a→bound ⟨sl,hp,nx⟩ 0 lo = some a.toNat) (f : 0≤b→bound ⟨sl,hp,nx⟩ len hi = some b.toNat)
    (h : OpsK P T base ops dr l ⟨(t,.hs n es w.1 w.2)::sl,hp,nx⟩ K) : OpsK P T base ops dr (⟨some t,.slice j x lo hi none,ty,pos,af,g⟩::l) ⟨sl,hp,nx⟩ K:=by
  unfold sub2 at c;split at c
  · rename_i k;cases c;refine Ye p (v:=.hs n es a.toNat (b.toNat - a.toNat)) (st1:=⟨sl,hp,nx⟩) ?_ h (Jd rfl);simp only [opFn,q,o,m,lenV,d k.1,f q0,qbc];grind
  · cases c
theorem qlv {n : Nat} {a b : Int} {w : Nat × Nat} (h : sub2 n a b = some w) : w.1 + w.2≤n:=by
  unfold sub2 at h;grind
theorem q2p {k c : IntKind} {a b : Int} {r : List V} : minI false (.d (.int k a)) (.d (.int c b)::r) = minI false (.d (.int k (min a b))) r:=by
  simp only [minI];grind
theorem q1k {k c : IntKind} {a b : Int} {r : List V} : minI true (.d (.int k a)) (.d (.int c b)::r) = minI true (.d (.int k (max a b))) r:=by
  simp only [minI];grind
theorem q2r {xs : Array Operand} {ats : Array TypeId} {b : List V} {k : IntKind} {a : Int} {r : Int} (f : Qp ops ⟨sl,hp,nx⟩ ⟨some t,.call {callee:=.builtin .min,args:=xs,argTypes:=ats},ty,pos,af,g⟩ = some true) (j : evL (AS.ev ⟨sl,hp,nx⟩) xs.toList = some (.d (.int k a)::b)) (c : minI false (.d (.int k a)) b = some (.d (.int k r)))
    (h : OpsK P T base ops dr l ⟨(t,.d (.int k r))::sl,hp,nx⟩ K) : OpsK P T base ops dr (⟨some t,.call {callee:=.builtin .min,args:=xs,argTypes:=ats},ty,pos,af,g⟩::l) ⟨sl,hp,nx⟩ K:=
  Ye f (v:=.d (.int k r)) (st1:=⟨sl,hp,nx⟩) (by simp [opFn,j,Y7,c]) h (Jd rfl)
theorem q1m {xs : Array Operand} {ats : Array TypeId} {b : List V} {k : IntKind} {a : Int} {r : Int} (f : Qp ops ⟨sl,hp,nx⟩ ⟨some t,.call {callee:=.builtin .max,args:=xs,argTypes:=ats},ty,pos,af,g⟩ = some true) (j : evL (AS.ev ⟨sl,hp,nx⟩) xs.toList = some (.d (.int k a)::b)) (c : minI true (.d (.int k a)) b = some (.d (.int k r)))
    (h : OpsK P T base ops dr l ⟨(t,.d (.int k r))::sl,hp,nx⟩ K) : OpsK P T base ops dr (⟨some t,.call {callee:=.builtin .max,args:=xs,argTypes:=ats},ty,pos,af,g⟩::l) ⟨sl,hp,nx⟩ K:=
  Ye f (v:=.d (.int k r)) (st1:=⟨sl,hp,nx⟩) (by simp [opFn,j,Y7,c]) h (Jd rfl)
theorem q2s {c : Call} {f : FuncId} {ds : List DV} {r : DV} (a : List V) (b : Pure P T f ds r) (k : Qp ops ⟨sl,hp,nx⟩ ⟨some t,.call c,ty,pos,af,g⟩ = some true) (j : callee ⟨sl,hp,nx⟩ c = some (f,a)) (hd : Kq hp a = some ds)
    (hs : (a.all V.isD = true∨r.scalar = true)) (h : OpsK P T base ops dr l ⟨(t,.d r)::sl,hp,nx⟩ K) (m : okF dr l.length (fpC a) = true:=by rfl) : OpsK P T base ops dr (⟨some t,.call c,ty,pos,af,g⟩::l) ⟨sl,hp,nx⟩ K:=
  qjk k rfl j hd hs b h m
theorem Zn {hp : List (Nat × Blk)} {v : V} {d : DV} {a : List V} {ds : List DV} (h : toD hp 8 v = some d) (b : Kq hp a = some ds) : Kq hp (v::a) = some (d::ds):=by
  simp [Kq,h,b]
theorem Jh {α : Type} {k n es len : Nat} {ys : List α} {enc : α→List DV} (a : len = ys.length) (hb : find hp n = some (.dat es (ys.map enc))) : toD hp (k + 1) (.hs n es 0 len) = some (.sl es (ys.map enc)):=by
  subst a;simp only [toD,hb];grind
theorem q6s {k : Nat} {a : List V} {ds : List DV} (h : Za (toD hp k) a = some ds) : toD hp (k + 1) (.tup a) = some (.tup ds):=by simp [toD,h]
theorem qzx {k : Nat} {a : List V} {ds : List DV} (h : Za (toD hp k) a = some ds) : toD hp (k + 1) (.agg a) = some (.agg ds):=by simp [toD,h]
theorem qmc {k : Nat} {f : FuncId} {a : List V} {ds : List DV} (h : Za (toD hp k) a = some ds) : toD hp (k + 1) (.fn f a) = some (.fn f ds):=by simp [toD,h]
theorem Ys {k : Nat} {v : V} {d : DV} {a : List V} {ds : List DV} (h : toD hp k v = some d) (b : Za (toD hp k) a = some ds) : Za (toD hp k) (v::a) = some (d::ds):=by simp [Za,h,b]
inductive DLeL : List DV→List DV→Prop
  | nil : DLeL [] []
  | cons {x y : DV} {xs ys : List DV} : DLe x y→DLeL xs ys→DLeL (x::xs) (y::ys)
theorem DLeL.len {xs ys : List DV} (h : DLeL xs ys) : xs.length = ys.length:=by
  induction h with
  | nil=>rfl
  | cons _ _ ih=>simp [ih]
theorem DLeL.get {xs ys : List DV} (h : DLeL xs ys) : ∀ (i : Nat) (x y : DV),xs[i]? = some x→ys[i]? = some y→DLe x y:=by
  induction h with
  | nil=>intro i x y h;simp at h
  | cons h1 _ ih=>grind
theorem Y9 {xs ys : List DV} (h : DLeL xs ys) : DLe (.tup xs) (.tup ys):=.tup h.len h.get
theorem Ug {xs ys : List DV} (h : DLeL xs ys) : DLe (.agg xs) (.agg ys):=.agg h.len h.get
theorem finD {ex : Ex} {st : AS} {b : List ResultVar} {v : V} {r a : DV} (d : ex = .nor∨ex = .ret) (f : resV T st b = some v) (c : toD st.hp 8 v = some a) (g : DLe a r) : (ex = .nor∨ex = .ret)∧∃ v a,resV T st b = some v∧toD st.hp 8 v = some a∧DLe a r:=
  ⟨d,v,a,f,c,g⟩
end
theorem qmu {α : Type} {st : AS} {ρ : Nat→Nat} {fz ph : List Nat} {nx n es len : Nat} {ys : List α} {enc : α→List DV} (a : len = ys.length) (hb : st.blk n = some (.dat es (ys.map enc))) (b : n∈fz) : Wv st ρ fz ph nx (.hs n es 0 len) (.d (.sl es (ys.map enc))):=by
  subst a;exact .frz hb b qe (by rw [List.drop_zero,List.take_of_length_le qe]) rfl
theorem K7 {st : AS} {ρ : Nat→Nat} {fz ph : List Nat} {nx n m es o l l' : Nat} (b : l = l') (d : ρ m = n) (c : m ∉ ph) (a : m < nx) : Wv st ρ fz ph nx (.hs n es o l) (.hs m es o l'):=b ▸ .hs d c a
inductive WvC (st : AS) (ρ : Nat→Nat) (fz ph : List Nat) (nx : Nat) : List V→List V→Prop
  | nil : WvC st ρ fz ph nx [] []
  | cons {c d : V} {cs ds : List V} : Wv st ρ fz ph nx c d→Km d = true→WvC st ρ fz ph nx cs ds→WvC st ρ fz ph nx (c::cs) (d::ds)
theorem WvC.len {st : AS} {ρ : Nat→Nat} {fz ph : List Nat} {nx : Nat} {cs ds : List V} (h : WvC st ρ fz ph nx cs ds) : cs.length = ds.length:=by
  induction h with
  | nil=>rfl
  | cons _ _ _ ih=>simp [ih]
theorem WvC.get {st : AS} {ρ : Nat→Nat} {fz ph : List Nat} {nx : Nat} {cs ds : List V} (h : WvC st ρ fz ph nx cs ds) : ∀ (j : Nat) (c d : V),cs[j]? = some c→ds[j]? = some d→Wv st ρ fz ph nx c d∧Km d = true:=by
  induction h with
  | nil=>intro i x y h;simp at h
  | cons h1 h2 _ ih=>grind
theorem Ji {st : AS} {ρ : Nat→Nat} {fz ph : List Nat} {nx es : Nat} {cs ds : List V} (h : WvC st ρ fz ph nx cs ds) : Wb st ρ fz ph nx (.cel es [cs]) (.cel es [ds]):=by
  refine .cel rfl fun i x y a b=>?_
  cases i with
  | zero=>simp at a b;subst a b;exact ⟨h.len,h.get⟩
  | succ i=>simp at a
theorem qfm {st : AS} {ρ : Nat→Nat} {fz ph : List Nat} {nx es : Nat} {cs : List DV} {ds : List V} (h : WvC st ρ fz ph nx (cs.map .d) ds) : Wb st ρ fz ph nx (.dat es [cs]) (.cel es [ds]):=by
  refine .datcel rfl fun i x y a b=>?_
  cases i with
  | zero=>
    simp at a b;subst a b;exact ⟨by simpa using h.len,fun j c d f hd=>h.get j (.d c) d (by simp [f]) hd⟩
  | succ i=>simp at a
inductive WvL (st : AS) (ρ : Nat→Nat) (fz ph : List Nat) (nx : Nat) : List V→List V→Prop
  | nil : WvL st ρ fz ph nx [] []
  | cons {c d : V} {cs ds : List V} : Wv st ρ fz ph nx c d→WvL st ρ fz ph nx cs ds→WvL st ρ fz ph nx (c::cs) (d::ds)
theorem WvL.len {st : AS} {ρ : Nat→Nat} {fz ph : List Nat} {nx : Nat} {cs ds : List V} (h : WvL st ρ fz ph nx cs ds) : cs.length = ds.length:=by
  induction h with
  | nil=>rfl
  | cons _ _ ih=>simp [ih]
theorem WvL.get {st : AS} {ρ : Nat→Nat} {fz ph : List Nat} {nx : Nat} {cs ds : List V} (h : WvL st ρ fz ph nx cs ds) : ∀ (j : Nat) (c d : V),cs[j]? = some c→ds[j]? = some d→Wv st ρ fz ph nx c d:=by
  induction h with
  | nil=>intro i x y h;simp at h
  | cons h1 _ ih=>grind
theorem q22 {st : AS} {ρ : Nat→Nat} {fz ph : List Nat} {nx : Nat} {f : FuncId} {cs ds : List V} (h : WvL st ρ fz ph nx cs ds) : Wv st ρ fz ph nx (.fn f cs) (.fn f ds):=.fn h.len h.get
theorem qfp {st : AS} {ρ : Nat→Nat} {fz ph : List Nat} {nx : Nat} {cs ds : List V} (h : WvL st ρ fz ph nx cs ds) : Wv st ρ fz ph nx (.tup cs) (.tup ds):=.tup h.len h.get
theorem q10q {st : AS} {ρ : Nat→Nat} {fz ph : List Nat} {nx : Nat} {cs : List DV} {ds : List V} (h : WvL st ρ fz ph nx (cs.map .d) ds) : Wv st ρ fz ph nx (.d (.tup cs)) (.tup ds):=
  .dtup (by have:=h.len;simpa using this) fun i c d a hd=>h.get i _ d (by simp [a]) hd
theorem q10p {st : AS} {ρ : Nat→Nat} {fz ph : List Nat} {nx : Nat} {cs : List DV} {ds : List V} (h : WvL st ρ fz ph nx (cs.map .d) ds) : Wv st ρ fz ph nx (.d (.agg cs)) (.agg ds):=
  .dagg (by have:=h.len;simpa using this) fun i c d a hd=>h.get i _ d (by simp [a]) hd
theorem qc4 {st : AS} {ρ : Nat→Nat} {fz ph : List Nat} {nx : Nat} {cs ds : List V} (h : WvL st ρ fz ph nx cs ds) : Wv st ρ fz ph nx (.agg cs) (.agg ds):=.agg h.len h.get
theorem qhj {P : Program} {T : Tab} {f : FuncId} {ds a : List DV} (j : DLeL a ds) {l : List V} {hp hp' : List (Nat × Blk)} {nx nx' : Nat} {v : V} : K9 P T f l hp nx v hp' nx'→l = ds.map .d→hp = []→nx = 0→K9 P T f (a.map .d) [] 0 v hp' nx'
  | .wk e w,g,hh,hn=>by
    have h:=qhj j e g hh hn
    subst hh hn
    exact .wk h w
  | .mk h1 h2 h3 h4 h5 h6 h7 h8,g,hh,hn=>by
    subst g hh hn
    refine .mk h1 h2 h3 h4 (by simpa [j.len] using h5) (.wk (ρ:=fun n=>n) (fz:=[]) (ph:=[]) ⟨?_,?_,?_,?_,?_,?_,?_,?_⟩ h6) h7 h8
    · intro t p g
      simp only [AS.get,qa6] at g ⊢
      simp only [Nat.zero_le,if_true,Nat.sub_zero,List.getElem?_map,Y4] at g ⊢
      obtain ⟨y,o,rfl⟩:=g
      obtain ⟨x,k⟩:=Zp (xs:=a) (i:=t) (by rw [j.len];exact Ke o)
      exact ⟨_,⟨x,k,rfl⟩,.d (j.get t x y k o)⟩
    · intro n b h;simp [AS.blk,find] at h
    · intro n m b c h;simp [AS.blk,find] at h
    · intro n b h;simp [AS.blk,find] at h
    · intro n h;rfl
    · exact Nat.le_refl _
    · intro n h;cases h
    · intro n h;cases h
theorem Uc {P : Program} {T : Tab} {f : FuncId} {ds a : List DV} {r : DV} (c : DLeL a ds) (h : Pure P T f ds r) : Pure P T f a r:=by
  obtain ⟨v,hp,nx,d,e,g,b⟩:=h;exact ⟨v,hp,nx,d,qhj c e rfl rfl rfl,g,b⟩
end Go.Am
namespace Go.Sh
open Go Go.Am
theorem K5 {α : Type} {xs : List α} {k : Nat} (h : k < xs.length) : idx xs (k : Int) = some xs[k]:=by simp [idx,h]
theorem Zz {α : Type} {xs : List α} {i : Int} {k : Nat} (hi : i = k) (h : k < xs.length) : idx xs i = some xs[k]:=by subst hi;exact K5 h
theorem Zf {α : Type} {c : Nat} {xs ys : List α} (h : (xs.length + ys.length) * (c * 4)≤4294967296) : app c xs ys = some (xs ++ ys):=by simp [app,h]
theorem qop {α : Type} {c : Bool} {a b : α} : (cond c (some a) (some b)) = some (cond c a b):=by cases c <;> rfl
theorem J2 {α β σ : Type} {f : α→Option (α ⊕ β)} (mk : Nat→σ→α) (n : Nat) (I : Nat→σ→Prop) (Q : β→Prop)
    (step : ∀ k c,k < n→I k c→(∃ g,f (mk k c) = some (.inl (mk (k + 1) g))∧I (k + 1) g)∨∃ b,f (mk k c) = some (.inr b)∧Q b)
    (done : ∀ c,I n c→∃ b,f (mk n c) = some (.inr b)∧Q b) {k0 : Nat} {c0 : σ} (h : k0≤n) (j : I k0 c0) : ∃ b,loop f (mk k0 c0) = some b∧Q b:=by
  have key : ∀ m k c,n - k = m→k≤n→I k c→∃ b,loop f (mk k c) = some b∧Q b:=by
    intro m
    induction m with
    | zero=>
      intro k c l h hi;obtain rfl : k = n:=by omega
      obtain ⟨b,d,a⟩:=done c hi;exact ⟨b,Kh d,a⟩
    | succ m ih=>
      intro k c l h hi;rcases step k c q0 hi with ⟨g,d,a⟩ | ⟨b,d,a⟩
      · rw [Kx d];exact ih (k + 1) g q0 q0 a
      · exact ⟨b,Kh d,a⟩
  exact key _ k0 c0 rfl h j
end Go.Sh
namespace Go.Am
open Go
theorem q10v {xs : List DV} (h : q24 [] xs) : xs = []:=by cases h;rfl
end Go.Am
