/- Am26 Am27 Am28 Am29 Am30 Am31 Lf1 Pl0 Lf2 -/
import Derived.Test.YtiejlbckgihckaaK5
import Derived.ProofKit
import Derived.OpenShut
import Derived.Deep.Slices
namespace Go.Am
open Go
variable {P : Program} {T : Tab}
def wpL (F : Fence) (P : Program) (c : Code) (Q : Exit→Act→World→Prop) (a : Act) (w : World) : Prop:=
  ∀ (b : Frame) (k : List Item) (cs : List Frame),b.roundOf = F.round→F.fn b.fn→F.room (cs.length + 1 + 0)→
    ∃ e a' w',Q e a' w'∧ArrivesIn (Machine.fenced P F) P (lone (b.atR a (.code c::.inLoop c::k)) cs w) b k cs e a' w'
theorem qk8 {F : Fence} {c : Code} {Q : Exit→Act→World→Prop} {a : Act} {w : World} (h : c.wpIn F 0 P (Exit.then (wpL F P c Q) Q) a w) : wpL F P c Q a w:=by
  intro b k cs m hb p;obtain ⟨e,j,n,g,d⟩:=h b (.inLoop c::k) cs m hb p
  cases e with
  | normal=>
    obtain ⟨q,r,s,o,f⟩:=g b k cs m hb p;exact ⟨q,r,s,o,.of_steps (StepsIn.trans d (.one (fenced_calm hb p rfl) stepR_inLoop)) f⟩
  | exit id=>exact ⟨_,j,n,g,.pass (x:=.inLoop c) rfl (fun _ _=>.inl qb) d⟩
  | goto l=>exact ⟨_,j,n,g,.pass (x:=.inLoop c) rfl (fun _ _=>.inl qb) d⟩
  | ret=>exact ⟨_,j,n,g,.pass (x:=.inLoop c) rfl (fun _ _=>.inl qb) d⟩
  | panic ch=>exact ⟨_,j,n,g,.pass (x:=.inLoop c) rfl (fun _ _=>.inl qb) d⟩
  | outgrown=>exact ⟨_,j,n,g,.pass (x:=.inLoop c) rfl (fun _ _=>.inl qb) d⟩
theorem qxi {F : Fence} {c : Code} {Q : Exit→Act→World→Prop} {a : Act} {w : World} (h : wpL F P c Q a w) : (Code.loop c).wpIn F 0 P Q a w:=by
  intro b k cs f hb g;obtain ⟨e,a',w',j,d⟩:=h b k cs f hb g;exact ⟨e,a',w',j,.of_steps (.one (fenced_calm hb g rfl) stepR_loop) d⟩
theorem qk7 {F : Fence} {c : Code} {Q d : Exit→Act→World→Prop} {a : Act} {w : World} (h : wpL F P c Q a w) (j : ∀ e a w,Q e a w→d e a w) : wpL F P c d a w:=
  fun b k cs f g l=>let ⟨e,a',w',q,r⟩:=h b k cs f g l;⟨e,a',w',j _ _ _ q,r⟩
def CP (base : Nat) (w : World) (Z : Nat→Prop) (inj : Inj) (st : AS) (a : Act) (Ds : List Nat) (ex : Ex) (st' : AS) (e : Exit) (a' : Act) (w' : World) : Prop:=e = toE ex∧Kk base w Z inj st a Ds st' a' w'
def Kp (P : Program) (base : Nat) (c : Code) (st : AS) (ex : Ex) (st' : AS) : Prop:=
  ∀ (ro : Option Nat) (w : World) (Z : Nat→Prop) (inj : Inj) (a : Act) (Ds : List Nat),RelS w Z inj st a Ds→codeOk a.tmps.size c = true→base≤st.nx→Y7 ro w→
    c.wpIn (Fw ro) 0 P (CP base w Z inj st a Ds ex st') a w∧∀ d,c = .loop d→wpL (Fw ro) P d (CP base w Z inj st a Ds ex st') a w
section
variable {base : Nat} {st st1 st2 : AS} {ex : Ex}
theorem Je {c : Code} (k : ∀ d,c≠.loop d) (h : ∀ (ro : Option Nat) (w : World) (Z : Nat→Prop) (inj : Inj) (a : Act) (Ds : List Nat),RelS w Z inj st a Ds→codeOk a.tmps.size c = true→base≤st.nx→Y7 ro w→
    c.wpIn (Fw ro) 0 P (CP base w Z inj st a Ds ex st1) a w) : Kp P base c st ex st1:=
  fun ro w Z inj a Ds b j g f=>⟨h ro w Z inj a Ds b j g f,fun d hd=>absurd hd (k d)⟩
theorem Kk.round {w : World} {Z : Nat→Prop} {inj : Inj} {a : Act} {Ds : List Nat} {a' : Act} {w' : World} {ro : Option Nat} (h : Kk base w Z inj st a Ds st1 a' w') (b : Y7 ro w) : Y7 ro w':=by
  obtain ⟨_,_,_,_,e,_⟩:=h;exact b.ext e
theorem qlm : Kp P base .skip st .nor st:=
  Je qb fun ro w Z inj a Ds h _ hb _=>wpIn_skip ⟨rfl,Kk.refl h hb⟩
theorem qld {id : Nat} : Kp P base (.exit id) st (.exit id) st:=
  Je qb fun ro w Z inj a Ds h _ hb _=>wpIn_exit ⟨rfl,Kk.refl h hb⟩
theorem qlj : Kp P base .ret st .ret st:=
  Je qb fun ro w Z inj a Ds h _ hb _=>wpIn_ret ⟨rfl,Kk.refl h hb⟩
theorem qlk {a b : Code} (m : Kp P base a st .nor st1) (n : Kp P base b st1 ex st2) : Kp P base (.seq a b) st ex st2:=by
  refine Je qb fun ro w Z inj act Ds h c hb j=>wpIn_seq (wpIn_mono (m ro w Z inj act Ds h ?_ hb j).1 ?_)
  · simp only [codeOk,Bool.and_eq_true] at c;exact c.1
  · rintro e a' w' ⟨rfl,hp⟩;refine hp.bind fun Z' inj' l k d f _ g=>?_;refine wpIn_mono (n ro w' Z' inj' a' l k ?_ f (hp.round j)).1 ?_
    · simp only [codeOk,Bool.and_eq_true] at c;rw [d];exact c.2
    · rintro e p o ⟨rfl,hp2⟩;exact ⟨rfl,g _ _ _ hp2⟩
theorem qll {a b : Code} (f : Kp P base a st ex st1) (g : ex≠.nor) : Kp P base (.seq a b) st ex st1:=by
  refine Je qb fun ro w Z inj act Ds h c hb d=>wpIn_seq (wpIn_mono (f ro w Z inj act Ds h ?_ hb d).1 ?_)
  · simp only [codeOk,Bool.and_eq_true] at c;exact c.1
  · rintro e a' w' ⟨rfl,hp⟩
    cases ex with
    | nor=>exact absurd rfl g
    | exit id=>exact ⟨rfl,hp⟩
    | ret=>exact ⟨rfl,hp⟩
theorem qlc {c : Operand} {a b : Code} (k : st.ev c = some (.d (.bool true))) (j : Kp P base a st ex st1) : Kp P base (.cond c a b) st ex st1:=by
  refine Je qb fun ro w Z inj act Ds h f hb g=>wpIn_cond_true ?_ (j ro w Z inj act Ds h ?_ hb g).1
  · have:=K5 h k;generalize act.eval c = x at this
    cases this with | d this=>cases this;rfl
  · simp only [codeOk,Bool.and_eq_true] at f;exact f.1
theorem qlb {c : Operand} {a b : Code} (k : st.ev c = some (.d (.bool false))) (j : Kp P base b st ex st1) : Kp P base (.cond c a b) st ex st1:=by
  refine Je qb fun ro w Z inj act Ds h f hb g=>wpIn_cond_false ?_ (j ro w Z inj act Ds h ?_ hb g).1
  · have:=K5 h k;generalize act.eval c = x at this
    cases this with | d this=>cases this;rfl
  · simp only [codeOk,Bool.and_eq_true] at f;exact f.2
theorem qla {id : Nat} {a : Code} (d : Kp P base a st ex st1) : Kp P base (.block id a) st (ex.block id) st1:=by
  refine Je qb fun ro w Z inj act Ds h c hb b=>wpIn_block (wpIn_mono (d ro w Z inj act Ds h c hb b).1 ?_);rintro e a' w' ⟨rfl,hp⟩
  cases ex with
  | nor=>exact ⟨rfl,hp⟩
  | ret=>exact ⟨rfl,hp⟩
  | exit i=>
    by_cases hi : i = id
    · simp only [toE,Exit.inBlock,hi,if_true,Ex.block];exact ⟨rfl,hp⟩
    · simp only [toE,Exit.inBlock,hi,if_false,Ex.block];exact ⟨rfl,hp⟩
theorem qeu {a : Code} (h : ∀ (ro : Option Nat) (w : World) (Z : Nat→Prop) (inj : Inj) (act : Act) (Ds : List Nat),RelS w Z inj st act Ds→codeOk act.tmps.size (.loop a) = true→base≤st.nx→Y7 ro w→
    wpL (Fw ro) P a (CP base w Z inj st act Ds ex st1) act w) : Kp P base (.loop a) st ex st1:=
  fun ro w Z inj act Ds b g f c=>⟨qxi (h ro w Z inj act Ds b g f c),fun d hd=>by cases hd;exact h ro w Z inj act Ds b g f c⟩
theorem qle {a : Code} (l : Kp P base a st .nor st1) (m : Kp P base (.loop a) st1 ex st2) : Kp P base (.loop a) st ex st2:=by
  refine qeu fun ro w Z inj act Ds h g hb f=>qk8 (wpIn_mono (l ro w Z inj act Ds h g hb f).1 ?_);rintro e a' w' ⟨rfl,hp⟩;refine hp.bind fun Z' inj' k j b c _ d=>?_;refine qk7 ((m ro w' Z' inj' a' k j (by rw [b];exact g) c (hp.round f)).2 a rfl) ?_;rintro e o n ⟨rfl,hp2⟩;exact ⟨rfl,d _ _ _ hp2⟩
theorem qlf {a : Code} (d : Kp P base a st ex st1) (f : ex≠.nor) : Kp P base (.loop a) st ex st1:=by
  refine qeu fun ro w Z inj act Ds h c hb b=>qk8 (wpIn_mono (d ro w Z inj act Ds h c hb b).1 ?_);rintro e a' w' ⟨rfl,hp⟩
  cases ex with
  | nor=>exact absurd rfl f
  | exit id=>exact ⟨rfl,hp⟩
  | ret=>exact ⟨rfl,hp⟩
theorem qln {ρ : Nat→Nat} {fz ph : List Nat} {c : Code} (k : Wk base ρ fz ph st st1) (v : Kp P base c st1 ex st2) : Kp P base c st ex st2:=by
  intro ro w Z inj a Ds h j hb g;obtain ⟨f,o⟩:=q1b h k
  have b : ∀ e a' w',CP base w (wkZ Z inj st fz) (wkI inj ρ ph) st1 a Ds ex st2 e a' w'→CP base w Z inj st a Ds ex st2 e a' w':=by
    rintro e a' w' ⟨rfl,q,r,s,n,m,l,p,x⟩;exact ⟨rfl,q,r,s,n,o.trans m (Nat.le_refl _),l,p,x⟩
  obtain ⟨u,t⟩:=v ro w _ _ a Ds f j k.bs g;exact ⟨wpIn_mono u b,fun d hd=>qk7 (t d hd) b⟩
theorem qlq {ops : Array Oper} {ro : Option Nat} {w0 : World} {Z0 : Nat→Prop} {inj0 : Inj} {c : AS} {n : Act} {Ds0 : List Nat} {Q : Exit→Act→World→Prop} {l : List Oper} {st st' : AS} (u : Z2 P base ops l st st')
    (hd : ∀ o∈ops,Zl n.tmps.size o.dst = true) (q : ∀ a' w',Kk base w0 Z0 inj0 c n Ds0 st' a' w'→Q .normal a' w') : ∀ (pre : List Oper) (a : Act) (w : World),ops.toList = pre ++ l→Kk base w0 Z0 inj0 c n Ds0 st a w→Y7 ro w→
    wpOpsIn (Fw ro) 0 P ops Q (List.range' pre.length l.length) a w:=by
  have one : ∀ {o : Oper} {l : List Oper} {st st1 st2 : AS},Zz P base ops o st st1→(∀ (pre : List Oper) (a : Act) (w : World),ops.toList = pre ++ l→Kk base w0 Z0 inj0 c n Ds0 st1 a w→Y7 ro w→wpOpsIn (Fw ro) 0 P ops Q (List.range' pre.length l.length) a w)→
      ∀ (pre : List Oper) (a : Act) (w : World),ops.toList = pre ++ o::l→Kk base w0 Z0 inj0 c n Ds0 st a w→Y7 ro w→wpOpsIn (Fw ro) 0 P ops Q (List.range' pre.length (o::l).length) a w:=by
    intro o l st st1 st2 hs m pre a w p hp d
    have r : ops[pre.length]? = some o:=by rw [← Array.getElem?_toList,p];simp
    rw [List.length_cons,List.range'_succ,wpOpsIn_cons]
    refine qdr r ?_
    refine hp.bind fun Z' inj' h b f j _ g=>?_
    refine hs ro Q w Z' inj' a h _ b (by rw [f];exact hd o (Array.mem_of_getElem? r)) j d fun a' w' hp'=>?_
    have:=m (pre ++ [o]) a' w' (by rw [p];simp) (g _ _ _ hp') (hp'.round d)
    simpa using this
  induction u with
  | nil=>intro pre a w _ hp _;simpa [wpOpsIn] using q _ _ hp
  | cons hs _ m=>exact one (st2:=st) hs (m q)
  | wk hw _ m=>
    intro pre a w p hp d;refine m q pre a w p ?_ d;obtain ⟨Z',inj',h,s,x,t,y,v⟩:=hp;obtain ⟨b,k⟩:=q1b s hw;exact ⟨_,_,h,b,x.trans k (Nat.le_refl _),t,hw.bs,v⟩
theorem qlh {id : Nat} {ops : Array Oper} (f : Z2 P base ops ops.toList st st1) : Kp P base (.region id ops false) st .nor st1:=by
  refine Je qb fun ro w Z inj a Ds h b hb c=>wpIn_region ?_
  have hd : ∀ o∈ops,Zl a.tmps.size o.dst = true:=by
    intro o d;simp only [codeOk,List.all_eq_true] at b;exact b o (by simpa using d)
  have:=qlq (Q:=CP base w Z inj st a Ds .nor st1) f hd (fun a' w' hp=>⟨rfl,hp⟩) [] a w rfl (Kk.refl h hb) c;rw [List.range_eq_range'];simpa using this
theorem qli {id : Nat} {ops : Array Oper} {F : List Fp} (d : P.follows .mixedOrders = true) (f : Zy P base ops F ops.toList st st1) (hd : q6l F ops = true) : Kp P base (.region id ops true) st .nor st1:=
  Je qb fun ro w Z inj a Ds h c hb b=>qr9 d (qmd hd) f h c hb b fun a' w' hp=>⟨rfl,hp⟩
theorem qna {ops : Array Oper} {o : Oper} {c : Call} {g : Operand} {n : Nat} {vs : List V} {s s1 s2 : List (Nat × V)} {j : List Tmp} {assign body : Code}
    (hg : Ql ops st o = some true) (ho : o.op = .call c) (z : c.callee = .value g) (bf : st.ev g = some (.yld n)) (bd : evL st.ev c.args.toList = some vs)
    (v : st.blk n = some (.loop s j assign body .ready none)) (aj : j.length = vs.length)
    (h1 : Kp P st.nx assign {sl:=q15 s j vs,hp:=st.hp,nx:=st.nx} .nor st1) (bk : st1.blk n = some (.loop s1 j assign body .ready none))
    (h2 : Kp P st.nx body (st1.setBlk n (.loop s1 j assign body .busy none)) ex st2) (bi : st2.blk n = some (.loop s2 j assign body .busy none)) :
    Zz P base ops o st ({sl:=st.sl,hp:=repl st2.hp n (.loop s2 j assign body (if ex = .nor then .ready else .done) ex.code),nx:=st2.nx : AS}.putD o.dst (.d (.bool (decide (ex = .nor))))):=by
  intro ro Q w Z inj a Ds K h hd hb cn hK;unfold Jn;rw [q2q h hg];simp only [if_true];refine ⟨fun _ _=>trivial,?_⟩;have hr:=K5 h bf;obtain ⟨b,r,hi,hw,es,ep,an,ay,bh,af,bm,_⟩:=qdb (ls':=.ready) (pe':=none) (pin:=0) h.heap v;generalize bg : a.eval g = gv at hr
  cases hr with | @yld _ b' o' hlt hi'=>
  rw [hi] at hi';cases hi';have hl:=q6r h bd;have e2 : (c.args.toList.map a.eval).toArray = c.args.map a.eval:=by apply Array.ext';simp
  rw [e2] at hl;have az : (c.args.map a.eval).size = r.params.size:=by rw [← hl.1,an];simp [aj]
  have ai : (execOp a.eval o).run P w = .ok (.round b r.fn ((r.params.zip (c.args.map a.eval)).foldl (fun tmps (t,a)=>tmps.setIfInBounds t a) r.tmps) r.assign r.body) w:=by
    have:=run_yield (P:=P) hw az;obtain ⟨dst,op,type,pos,after,guard⟩:=o;simp only at ho;subst ho;obtain ⟨cr,args,argTypes⟩:=c;simp only at z;subst z;simp only [execOp,resolve,Sem.run_bind,bg,Deferred.ofValue,Sem.run_pure,Result.andThen_ok,invoke];simpa using this
  rw [show (Fw ro).round = ro from rfl,Oper.semAt_eq ro _ o (by rintro c' h';rw [ho] at h';cases h'),ai,Oper.uponIn_round];refine ⟨fun h=>by simp [Fw] at h,?_⟩;refine roundIn_of_wpIn trivial ?_
  have aa : (r.params.zip (c.args.map a.eval)).foldl (fun tmps (t,a)=>tmps.setIfInBounds t a) r.tmps = (j.zip (c.args.map a.eval).toList).foldl (fun tmps (x : Tmp × Value)=>tmps.setIfInBounds x.1 x.2) r.tmps:=by
    rw [an,← Array.foldl_toList,Array.toList_zip]
  obtain ⟨u,f⟩:=qir j vs (c.args.map a.eval).toList s r.tmps (by rw [Array.length_toList];exact hl.1) (fun i d c h1 h2=>hl.2 i d c h1 (by rw [← Array.getElem?_toList];exact h2)) af.2.2 bm;rw [aa,ay,bh];generalize (j.zip (c.args.map a.eval).toList).foldl (fun tmps (x : Tmp × Value)=>tmps.setIfInBounds x.1 x.2) r.tmps = tm at u f;have ab : RelS w Z inj {sl:=q15 s j vs,hp:=st.hp,nx:=st.nx} {tmps:=tm,defers:=[]} []:=⟨u,h.heap,rfl,qb,qb⟩
  have y : Y7 (some b) w:=fun l hl=>by cases hl;exact ⟨r,hw⟩
  refine wpIn_mono (h1 (some b) w Z inj _ [] ab (by show codeOk tm.size assign = true;rw [f];exact af.1) (Nat.le_refl _) y).1 ?_;rintro e a1 w1 ⟨rfl,Z1,m,ao,g1,g2,g3,g4,g5⟩;have ae : n < st.nx:=(h.heap.blk n _ v).1;obtain ⟨b1,r1,i1,aw,bj,ak,cd,ce,ci,cf,cb,au,k⟩:=qdb (ls':=.busy) (pe':=none) (pin:=st.nx) g1.heap bk;rw [g2.pinj n ae,hi] at i1;cases i1;refine ⟨_,run_beginRound aw bj,?_⟩;have e5 : ({r1 with state:=.busy} : Loop) = {r1 with state:=.busy,pending:=none}:=by cases r1;simp only at ak;subst ak;rfl
  rw [e5]
  have ad : RelS (w1.putObj b (.loop {r1 with state:=.busy,pending:=none})) Z1 m (st1.setBlk n (.loop s1 j assign body .busy none)) a1 ao:=
    ⟨g1.slots.mono (k.zkeep g1.heap) k.zin k.big (fun _ _=>rfl) (Nat.le_refl _),au,g1.defs,g1.nodup,fun D hD=>k.marks g1.heap (g1.marks D hD)⟩
  have al : Y7 (some b) (w1.putObj b (.loop {r1 with state:=.busy,pending:=none})):=(y.ext g2).ext k;refine wpIn_mono (h2 (some b) _ Z1 m a1 ao ad (by rw [g3];show codeOk tm.size body = true;rw [f];exact af.2.1) g4 al).1 ?_;rintro e a3 w3 ⟨rfl,Z3,ap,co,k1,k2,k3,k4,k5⟩;obtain ⟨b3,r3,i3,bc,cx,cw,ck,bt,bw,cg,cj,av,ba⟩:=qdb (ls':=if ex = .nor then .ready else .done) (pe':=ex.code) (pin:=st.nx) k1.heap bi;have bb : m n = some (b,0):=(g2.pinj n ae).trans hi;rw [k2.pinj n ae,bb] at i3;cases i3
  have p : K (a.put o.dst (.bool (decide (ex = .nor)))) (w3.putObj b (.loop {r3 with state:=if ex = .nor then .ready else .done,pending:=ex.code})):=by
    have am : Ext w Z inj st.hp (w3.putObj b (.loop {r3 with state:=if ex = .nor then .ready else .done,pending:=ex.code})) Z3 ap (repl st2.hp n (.loop s2 j assign body (if ex = .nor then .ready else .done) ex.code)) st.nx:=
      ((g2.trans k (Nat.le_refl _)).trans k2 (Nat.le_refl _)).trans ba (Nat.le_refl _)
    exact hK _ _ (q2x h hb am av k4 (.d (.bool _)) hd)
  have q:=run_endRound (P:=P) ex.code bc
  cases ex with
  | nor=>exact ⟨_,_,q,p⟩
  | ret=>exact ⟨_,_,q,p⟩
  | exit id=>exact ⟨_,_,q,p⟩
end
end Go.Am
namespace Go.Am
open Go
variable {P : Program} {T : Tab}
section
variable {base : Nat} {st st1 st2 : AS} {ex : Ex}
theorem qkw {ro : Option Nat} {f : FuncId} {xs : Array Value} {w : World} {R : Ending→World→Prop} (h : CallsIn (Fw none) 0 P f xs w R) : CallsIn (Fw ro) 0 P f xs w R:=by
  cases ro <;> exact h
theorem qoi {w : World} {Ds : List Nat} (h : Ds.Nodup) (a : ∀ D∈Ds,w.heap[D]? = some (.deferred (some []))) : (w.heap.size::Ds).Nodup:=
  List.nodup_cons.2 ⟨fun b=>by have:=Zj (a _ b);omega,h⟩
theorem qlg {g : Operand} {k : Array Tmp} {assign body : Code} {f : FuncId} {t : List V} {v : V} {hp : List (Nat × Blk)} {nx : Nat} {pe : Option Code} {s : List (Nat × V)} {ls : LoopState}
    (hg : st.ev g = some (.fn f t)∨∃ ds,st.ev g = some (.d (.fn f ds))∧t = ds.map .d)
    (y : Zx P f (.yld st.nx::t) ((st.nx,.loop st.sl k.toList assign body .ready none)::st.hp) (st.nx + 1) v hp nx)
    (aj : find hp st.nx = some (.loop s k.toList assign body ls pe)) (bj : ls≠.busy) (ba : pe = ex.code) : Kp P base (.rangeFunc g k assign body) st ex {sl:=st.sl,hp:=repl hp st.nx .dead,nx:=nx}:=by
  refine Je qb fun ro w Z inj a Ds h aa hb bh=>wpIn_rangeFunc fun fn _=>?_;simp only [codeOk,Bool.and_eq_true,List.all_eq_true,Nat.blt_eq] at aa
  have bb : ∃ cs : Array Value,a.eval g = .func (.func f) #[] cs∧LRel w Z inj st.nx t cs:=by
    rcases hg with hg | ⟨ds,hg,rfl⟩
    · have hr:=K5 h hg;generalize a.eval g = gv at hr ⊢
      cases hr with | @fn _ _ cs h1 h2=>
      exact ⟨cs,rfl,h1,h2⟩
    · have hr:=K5 h hg;generalize a.eval g = gv at hr ⊢
      cases hr with | d hr=>
      cases hr with | @fn _ _ cs h1 h2=>
      refine ⟨cs,rfl,by simpa using h1,fun i d c hd hc=>?_⟩;simp only [List.getElem?_map,Kt] at hd;obtain ⟨d',hd,rfl⟩:=hd;exact .d (h2 i d' c hd hc)
  obtain ⟨cs,bl,aw⟩:=bb
  have rest : ∀ (n : World) (l : Nat) (mark : List Deferred) (r : Loop) (Dn : List Nat),(Instr.enterLoop fn a.tmps k assign body (Fw ro).round).run P w = .ok (l,mark) n→
      n.heap[l]? = some (.loop r)→r.state = .ready→r.pending = none→
      RelH n Z (upd inj st.nx (some (l,0))) ((st.nx,.loop st.sl k.toList assign body .ready none)::st.hp) (st.nx + 1)→
      Ext w Z inj st.hp n Z (upd inj st.nx (some (l,0))) ((st.nx,.loop st.sl k.toList assign body .ready none)::st.hp) st.nx→
      mark = Dn.map (fun D=>{target:=.collected D,args:=#[]})→(Dn ++ Ds).Nodup→(∀ D∈Dn,n.heap[D]? = some (.deferred (some []))∧w.heap.size≤D)→
      ∃ (l : Nat) (mark : List Deferred) (w₁ : World) (d : Deferred) (af : World) (f : FuncId) (args : Array Value) (w₂ : World),
      (Instr.enterLoop fn a.tmps k assign body (Fw ro).round).run P w = .ok (l,mark) w₁∧
      (resolve a.eval (rangeCall g l) 0).run P w₁ = .ok d af∧
      (∀ f',Target.leads P af d.target d.args = some f'→(Fw ro).fn f')∧
      (invoke d.target d.args).run P af = .ok (.enter f args) w₂∧
      ((Fw ro).depth.isSome = true→1≤0)∧
      CallsIn (Fw ro) (0 - 1) P f args w₂ (rangePost (Fw ro) 0 P l (CP base w Z inj st a Ds ex {sl:=st.sl,hp:=repl hp st.nx .dead,nx:=nx}) {a with defers:=mark ++ a.defers}):=by
    intro n l mark r Dn z co cm bu ap ab ah bi aq
    refine ⟨l,mark,n,{target:=.fn (.func f) cs,args:=#[.func (.yield l) #[] #[]]},n,f,#[.func (.yield l) #[] #[]] ++ cs,n,z,?_,fun _ _=>trivial,?_,fun h=>by simp [Fw] at h,?_⟩
    · simp only [resolve,bl];simp [Deferred.ofValue,Act.eval]
    · simp [invoke,y.1]
    · refine qkw (CallsIn.mono (y.2 n Z _ _ ap ?_) ?_)
      · refine ⟨by simp [aw.1];omega,fun i d c hd hc=>?_⟩
        cases i with
        | zero=>
          rw [Array.getElem?_append_left qb] at hc;simp at hd hc;subst hd hc;exact .yld q6 (Kr _ _ _)
        | succ i=>
          rw [Array.getElem?_append_right qb] at hc;simp at hd hc;exact (aw.2 i d c hd hc).mono (fun b hz=>ab.keep b (h.heap.zs b hz) (h.heap.z_im hz)) (fun _ h=>h) ab.big (fun m hm=>ab.pinj m hm) q6
      · rintro e w3 ⟨x,Z',inj',rfl,bg,ag,cp,cj⟩
        obtain ⟨b3,r3,i3,ao,bm,ax,ai⟩:=qrf (pin:=st.nx) bg aj
        obtain ⟨br,bq⟩:=ai {r3 with state:=.exhausted} rfl
        have bo : b3 = l:=by
          have:=ag.pinj st.nx q6;rw [Kr,i3] at this;cases this;rfl
        subst bo
        refine ⟨r3.pending,_,run_endLoop ao (by rw [bm];exact bj),?_⟩
        have hE : Ext w Z inj st.hp (w3.putObj b3 (.loop {r3 with state:=.exhausted})) Z' inj' (repl hp st.nx .dead) st.nx:=(ab.trans ag q6).trans bq (Nat.le_refl _)
        have u : Kk base w Z inj st a Ds {sl:=st.sl,hp:=repl hp st.nx .dead,nx:=nx} {a with defers:=mark ++ a.defers} (w3.putObj b3 (.loop {r3 with state:=.exhausted})):=by
          refine ⟨Z',inj',Dn ++ Ds,⟨?_,br,?_,bi,?_⟩,hE.pin_le hb,rfl,by show base≤nx;omega,?_⟩
          · exact h.slots.mono (hE.zkeep h.heap) hE.zin hE.big hE.pinj (by show st.nx≤nx;omega)
          · simp [ah,h.defs]
          · intro D q;rcases List.mem_append.1 q with q | q
            · obtain ⟨h5,h6⟩:=aq D q;have h7:=ag.marks ap h5;rw [World.putObj_heap_other (fun e=>by rw [e] at h7;rw [ao] at h7;cases h7)];exact h7
            · exact hE.marks h.heap (h.marks D q)
          · intro D q;rcases List.mem_append.1 q with q | q
            · exact .inr (aq D q).2
            · exact .inl q
        rw [ax,ba] at u
        rw [ax,ba]
        cases ex with
        | nor=>exact ⟨rfl,u⟩
        | exit id=>exact wpIn_exit ⟨rfl,u⟩
        | ret=>exact wpIn_ret ⟨rfl,u⟩
  have ac : ∀ (n : World) (l : Nat) (r : Loop),r.state = .ready→r.pending = none→r.tmps = a.tmps→r.params = k→r.assign = assign→r.body = body→Yc n Z (upd inj st.nx (some (l,0))) (st.nx + 1) st.sl a.tmps→
      n.heap[l]? = some (.loop r)→RelB n Z (upd inj st.nx (some (l,0))) (st.nx + 1) st.nx (.loop st.sl k.toList assign body .ready none):=by
    rintro n l r e1 e2 e3 e4 e5 e6 hs hl
    obtain ⟨f1,f2,f3,f4,f5,f6,f7,f8⟩:=r
    simp only at e1 e2 e3 e4 e5 e6
    subst e1 e2 e3 e4 e5 e6
    exact ⟨l,_,_,_,Kr _ _ _,hl,⟨aa.1.2,aa.2,fun p hp=>aa.1.1 p hp⟩,hs⟩
  cases ro with
  | none=>
    have an : RelH (w.alloc (.deferred (some []))) Z inj st.hp st.nx:=h.heap.grow fun b hb=>Zb w _ hb
    have ak : ∀ o,Yc ((w.alloc (.deferred (some []))).alloc o) Z (upd inj st.nx (some (w.heap.size + 1,0))) (st.nx + 1) st.sl a.tmps:=fun o=>
      h.slots.mono (fun b hz=>by have:=h.heap.zs b hz;rw [Zb _ _ (by simp;omega),Zb _ _ this]) (fun _ h=>h)
        (fun b c e f hb=>by obtain ⟨c1,e1,f1,h1,s1⟩:=q1s w (.deferred (some [])) b c e f hb;obtain ⟨c2,e2,f2,h2,s2⟩:=q1s _ o b c1 e1 f1 h1;exact ⟨c2,e2,f2,h2,s2.trans s1⟩) (fun _ hm=>Y5 _ _ hm) q6
    have j:=J3 (w.alloc (.deferred (some []))) (.loop {state:=.ready,pending:=none,fn,tmps:=a.tmps,params:=k,assign,body,defers:=w.heap.size});rw [World.size_alloc] at j;have hB:=ac _ (w.heap.size + 1) {state:=.ready,pending:=none,fn,tmps:=a.tmps,params:=k,assign,body,defers:=w.heap.size} rfl rfl rfl rfl rfl rfl (ak _) j;have hn:=an.new (.loop {state:=.ready,pending:=none,fn,tmps:=a.tmps,params:=k,assign,body,defers:=w.heap.size}) (.loop st.sl k.toList assign body .ready none) 0 (by rw [World.size_alloc];exact hB);have he:=Ext.new an (.loop {state:=.ready,pending:=none,fn,tmps:=a.tmps,params:=k,assign,body,defers:=w.heap.size}) (.loop st.sl k.toList assign body .ready none) 0;rw [World.size_alloc] at hn he;refine rest _ (w.heap.size + 1) _ _ [w.heap.size] (run_enterLoop_outer fn a.tmps k assign body) j rfl rfl hn ((Ext.alloc _).trans he (Nat.le_refl _)) rfl (qoi h.nodup h.marks) ?_;intro D q;simp at q;subst q;exact ⟨by rw [Zb _ _ qb];exact J3 _ _,Nat.le_refl _⟩
  | some l0=>
    obtain ⟨r0,bk⟩:=bh l0 rfl
    have ak : ∀ o,Yc (w.alloc o) Z (upd inj st.nx (some (w.heap.size,0))) (st.nx + 1) st.sl a.tmps:=fun o=>
      h.slots.mono (fun b hz=>Zb _ _ (h.heap.zs b hz)) (fun _ h=>h) (q1s w o) (fun _ hm=>Y5 _ _ hm) q6
    have j:=J3 w (.loop {state:=.ready,pending:=none,fn,tmps:=a.tmps,params:=k,assign,body,defers:=r0.defers});have hB:=ac _ w.heap.size {state:=.ready,pending:=none,fn,tmps:=a.tmps,params:=k,assign,body,defers:=r0.defers} rfl rfl rfl rfl rfl rfl (ak _) j;exact rest _ w.heap.size _ _ [] (run_enterLoop_inner bk fn a.tmps k assign body) j rfl rfl (h.heap.new _ _ 0 hB) (Ext.new h.heap _ _ 0) rfl (by simpa using h.nodup) qb
theorem qky {f : FuncId} {fn : Func} {c : Code} {j : List V} {hp : List (Nat × Blk)} {nx : Nat} {v : V} (hT : Yk P T) (r : P.funcs[f]? = some fn) (hb : fn.body = some c) (a : (fn.name == "runtime.NumGoroutine") = false) (o : codeOk fn.ntmps c = true) (ad : j.length ≤ fn.ntmps)
    (y : Kp P nx c {sl:=Kv 0 j,hp:=hp,nx:=nx} ex st) (t : ex = .nor∨ex = .ret) (d : resV T st fn.results.toList = some v) : Zx P f j hp nx v st.hp st.nx:=by
  refine ⟨fun args w=>?_,fun w Z inj xs h g=>?_⟩
  · unfold callFunc
    have m : ¬ fn.name = "runtime.NumGoroutine" := by simpa using a
    simp [r,m,hb]
  · refine callsIn_of_wp_marks r hb trivial ?_
    have k : (xs ++ Array.replicate (fn.ntmps - xs.size) undef).size = fn.ntmps:=by
      have:=g.1;simp;omega
    have z : RelS w Z inj {sl:=Kv 0 j,hp:=hp,nx:=nx} {tmps:=xs ++ Array.replicate (fn.ntmps - xs.size) undef,defers:=[]} []:=⟨qri _ g,h,rfl,qb,qb⟩
    refine wpIn_mono (y none w Z inj _ [] z (by show codeOk (xs ++ Array.replicate (fn.ntmps - xs.size) undef).size c = true;rw [k];exact o) (Nat.le_refl _) (fun l g=>by cases g)).1 ?_;rintro e a' w' ⟨rfl,Z',inj',n,b,g2,g3,u,g5⟩
    have q:=qgy (P:=P) (fn:=fn) (pin:=nx) (w0:=w) (Z0:=Z) (inj0:=inj) (hp0:=hp) hT d
      (R:=fun e w'=>∃ x Z' inj',e = .returned x∧RelH w' Z' inj' st.hp st.nx∧Ext w Z inj hp w' Z' inj' st.hp nx∧RelV w' Z' inj' st.nx v x∧nx≤st.nx)
      (fun x w' Z' inj' k1 s k3=>⟨x,Z',inj',rfl,k1,s,k3,u⟩) n w' Z' inj' a' b.slots b.heap g2 b.nodup (fun D p=>⟨b.marks D p,(g5 D p).resolve_left qb⟩)
    rcases t with rfl | rfl
    · show LeavesInM (Fw none) 0 P fn a'.tmps _ a'.defers .returning w';rw [b.defs];exact q
    · show LeavesInM (Fw none) 0 P fn a'.tmps _ a'.defers .returning w';rw [b.defs];exact q
end
theorem qkx {f : FuncId} {m : List V} {hp hp' hp1 : List (Nat × Blk)} {nx nx' nx1 : Nat} {v d : V} {ρ : Nat→Nat} {fz ph : List Nat} (h : Zx P f m hp nx v hp' nx') (l : Wk nx ρ fz ph {sl:=[(0,v)],hp:=hp',nx:=nx'} {sl:=[(0,d)],hp:=hp1,nx:=nx1}) : Zx P f m hp nx d hp1 nx1:=by
  refine ⟨h.1,fun w Z inj xs r n=>(h.2 w Z inj xs r n).mono ?_⟩;rintro e w' ⟨x,Z',inj',rfl,g,o,q,s⟩
  have b : RelS w' Z' inj' {sl:=[(0,v)],hp:=hp',nx:=nx'} {tmps:=#[x],defers:=[]} []:=by
    refine ⟨fun t u c=>?_,g,rfl,List.nodup_nil,qb⟩;rw [Kj] at c;split at c
    · rename_i e;subst e;cases c;exact ⟨x,rfl,q⟩
    · simp [find] at c
  obtain ⟨a,j⟩:=q1b b l;obtain ⟨y,k,p⟩:=a.slots 0 d (by simp [find]);simp at k;subst k;exact ⟨x,_,_,rfl,a.heap,o.trans j (Nat.le_refl _),p,l.bs⟩
theorem qkz (hT : Yk P T) (hm : P.follows .mixedOrders = true) {f : FuncId} {u : List V} {hp : List (Nat × Blk)} {nx : Nat} {v : V} {hp' : List (Nat × Blk)} {nx' : Nat} (h : K4 P T f u hp nx v hp' nx') : Zx P f u hp nx v hp' nx':=by
  refine K4.rec (motive_1:=fun base c st ex st' _=>Kp P base c st ex st') (motive_2:=fun base ops dr l st st' _=>Ue P base ops dr l st st') (motive_3:=fun f u hp nx v hp' nx' _=>Zx P f u hp nx v hp' nx')
    ?_ ?_ ?_ ?_ ?_ ?_ ?_ ?_ ?_ ?_ ?_ ?_ ?_ ?_ ?_ ?_ ?_ ?_ ?_ ?_ ?_ ?_ ?_ ?_ ?_ ?_ h
  · exact qlm
  · exact fun _ _ a d=>qlk a d
  · exact fun _ q a=>qll a q
  · exact fun k _ a=>qlc k a
  · exact fun k _ a=>qlb k a
  · exact fun _ a=>qla a
  · exact qld
  · exact qlj
  · exact fun _ _ a d=>qle a d
  · exact fun _ q a=>qlf a q
  · exact fun _ a=>qlh a
  · exact fun _ hd a=>qli hm a hd
  · exact fun p _ a=>qln p a
  · exact fun b _ o aa ah a=>qlg b a o aa ah
  · exact fun {_ _ dr _}=>by cases dr <;> exact .nil
  · exact fun b _ a=>ql8 b a
  · exact fun b j o _ a=>ql6 hT b j o a
  · exact fun b j _ hn hh o x _ a=>ql7 hT b j hn hh o x a
  · exact fun b j k ag _ af ab hs x _ a d=>ql5 b j k ag a af ab hs x d
  · exact fun b j k _ _ a d=>Z2.cons (qwx b j k a) d
  · exact fun b j k g ae _ y hb _ a d=>Z2.cons (qn7 b j k g ae a y hb) d
  · exact fun b j r w m t g _ ac _ z _ a d h3=>Z2.cons (qna b j r w m t g a ac d z) h3
  · exact fun p _ a=>Z2.wk p a
  · exact fun hp _ _ a d=>Zy.piv hp a d
  · exact fun o hb n ai m _ q s a=>qky hT o hb n ai m a q s
  · exact fun _ p a=>qkx a p
end Go.Am
namespace Go.Am
open Go
open Go.ChangeShapes Go.WideShapes Go.ChangeAt Go.RowKit Go.Deep
inductive CT where
  | int (k : IntKind)
  | bool
  | str
  | sl (l : List CT)
def q91 (P : Program) (f : TypeId→Option (List CT)) : Nat→List Field→Option (List CT)
  | _,[]=>some []
  | o,x::r=>match f x.type with
    | some a=>if x.offset = o∧P.cellsOf x.type = a.length then
        match q91 P f (o + a.length) r with
        | some b=>some (a ++ b)
        | none=>none
      else none
    | none=>none
def tyL (P : Program) : Nat→TypeId→Option (List CT)
  | 0,_=>none
  | f + 1,t=>match P.underlying t with
    | some .bool=>some [.bool]
    | some (.int k)=>some [.int k]
    | some .string=>some [.str]
    | some (.slice e)=>match tyL P f e with
      | some l=>if l.length = P.cellsOf e∧l.length≠0 then some [.sl l] else none
      | none=>none
    | some (.struct fs)=>match q91 P (tyL P f) 0 fs.toList with
      | some l=>if l.length = P.cellsOf t then some l else none
      | none=>none
    | _=>none
inductive Ty : CT→DV→Prop
  | int {k : IntKind} {n : Int} : (Lit.int k n).wf = true→Ty (.int k) (.int k n)
  | bool (b : Bool) : Ty .bool (.bool b)
  | str {s : ByteArray} : s.size≤maxLen→Ty .str (.str s)
  | nil (l : List CT) : Ty (.sl l) .nilsl
  | sl {l : List CT} {xs : List (List DV)} : xs.length≤maxLen→(∀ (i : Nat) (x : List DV),xs[i]? = some x→x.length = l.length)→
      (∀ (i : Nat) (x : List DV) (j : Nat) (c : CT) (d : DV),xs[i]? = some x→l[j]? = some c→x[j]? = some d→Ty c d)→Ty (.sl l) (.sl l.length xs)
section
variable {H : Type} {enc : TypeId × Value→H} {P : Program} {w : World} {base : Nat} {held : Bool}
def ZC (w : World) (b : Nat) : Prop:=∃ c e f,w.heap[b]? = some (.cells c e f)
theorem Ty.cell {c : CT} {d : DV} (h : Ty c d) : Y6 d = true:=by cases h <;> rfl
def Reads (w : World) (l : List CT) (cs : List Value) : Prop:=
  cs.length = l.length∧∃ ds : List DV,ds.length = l.length∧∀ (j : Nat) (c : CT) (v : Value),l[j]? = some c→cs[j]? = some v→∃ d,ds[j]? = some d∧Ty c d∧RelD w (ZC w) d v
theorem q4z {c : CT} {v : Value} {d : DV} (g : Ty c d) (f : RelD w (ZC w) d v) : Reads w [c] [v]:=by
  refine ⟨rfl,[d],rfl,fun j h k a b=>?_⟩
  cases j with
  | zero=>simp at a b;subst a b;exact ⟨d,rfl,g,f⟩
  | succ j=>simp at a
theorem qr1 {l l' : List CT} {cs a : List Value} (h : Reads w l cs) (q : Reads w l' a) : Reads w (l ++ l') (cs ++ a):=by
  obtain ⟨n,ds,o,t⟩:=h;obtain ⟨b1,k,r,p⟩:=q;refine ⟨by simp [n,b1],ds ++ k,by simp [o,r],fun j c v b f=>?_⟩;by_cases s : j < l.length
  · rw [List.getElem?_append_left s] at b;rw [List.getElem?_append_left q6] at f;obtain ⟨d,g,m⟩:=t j c v b f;exact ⟨d,by rw [List.getElem?_append_left q6];exact g,m⟩
  · rw [List.getElem?_append_right q6] at b;rw [List.getElem?_append_right q6,n] at f;obtain ⟨d,g,m⟩:=p _ c v b f;exact ⟨d,by rw [List.getElem?_append_right q6,o];exact g,m⟩
theorem qk2 {f : TypeId→Option (List CT)} {g : Field→List Value→Prop} (d : ∀ (x : Field) (l : List CT) (cs : List Value),f x.type = some l→g x cs→Reads w l cs) :
    ∀ (j : List Field) (o : Nat) (l : List CT) (cs : List Value),q91 P f o j = some l→o + l.length = cs.length→(∀ x∈j,g x ((cs.drop x.offset).take (P.cellsOf x.type)))→Reads w l (cs.drop o)
  | [],o,l,cs,h,hl,_=>by
    simp [q91] at h;subst h
    simp at hl
    rw [hl]
    exact ⟨qb,[],rfl,qb⟩
  | x::r,o,l,cs,h,hl,hx=>by
    simp only [q91] at h
    split at h <;> try simp at h
    rename_i a n
    obtain ⟨⟨m,p⟩,h⟩:=h
    split at h <;> simp at h
    rename_i b hb
    subst h
    have c:=d x a _ n (hx x qb)
    rw [m,p] at c
    have q:=qk2 d r (o + a.length) b cs hb (by simp at hl;omega) (fun y k=>hx y (by simp [k]))
    have:=qr1 c q
    rw [← List.drop_drop] at this
    rwa [List.take_append_drop] at this
theorem qaq : ∀ (f : Nat) (t : TypeId) (l : List CT) (fuel : Nat) (cs : List Value) (x : DataW H × List MemPlace),tyL P f t = some l→DataW.trod enc P w base (fun _=>true) held fuel t cs = some x→Reads w l cs
  | 0,t,l,fuel,cs,x,hl,h=>by simp [tyL] at hl
  | f + 1,t,l,fuel,cs,x,hl,h=>by
    simp only [tyL] at hl
    split at hl <;> try simp at hl
    · rename_i ht
      subst hl
      cases fuel with
      | zero=>simp [DataW.trod] at h
      | succ n=>
        unfold DataW.trod at h
        rw [ht] at h
        split at h <;> simp_all
        exact q4z (.bool _) (.bool _)
    · rename_i k ht
      subst hl
      obtain ⟨n,rfl,_,hw⟩:=DataW.trod_int ht h
      exact q4z (.int hw) (.int _ _)
    · rename_i ht
      subst hl
      cases fuel with
      | zero=>simp [DataW.trod] at h
      | succ n=>
        unfold DataW.trod at h
        rw [ht] at h
        split at h <;> simp_all
        exact q4z (.str q6) (.str _)
    · rename_i e ht
      split at hl <;> simp at hl
      rename_i le an
      obtain ⟨⟨u,ao⟩,rfl⟩:=hl
      rcases open_slice ht h with ⟨rfl,_⟩ | ⟨a,len,cap,m,n,D,Pl,rfl,_,av,bj,hm,_,ar⟩
      · exact q4z (.nil _) .nilsl
      · obtain rfl : cap = m:=by simpa using hm.symm
        have elem : ∀ i,i < cap→∃ p,w.cells? base (a.add (i * P.cellsOf e)) (P.cellsOf e) = some p∧Reads w le p:=by
          intro i hi;obtain ⟨p,h1,h2⟩:=ar i hi;exact ⟨p,h1,qaq f e le n p _ an h2⟩
        have aw : 0 < P.cellsOf e:=by rw [← u];exact List.length_pos_iff.2 ao
        by_cases am : cap = 0
        · subst am
          have : len = 0:=by omega
          subst this
          exact q4z (.sl (xs:=[]) qb qb qb) (.slemp _ _)
        · have ac : a.spot = none∧ZC w a.block:=by
            obtain ⟨p,h1,_⟩:=elem 0 q6;obtain ⟨_,h2,h3⟩:=World.cells?_some h1;have:=h3 0 q6;obtain ⟨v,hv⟩:=Z5 (xs:=p) (i:=0) q6;rw [hv] at this;simp [World.cell?,Addr.add] at this;split at this <;> try simp at this
            rename_i c e' f' hc;exact ⟨this.1,c,e',f',hc⟩
          obtain ⟨b,o,sp⟩:=a
          obtain ⟨ak,hz⟩:=ac
          simp only at ak hz;subst ak
          have ae : ∀ i,i < len→∃ ds : List DV,ds.length = le.length∧∀ (j : Nat) (c : CT),le[j]? = some c→∃ d v,ds[j]? = some d∧Ty c d∧w.cell? ⟨b,o + (i * le.length + j),none⟩ = some v∧RelD w (ZC w) d v:=by
            intro i hi;obtain ⟨p,h1,h4,ds,h5,h6⟩:=elem i q6;obtain ⟨_,h2,h3⟩:=World.cells?_some h1;refine ⟨ds,h5,fun j c hj=>?_⟩;have bd:=K9 hj;obtain ⟨v,hv⟩:=Z5 (xs:=p) (i:=j) q6;obtain ⟨d,z,g2,g3⟩:=h6 j c v hj hv;have:=h3 j q6;rw [hv,J2,J2,← u,Nat.add_assoc] at this;exact ⟨d,v,z,g2,this,g3⟩
          obtain ⟨F,hF⟩:=choose_lt ae
          have q : ∀ (i : Nat) (x : List DV),((List.range len).map F)[i]? = some x→i < len∧x = F i:=by
            intro i x s;simp only [List.getElem?_map,Kt] at s;obtain ⟨k,hk,rfl⟩:=s;have hi : i < len:=by simpa using K9 hk
            rw [List.getElem?_range hi] at hk;cases hk;exact ⟨hi,rfl⟩
          have r : ((List.range len).map F).length = len:=by simp
          have ab : RelD w (ZC w) (.sl le.length ((List.range len).map F)) (.slice (some ⟨b,o,none⟩) ((List.range len).map F).length cap):=by
            refine .sl (by rw [r];exact av) (fun _=>hz) ?_ ?_ ?_
            · intro i x s;obtain ⟨hi,rfl⟩:=q i x s;exact (hF i hi).1
            · intro i x j d s hd;obtain ⟨hi,rfl⟩:=q i x s;obtain ⟨c,hc⟩:=Z5 (xs:=le) (i:=j) (by rw [← (hF i hi).1];exact K9 hd);obtain ⟨d',v,z,g2,g3,g4⟩:=(hF i hi).2 j c hc;rw [hd] at z;cases z;exact ⟨g2.cell,v,g3⟩
            · intro i x j d v s hd hv;obtain ⟨hi,rfl⟩:=q i x s;obtain ⟨c,hc⟩:=Z5 (xs:=le) (i:=j) (by rw [← (hF i hi).1];exact K9 hd);obtain ⟨d',v',z,g2,g3,g4⟩:=(hF i hi).2 j c hc;rw [hd] at z;cases z;rw [hv] at g3;cases g3;exact g4
          rw [r] at ab
          refine q4z (.sl (by rw [r];omega) ?_ ?_) ab
          · intro i x s
            obtain ⟨hi,rfl⟩:=q i x s
            exact (hF i hi).1
          · intro i x j c d s hc hd
            obtain ⟨hi,rfl⟩:=q i x s
            obtain ⟨d',v,z,g2,_⟩:=(hF i hi).2 j c hc
            rw [hd] at z;cases z
            exact g2
    · rename_i fs ht
      split at hl <;> simp at hl
      rename_i l' au
      obtain ⟨u,rfl⟩:=hl
      obtain ⟨xs,n,_,_,be,bc,hf⟩:=DataW.trod_struct ht h
      have:=qk2 (P:=P) (w:=w) (f:=tyL P f) (g:=fun x cs=>∃ y,DataW.trod enc P w base (fun _=>true) held n x.type cs = some y) (fun x l cs h1 ⟨y,h2⟩=>qaq f x.type l n cs y h1 h2) fs.toList 0 l' cs au q6 ?_
      · simpa using this
      · intro x s
        obtain ⟨i,hi⟩:=List.getElem?_of_mem s
        have:=hf i x (by simpa using hi)
        obtain ⟨y,hy⟩:=Z5 (xs:=xs) (i:=i) (by have:=K9 hi;simp at this;omega)
        exact ⟨y,by rw [this];exact hy⟩
end
end Go.Am
namespace Go.Am
open Go
open Go.ChangeShapes Go.WideShapes Go.ChangeAt Go.RowKit Go.Deep
theorem qx4 {P : Program} {l : List (Nat × TI)} (h : l.map (fun x=>tiOf P x.1) = l.map (fun x=>some x.2)) : Yk P (qjz l):=by
  intro t i a;have b:=Zf (show find l t = some i from a);obtain ⟨k,c⟩:=List.getElem?_of_mem b;have:=congrArg (fun r=>r[k]?) h;simp only [List.getElem?_map,c,Option.map_some] at this;exact qau this
def aggT (P : Program) (t : TypeId) : Bool:=match P.underlying t with
  | some (.struct _) | some (.array _ _)=>true
  | _=>false
inductive Jp : List (Bool × List CT)→List DV→Prop
  | nil : Jp [] []
  | one {c : CT} {d : DV} {ps : List (Bool × List CT)} {ds : List DV} : Ty c d→Jp ps ds→Jp ((false,[c])::ps) (d::ds)
  | agg {l : List CT} {xs : List DV} {ps : List (Bool × List CT)} {ds : List DV} : xs.length = l.length→(∀ (j : Nat) (c : CT) (d : DV),l[j]? = some c→xs[j]? = some d→Ty c d)→Jp ps ds→Jp ((true,l)::ps) (.agg xs::ds)
section
variable {H : Type} {enc : TypeId × Value→H} {P : Program} {T : Tab} {W : World} {base : Nat}
theorem qkn {t : TypeId} {f : Nat} {l : List CT} {v : Value} {d : DataW H} {p : List MemPlace} (r : aggT P t = false) (o : tyL P f t = some l) (g : Value.okWide P W .any base t v) (h : DataW.Trod enc P W 0 (fun _=>true) true t v d p) :
    ∃ c x,l = [c]∧Ty c x∧RelD W (ZC W) x v:=by
  obtain ⟨fuel,hf⟩:=h;have m:=qaq f t l fuel _ _ o hf
  have key : v.cells = #[v]→∃ c,l = [c]→∃ x,Ty c x∧RelD W (ZC W) x v:=by
    intro y;rw [y] at m;obtain ⟨z,ds,h2,q⟩:=m
    match l,z with
    | [c],_=>
      obtain ⟨x,_,u,w⟩:=q 0 c v rfl rfl;exact ⟨c,fun _=>⟨x,u,w⟩⟩
  have fin : v.cells = #[v]→∃ c x,l = [c]∧Ty c x∧RelD W (ZC W) x v:=by
    intro y;have j:=m.1;rw [y] at j m
    match l,j,m with
    | [c],_,m=>
      obtain ⟨_,ds,h2,q⟩:=m;obtain ⟨x,_,u,w⟩:=q 0 c v rfl rfl;exact ⟨c,x,rfl,u,w⟩
  cases f with
  | zero=>simp [tyL] at o
  | succ f=>
    simp only [tyL] at o;split at o <;> try simp at o
    · rename_i a;obtain ⟨b,rfl⟩:=okWide_bool a g;exact fin rfl
    · rename_i k a;obtain ⟨n,rfl⟩:=okWide_int a g;exact fin rfl
    · rename_i a;obtain ⟨s,rfl⟩:=okWide_string a g;exact fin rfl
    · rename_i e a;obtain ⟨a0,len,cap,rfl⟩:=okWide_slice a g;exact fin rfl
    · rename_i fs a;simp [aggT,a] at r
theorem qkm {t : TypeId} {f : Nat} {l : List CT} {v : Value} {d : DataW H} {p : List MemPlace} (b : aggT P t = true) (u : tyL P f t = some l) (a : Value.okWide P W .any base t v) (h : DataW.Trod enc P W 0 (fun _=>true) true t v d p) :
    ∃ xs : List DV,xs.length = l.length∧(∀ (j : Nat) (c : CT) (d : DV),l[j]? = some c→xs[j]? = some d→Ty c d)∧RelD W (ZC W) (.agg xs) v:=by
  obtain ⟨fuel,hf⟩:=h
  have s : ∃ cs,v = .agg cs:=by
    unfold aggT at b;unfold Value.okWide at a;split at b
    · rename_i n;simp only [n] at a;obtain ⟨cs,h,_⟩:=a;exact ⟨cs,h⟩
    · rename_i n;simp only [n] at a;obtain ⟨cs,h,_⟩:=a;exact ⟨cs,h⟩
    · simp at b
  obtain ⟨cs,rfl⟩:=s;obtain ⟨m,ds,r,o⟩:=qaq f t l fuel _ _ u hf;simp only [Value.cells] at m o;refine ⟨ds,r,fun j c d k hd=>?_,.agg (by simpa [r] using m.symm) fun j d c hd k=>?_⟩
  · obtain ⟨v,s⟩:=Z5 (xs:=cs.toList) (i:=j) (by rw [m];exact K9 k);obtain ⟨w,g,y,_⟩:=o j c v k s;rw [hd] at g;cases g;exact y
  · obtain ⟨z,q⟩:=Z5 (xs:=l) (i:=j) (by rw [← r];exact K9 hd);obtain ⟨w,g,_,x⟩:=o j z c q (by simpa using k);rw [hd] at g;cases g;exact x
theorem qef {f : Nat} : ∀ (o : List TypeId) (a : List (Bool × List CT)) (m : List Value) (ds : List (DataW H)) (p : List MemPlace),o.map (fun t=>(aggT P t,tyL P f t)) = a.map (fun x=>(x.1,some x.2))→
    (∀ (j : Nat) t v,o[j]? = some t→m[j]? = some v→Value.okWide P W .any base t v)→DataW.TrodAll enc P W 0 (fun _=>true) true o m ds p→
    ∃ xs : List DV,Jp a xs∧xs.length = m.length∧∀ (j : Nat) (x : DV) (v : Value),xs[j]? = some x→m[j]? = some v→RelD W (ZC W) x v
  | [],a,m,ds,p,hp,hok,h=>by
    obtain ⟨rfl,rfl,rfl⟩:=trodAll_nil h
    cases a with
    | nil=>exact ⟨[],.nil,rfl,qb⟩
    | cons _ _=>simp at hp
  | t::o,a,m,ds,p,hp,hok,h=>by
    obtain ⟨v,z,d,s,q,q',rfl,rfl,rfl,h1,h2⟩:=trodAll_cons h
    cases a with
    | nil=>simp at hp
    | cons pr a=>
      obtain ⟨ag,l⟩:=pr
      simp only [List.map_cons,List.cons.injEq,Prod.mk.injEq] at hp
      obtain ⟨⟨n,hl⟩,hp⟩:=hp
      obtain ⟨xs,g1,g2,g3⟩:=qef o a z s q' hp (fun j t v ht hv=>hok (j + 1) t v (by simpa using ht) (by simpa using hv)) h2
      have b:=hok 0 t v rfl rfl
      cases ag with
      | false=>
        obtain ⟨c,x,rfl,w,r⟩:=qkn n hl b h1
        refine ⟨x::xs,.one w g1,by simp [g2],fun j y u g k=>?_⟩
        cases j with
        | zero=>simp at g k;subst g k;exact r
        | succ j=>exact g3 j y u (by simpa using g) (by simpa using k)
      | true=>
        obtain ⟨zs,k0,w,r⟩:=qkm n hl b h1
        refine ⟨.agg zs::xs,.agg k0 w g1,by simp [g2],fun j y u g k=>?_⟩
        cases j with
        | zero=>simp at g k;subst g k;exact r
        | succ j=>exact g3 j y u (by simpa using g) (by simpa using k)
theorem qxc {F : FuncId} {l : Array Value} {xs : List DV} (hT : Yk P T) (hm : P.follows .mixedOrders = true) (hp : Pure P T F xs (.bool true)) (u : xs.length = l.size) (z : ∀ (j : Nat) (x : DV) (v : Value),xs[j]? = some x→l[j]? = some v→RelD W (ZC W) x v) :
    Calls P F l W fun e m=>e = .returned (.bool true)∧Grown W m∧Below W.heap.size W m:=by
  obtain ⟨v,hp',nx',r',w,r,p⟩:=hp;have hg:=qkz hT hm w
  have h0 : RelH W (ZC W) (fun _=>none) [] 0:=⟨fun _ _ h=>by simp [find] at h,fun _ _ _ _ _ _ h=>by simp [find] at h,fun _ _ _ h=>by simp [find] at h,
    fun b ⟨c,e,f,h⟩=>Zj h,fun b h=>h⟩
  have hc:=hg.2 W (ZC W) (fun _=>none) l h0 ⟨by simpa using u,fun j x v s q=>by
    simp only [List.getElem?_map,Kt] at s;obtain ⟨y,t,rfl⟩:=s
    exact .d (z j y v t q)⟩
  refine (callsIn_wide (n:=0).1 hc).mono ?_;rintro e m ⟨x,Z',inj',rfl,hh,a,q,hn⟩;have hD:=(q92 hh 8 r q).le p;cases hD;have g : ∀ k,k < W.heap.size→m.heap[k]? = W.heap[k]?:=fun k g=>a.keep k g (by rintro ⟨n,blk,o,h1,_⟩;simp [find] at h1);refine ⟨rfl,⟨⟨a.os,a.output,fun i hi=>?_⟩,a.frz,a.size⟩,⟨a.os,a.tape,a.output,a.size,g⟩⟩;rw [g i hi]
  cases hw : W.heap[i]? with
  | none=>simp
  | some o=>cases o <;> simp
theorem qeg (a : laidOutB P = true) {k : World} {l : Nat→Bool} : ∀ (b : List TypeId) (f : List Value) (ds : List (DataW H)) (p : List MemPlace),(∀ t∈b,P.readableRec t = true∧t < P.types.size)→DataW.TrodAll enc P W 0 (fun _=>true) true b f ds p→
    Below W.heap.size W k→(∀ x∈p,x.block < W.heap.size∧l x.block = true)→DataW.TrodAll enc P k 0 l true b f ds p
  | [],f,ds,p,_,h,_,_=>by obtain ⟨rfl,rfl,rfl⟩:=trodAll_nil h;exact trodAll_mk0
  | t::b,f,ds,p,ht,h,hb,hp=>by
    obtain ⟨v,j,d,g,q,o,rfl,rfl,rfl,m,r⟩:=trodAll_cons h
    refine trodAll_cons_mk (WideElems.Trod_stays a (ht t qb).1 (ht t qb).2 m (fun x c=>hb.same (hp x (by simp [c])).1) (fun x c=>(hp x (by simp [c])).2))
      (qeg a b j g o (fun u n=>ht u (by simp [n])) r hb (fun x c=>hp x (by simp [c])))
theorem contract {f : Func} {F : FuncId} {s : ChangeSpec} {tb : TypeId} {fuel : Nat} {ps : List (Bool × List CT)} (hT : Yk P T) (hm : P.follows .mixedOrders = true) (n : laidOutB P = true)
    (a : s.vars = []) (c : f.resultTypes = #[tb]) (z : P.underlying tb = some .bool) (k : ∀ t∈f.params.toList,P.readableRec t = true∧t < P.types.size)
    (ag : f.params.toList.map (fun t=>(aggT P t,tyL P fuel t)) = ps.map (fun x=>(x.1,some x.2)))
    (hs : ∀ ds : List (DataW H),ds.length = f.params.size→s.fn H ds = {results:=[.lit (.bool true)],args:=ds})
    (g : ∀ xs,Jp ps xs→Pure P T F xs (.bool true))
    {args : Array Value} {ds gs : List (DataW H)} {before : List MemPlace} (y : ∀ (j : Nat) t v,f.params[j]? = some t→args[j]? = some v→Value.okWide P W .any base t v)
    (hW : DataW.Whole enc P f.params.toList s.vars false W args.toList ds gs before) :
    Calls P F args W fun e W'=>∃ v,e = .returned v∧s.post enc P f false true false false W args v W':=by
  have m:=hW;obtain ⟨p,q,hA,hV,rfl,av,ao⟩:=hW;rw [a] at hV;obtain ⟨rfl,rfl⟩:=trodVars_none hV;have u:=m.lt;simp only [List.append_nil] at m u;obtain ⟨xs,g1,g2,g3⟩:=qef (base:=base) f.params.toList ps args.toList ds p ag (fun j t v ht hv=>y j t v (by simpa using ht) (by simpa using hv)) hA;refine (qxc hT hm (g xs g1) (by simpa using g2) (fun j x v hx hv=>g3 j x v hx (by simpa using hv))).mono ?_;rintro e W' ⟨rfl,hg,hb⟩
  have r : ds.length = f.params.size:=by
    have : ∀ (w : List TypeId) (vs : List Value) (ds : List (DataW H)) (p : List MemPlace),DataW.TrodAll enc P W 0 (fun _=>true) true w vs ds p→ds.length = w.length:=by
      intro w
      induction w with
      | nil=>intro vs ds p h;obtain ⟨_,rfl,_⟩:=trodAll_nil h;rfl
      | cons t w ih=>intro vs ds p h;obtain ⟨v,ay,d,al,q,q',rfl,rfl,rfl,_,h2⟩:=trodAll_cons h;simp [ih _ _ _ h2]
    simpa using this _ _ _ _ hA
  have l:=hs (ds ++ []) (by simpa using r);refine ⟨_,rfl,post_of_same (pa:=p) (pv:=[]) m ?_ ?_ ?_ qb (hg.frame _) hg.2.1 (ok_one c rfl (okWide_bool_mk z _))⟩
  · intro b sp hd;rw [c,l];exact trodAll_cons_mk (shut_bool z _) trodAll_mk0
  · intro sp o;rw [l];show DataW.TrodAll enc P W' 0 sp true f.params.toList args.toList (ds ++ []) p;rw [List.append_nil];exact qeg n _ _ _ _ k hA hb fun x hx=>⟨u x hx,o x hx⟩
  · intro sp o;rw [l,a];rfl
end
end Go.Am
namespace Go.Am
open Go
variable {P : Program} {T : Tab}
section
variable {base : Nat} {ops : Array Oper} {dr : Dr} {l : List Oper} {sl sl1 : List (Nat × V)} {hp hp1 : List (Nat × Blk)} {nx nx1 : Nat} {K : AS→Prop} {ty : TypeId} {pos : String} {af : Array Edge} {t : Tmp} {g : Option (Nat × Bool)} {v : V}
theorem qn3 {st : AS} {op : Op} (h : touch op = 0) : fp st op = (some [],[]):=by
  unfold touch at h;split at h <;> first | rfl | (simp at h;done) | (exact absurd h Q0)
theorem qok {dr : Dr} {k : Nat} {st st1 : AS} {t : TypeId} {p : Operand} (h : okF dr k (fp st (.load t p)) = true) : okO dr k st (.load t p) st1 = true:=by
  cases dr with
  | none=>rfl
  | some F=>simp only [okF] at h;simp only [okO,h,Bool.true_and,q2m,touch]
theorem qhn {dr : Dr} {k n es : Nat} {st st1 : AS} {op : Op} {xs : List (List DV)} {r : List (Nat × Blk)} (a : st1.hp = (n,.dat es xs)::r) (h : okF dr k (fp st op) = true) : okO dr k st op st1 = true:=by
  cases dr with
  | none=>rfl
  | some F=>
    simp only [okF] at h;simp only [okO,h,Bool.true_and,q2m,a];split <;> rfl
theorem J8 {dr : Dr} {k : Nat} {st st1 : AS} {op : Op} (h : touch op = 0) : okO dr k st op st1 = true:=by
  cases dr with
  | none=>rfl
  | some F=>simp only [okO,qn3 h,qg6,Bool.true_and,q2m,h]
theorem fin {ex : Ex} {st : AS} {b : List ResultVar} {v : V} {r a : DV} (d : ex = .nor∨ex = .ret) (g : resV T st b = some v) (c : toD st.hp 8 v = some a) (f : a = r) : (ex = .nor∨ex = .ret)∧∃ v a,resV T st b = some v∧toD st.hp 8 v = some a∧DLe a r:=
  ⟨d,v,a,g,c,f ▸ .refl _⟩
theorem qop {x y : Operand} {a : TypeId} {i : TI} {k : IntKind} {n : Int} {m es off len : Nat} (b : Ql ops ⟨sl,hp,nx⟩ ⟨some t,.indexAddr a x y,ty,pos,af,g⟩ = some true) (q : T a = some i)
    (o : AS.ev ⟨sl,hp,nx⟩ x = some (.hs m es off len)) (c : AS.ev ⟨sl,hp,nx⟩ y = some (.d (.int k n))) (f : i.kind = .slice) (j : es = i.esize) (p : 0≤n) (hi : n < len)
    (h : OpsK P T base ops dr l ⟨(t,.ref m es (off + n.toNat) 0)::sl,hp,nx⟩ K) : OpsK P T base ops dr (⟨some t,.indexAddr a x y,ty,pos,af,g⟩::l) ⟨sl,hp,nx⟩ K:=
  Y4 b (v:=.ref m es (off + n.toNat) 0) (st1:=⟨sl,hp,nx⟩) (by simp [opFn,o,c,q,q2r,f,j,p,hi]) h (J8 rfl)
theorem qhr {p : Operand} {b : TypeId} {i : TI} {m es a j : Nat} {xs : List (List DV)} {cs r : List DV} {w : V} (c : Ql ops ⟨sl,hp,nx⟩ ⟨some t,.load b p,ty,pos,af,g⟩ = some true) (o : T b = some i)
    (n : AS.ev ⟨sl,hp,nx⟩ p = some (.ref m es a j)) (hb : find hp m = some (.dat es xs)) (hi : xs[a]? = some cs) (hs : sub cs j i.size = some r) (k : (Uz i.agg r).map .d = some w)
    (h : OpsK P T base ops dr l ⟨(t,w)::sl,hp,nx⟩ K) (f : okF dr l.length (fp ⟨sl,hp,nx⟩ (.load b p)) = true:=by rfl) : OpsK P T base ops dr (⟨some t,.load b p,ty,pos,af,g⟩::l) ⟨sl,hp,nx⟩ K:=
  Y4 c (v:=w) (st1:=⟨sl,hp,nx⟩) (by simp only [opFn,n,o,J7,AS.blk,hb,Nat.beq_refl,hi,hs,k,Option.map_some]) h (qok f)
end
end Go.Am
namespace Go.Am
open Go
variable {P : Program} {T : Tab}
section
variable {base : Nat} {ops : Array Oper} {dr : Dr} {l : List Oper} {sl : List (Nat × V)} {hp : List (Nat × Blk)} {nx : Nat} {K : AS→Prop} {ty : TypeId} {pos : String} {af : Array Edge} {t : Tmp} {g : Option (Nat × Bool)} {v : V}
theorem Kn {a : TypeId} {i : TI} (b : Ql ops ⟨sl,hp,nx⟩ ⟨some t,.alloc a,ty,pos,af,g⟩ = some true) (d : T a = some i)
    (h : OpsK P T base ops dr l ⟨(t,.ref nx i.size 0 0)::sl,(nx,.dat i.size [i.zero])::hp,nx + 1⟩ K) (c : okF dr l.length (fp ⟨sl,hp,nx⟩ (.alloc a)) = true:=by rfl) : OpsK P T base ops dr (⟨some t,.alloc a,ty,pos,af,g⟩::l) ⟨sl,hp,nx⟩ K:=
  Y4 b (v:=.ref nx i.size 0 0) (st1:=⟨sl,(nx,.dat i.size [i.zero])::hp,nx + 1⟩) (by simp only [opFn,d,Option.map_some];rfl) h (qhn rfl c)
theorem qol {x y : Operand} {a b : TypeId} {i j : TI} {n es len : Nat} {xs ys : List (List DV)} {d : V} (k : Ql ops ⟨sl,hp,nx⟩ ⟨some t,.call {callee:=.builtin .append,args:=#[x,y],argTypes:=#[a,b]},ty,pos,af,g⟩ = some true)
    (hT : T a = some i) (f : T b = some j) (u : AS.ev ⟨sl,hp,nx⟩ x = some (.hs n es 0 len)) (m : AS.ev ⟨sl,hp,nx⟩ y = some d) (hb : find hp n = some (.dat es xs)) (o : len = xs.length) (z : Yf ⟨sl,hp,nx⟩ d = some ys)
    (q : i.kind = .slice) (c : j.kind = .slice) (r : es = i.esize) (w : Ze i.esize d = true) (s : (len + ys.length) * (i.ebytes * 4)≤4294967296)
    (h : OpsK P T base ops dr l ⟨(t,.hs nx es 0 (len + ys.length))::sl,(nx,.dat es (xs ++ ys))::repl hp n .dead,nx + 1⟩ K) (p : okF dr l.length (fp ⟨sl,hp,nx⟩ (.call {callee:=.builtin .append,args:=#[x,y],argTypes:=#[a,b]})) = true:=by rfl) : OpsK P T base ops dr (⟨some t,.call {callee:=.builtin .append,args:=#[x,y],argTypes:=#[a,b]},ty,pos,af,g⟩::l) ⟨sl,hp,nx⟩ K:=by
  refine Y4 k (v:=.hs nx es 0 (len + ys.length)) (st1:=⟨sl,(nx,.dat es (xs ++ ys))::repl hp n .dead,nx + 1⟩) ?_ h (qhn rfl p);subst o;have e : ((xs.drop 0).take xs.length ++ ys) = xs ++ ys:=by simp
  simp only [opFn,evL,u,m,Ks];simp only [List.getElem?_toArray,List.getElem?_cons_zero,List.getElem?_cons_succ,hT,f];rw [qp ⟨q,c,w⟩];simp only [Yl,AS.blk,hb,z];rw [qp ⟨q6,trivial,s,r⟩,e];rfl
theorem qcx {x : Operand} (a : Ql ops ⟨sl,hp,nx⟩ ⟨some t,.move x,ty,pos,af,g⟩ = some true) (b : AS.ev ⟨sl,hp,nx⟩ x = some v)
    (h : OpsK P T base ops dr l ⟨(t,v)::sl,hp,nx⟩ K) : OpsK P T base ops dr (⟨some t,.move x,ty,pos,af,g⟩::l) ⟨sl,hp,nx⟩ K:=
  Y4 a (v:=v) (st1:=⟨sl,hp,nx⟩) (by simp only [opFn,b,Option.map_some]) h (J8 rfl)
theorem qom {x : Operand} (a : Ql ops ⟨sl,hp,nx⟩ ⟨some t,.assign x,ty,pos,af,g⟩ = some true) (b : AS.ev ⟨sl,hp,nx⟩ x = some v)
    (h : OpsK P T base ops dr l ⟨(t,v)::sl,hp,nx⟩ K) : OpsK P T base ops dr (⟨some t,.assign x,ty,pos,af,g⟩::l) ⟨sl,hp,nx⟩ K:=
  Y4 a (v:=v) (st1:=⟨sl,hp,nx⟩) (by simp only [opFn,b,Option.map_some]) h (J8 rfl)
theorem qc {op : Op} {j : Nat} {w : Bool} (a : Ql ops ⟨sl,hp,nx⟩ ⟨some t,op,ty,pos,af,some (j,w)⟩ = some false) (h : OpsK P T base ops dr l ⟨(t,.d (.tup []))::sl,hp,nx⟩ K) : OpsK P T base ops dr (⟨some t,op,ty,pos,af,some (j,w)⟩::l) ⟨sl,hp,nx⟩ K:=
  qoz a h
theorem qot {x : Operand} {a : TypeId} {i : TI} {es : Nat} {xs : List (List DV)} {m : Nat} (b : Ql ops ⟨sl,hp,nx⟩ ⟨some t,.call {callee:=.builtin .len,args:=#[x],argTypes:=#[a]},ty,pos,af,g⟩ = some true) (k : T a = some i) (j : i.kind = .slice) (c : AS.ev ⟨sl,hp,nx⟩ x = some (.d (.sl es xs))) (f : xs.length = m)
    (h : OpsK P T base ops dr l ⟨(t,.d (.int .i64 m))::sl,hp,nx⟩ K) : OpsK P T base ops dr (⟨some t,.call {callee:=.builtin .len,args:=#[x],argTypes:=#[a]},ty,pos,af,g⟩::l) ⟨sl,hp,nx⟩ K:=by
  subst f;exact Y4 b (v:=.d (.int .i64 xs.length)) (st1:=⟨sl,hp,nx⟩) (by simp only [opFn,evL,c,Ks];simp only [List.getElem?_toArray,List.getElem?_cons_zero,k,j]) h (J8 rfl)
end
end Go.Am
namespace Go.Am
open Go
def iter {α β : Type} (f : α→Option (α ⊕ β)) : Nat→α→Option β
  | 0,_=>none
  | n + 1,a=>match f a with
    | none=>none
    | some (.inl a')=>iter f n a'
    | some (.inr b)=>some b
theorem qc8 {α β : Type} {f : α→Option (α ⊕ β)} : ∀ {n : Nat} {a : α} {b : β},iter f n a = some b→∀ m,n≤m→iter f m a = some b
  | 0,_,_,h,_,_=>by simp [iter] at h
  | n + 1,a,b,h,m,hm=>by
    obtain ⟨k,rfl⟩ : ∃ k,m = k + 1:=⟨m - 1,q6⟩
    simp only [iter] at h ⊢
    split at h
    · simp at h
    · rename_i a' c;exact qc8 h k q6
    · exact h
theorem qnl {α β : Type} {f : α→Option (α ⊕ β)} {n m : Nat} {a : α} {b c : β} (h : iter f n a = some b) (d : iter f m a = some c) : b = c:=by
  have g:=qc8 h (max n m) q6;have j:=qc8 d (max n m) q6;grind
open Classical in
noncomputable def loop {α β : Type} (f : α→Option (α ⊕ β)) (a : α) : Option β:=
  if h : ∃ b n,iter f n a = some b then some h.choose else none
theorem q6x {α β : Type} {f : α→Option (α ⊕ β)} {a : α} {b : β} : loop f a = some b↔∃ n,iter f n a = some b:=by
  unfold loop;split
  · rename_i h;constructor
    · grind
    · rintro ⟨n,c⟩;obtain ⟨m,d⟩:=h.choose_spec;rw [qnl d c]
  grind
theorem Km {α β : Type} {f : α→Option (α ⊕ β)} {a a' : α} (h : f a = some (.inl a')) : loop f a = loop f a':=by
  apply Option.ext;intro b;rw [q6x,q6x];constructor
  · rintro ⟨n,c⟩
    cases n with
    | zero=>simp [iter] at c
    | succ n=>simp only [iter,h] at c;exact ⟨n,c⟩
  · rintro ⟨n,c⟩;exact ⟨n + 1,by simp only [iter,h];exact c⟩
theorem Kb {α β : Type} {f : α→Option (α ⊕ β)} {a : α} {b : β} (h : f a = some (.inr b)) : loop f a = some b:=
  q6x.2 ⟨1,by simp [iter,h]⟩
theorem qnz {α β : Type} {f : α→Option (α ⊕ β)} (I : α→Prop) (μ : α→Nat) (Q : β→Prop) (step : ∀ a,I a→(∃ a',f a = some (.inl a')∧I a'∧μ a' < μ a)∨∃ b,f a = some (.inr b)∧Q b) {a : α} (h : I a) : ∃ b,loop f a = some b∧Q b:=by
  generalize g : μ a = n
  induction n using Nat.strongRecOn generalizing a with
  | _ n ih=>
    rcases step a h with ⟨a',c,d,j⟩ | ⟨b,c,d⟩
    · rw [Km c];exact ih _ (g ▸ j) d rfl
    · exact ⟨b,Kb c,d⟩
def w64 (x : Int) : Int:=IntKind.i64.wrap x
theorem Qc {x : Int} (h : -9223372036854775808≤x∧x≤9223372036854775807) : w64 x = x:=qdx h
def idx {α : Type} (xs : List α) (i : Int) : Option α:=if 0≤i then xs[i.toNat]? else none
def app {α : Type} (c : Nat) (xs ys : List α) : Option (List α):=if (xs.length + ys.length) * (c * 4)≤4294967296 then some (xs ++ ys) else none
def sub2 (n : Nat) (a b : Int) : Option (Nat × Nat):=if 0≤a∧a≤b∧b≤n then some (a.toNat,b.toNat - a.toNat) else none
def cpyw {α : Type} (xs : List α) (w : Nat × Nat) (ys : List α) : List α:=splice xs w.1 (ys.take (min ys.length w.2))
theorem leb {n m : Nat} (h : Nat.ble n m = true) : n≤m:=by simpa using h
theorem qfg {α : Type} {xs ys : List α} {w : Nat × Nat} (h : w.1 + w.2≤xs.length) : (cpyw xs w ys).length = xs.length:=by
  simp [cpyw,splice];omega
theorem ltd {n m : Nat} (h : Nat.blt n m = true) : n < m:=by simpa [Nat.blt_eq] using h
def eI (k : IntKind) (x : Int) : List DV:=[.int k x]
def eB (b : Bool) : List DV:=[.bool b]
theorem q9s {α : Type} {xs : List α} {i : Int} {v : α} (h : idx xs i = some v) : 0≤i∧xs[i.toNat]? = some v∧i.toNat < xs.length:=by
  unfold idx at h;grind
theorem qxs {α β : Type} {o : Option α} {f : α→Option β} {x : β} (h : o.bind f = some x) : ∃ v,o = some v∧f v = some x:=by
  cases o with
  | none=>cases h
  | some v=>exact ⟨v,rfl,h⟩
theorem qxz {α : Type} {a b : α} (h : some a = some b) : a = b:=qau h
section
variable {P : Program} {T : Tab} {base : Nat} {cs : List Code} {st : AS} {K : Ex→AS→Prop}
theorem RunK.mono {a : Ex→AS→Prop} : ∀ {cs : List Code} {st : AS},RunK P T base cs st K→(∀ ex st,K ex st→a ex st)→RunK P T base cs st a
  | [],_,h,hk=>hk _ _ h
  | c::cs,st,h,hk=>q2g.mono h fun ex st h=>by
    cases ex with
    | nor=>exact RunK.mono (cs:=cs) h hk
    | exit i=>exact hk _ _ h
    | ret=>exact hk _ _ h
theorem qo {α : Type} {c : Operand} {a b : Code} {t : Bool} {X Y : Option α} {x : α} (f : st.ev c = some (.d (.bool t))) (h : cond t X Y = some x) (g : t = true→X = some x→RunK P T base (a::cs) st K) (j : t = false→Y = some x→RunK P T base (b::cs) st K) :
    RunK P T base (.cond c a b::cs) st K:=by
  cases t with
  | true=>exact q55 f (g rfl h)
  | false=>exact Ua f (j rfl h)
theorem Qb {α β : Type} {body : Code} (f : α→Option (α ⊕ β)) (S : α→AS) (j : α) (m : β) (p : loop f j = some m) (q : WkE base st (S j))
    (round : ∀ a y,f a = some y→RunK P T base [body] (S a) (fun ex st'=>match ex with
      | .nor=>∃ a',y = .inl a'∧WkE base st' (S a')
      | ex=>∃ b,y = .inr b∧(b = m→K ex st'))) : RunK P T base (.loop body::cs) st K:=by
  obtain ⟨n,l⟩:=q6x.1 p;refine qrr (fun x : Nat × α=>S x.2) (fun x=>iter f x.1 x.2 = some m) (fun x=>x.1) (n,j) q l ?_;rintro ⟨k,a⟩ c
  cases k with
  | zero=>simp [iter] at c
  | succ k=>
    simp only [iter] at c;split at c
    · cases c
    · rename_i a' g;refine (round a _ g).mono ?_;intro ex st' h
      cases ex with
      | nor=>
        obtain ⟨a'',d,o⟩:=h;cases d;exact ⟨(k,a'),c,qb,o⟩
      | exit i=>obtain ⟨b,d,_⟩:=h;cases d
      | ret=>obtain ⟨b,d,_⟩:=h;cases d
    · rename_i b g;cases c;refine (round a _ g).mono ?_;grind
theorem q2j {id : Nat} {N : AS→Prop} (h : N st) : q2k id N K (.exit id) st:=by simpa [q2k] using h
theorem Qm {id : Nat} {N : AS→Prop} (h : N st) : q2k id N K .nor st:=h
theorem Yp {β : Type} {c : Code} (E : β→Prop) (S : β→AS) (f : cs≠[]) (j : RunK P T base [c] st (q90 (fun st'=>∃ b,E b∧WkE base st' (S b)) K)) (a : ∀ b,E b→RunK P T base cs (S b) K) : RunK P T base (c::cs) st K:=by
  obtain ⟨ex,st1,g,d⟩:=q47 j;refine ⟨ex,st1,g,?_⟩
  cases ex with
  | nor=>obtain ⟨b,hb,h⟩:=d;exact Yz h (a b hb) f
  | exit i=>exact d
  | ret=>exact d
theorem Qf {β : Type} {id : Nat} {a : Code} (E : β→Prop) (S : β→AS) (d : cs≠[]) (g : RunK P T base [a] st (q2k id (fun st'=>∃ b,E b∧WkE base st' (S b)) K)) (c : ∀ b,E b→RunK P T base cs (S b) K) : RunK P T base (.block id a::cs) st K:=by
  refine Q4 (g.mono ?_);intro ex st' h
  cases ex with
  | nor=>obtain ⟨b,hb,f⟩:=h;exact Yz f (c b hb) d
  | ret=>exact h
  | exit i=>
    simp only [q2k] at h ⊢;split
    · rename_i hi;rw [qp hi] at h;obtain ⟨b,hb,f⟩:=h;exact Yz f (c b hb) d
    grind
theorem qdd {β : Type} {c : Code} (E : β→Prop) (S : β→AS) (f : RunK P T base [c] st (q90 (fun st'=>∃ b,E b∧WkE base st' (S b)) K)) (a : ∀ b st',E b→WkE base st' (S b)→K .nor st') : RunK P T base [c] st K:=by
  refine f.mono ?_;intro ex st' h
  cases ex with
  | nor=>obtain ⟨b,hb,d⟩:=h;exact a b st' hb d
  | exit i=>exact h
  | ret=>exact h
end
section
variable {P : Program} {T : Tab} {base : Nat} {ops : Array Oper} {dr : Dr} {l : List Oper} {sl : List (Nat × V)} {hp : List (Nat × Blk)} {nx : Nat} {K : AS→Prop} {ty : TypeId} {pos : String} {af : Array Edge} {t : Tmp} {g : Option (Nat × Bool)}
theorem qp2 {op : Op} (v : V) (a : Ql ops ⟨sl,hp,nx⟩ ⟨some t,op,ty,pos,af,g⟩ = some true) (b : opFn T ⟨sl,hp,nx⟩ op = some (v,⟨sl,hp,nx⟩)) (h : OpsK P T base ops dr l ⟨(t,v)::sl,hp,nx⟩ K) (c : okO dr l.length ⟨sl,hp,nx⟩ (op) ⟨sl,hp,nx⟩ = true:=by rfl) : OpsK P T base ops dr (⟨some t,op,ty,pos,af,g⟩::l) ⟨sl,hp,nx⟩ K:=
  Y4 a b h c
theorem qow {op : Op} (v : V) (b : Blk) (a : Ql ops ⟨sl,hp,nx⟩ ⟨some t,op,ty,pos,af,g⟩ = some true) (c : opFn T ⟨sl,hp,nx⟩ op = some (v,⟨sl,(nx,b)::hp,nx + 1⟩)) (h : OpsK P T base ops dr l ⟨(t,v)::sl,(nx,b)::hp,nx + 1⟩ K) (d : okO dr l.length ⟨sl,hp,nx⟩ (op) ⟨sl,(nx,b)::hp,nx + 1⟩ = true:=by rfl) : OpsK P T base ops dr (⟨some t,op,ty,pos,af,g⟩::l) ⟨sl,hp,nx⟩ K:=
  Y4 a c h d
theorem qhq {op : Op} {es len : Nat} (xs : List (List DV)) (a : Ql ops ⟨sl,hp,nx⟩ ⟨some t,op,ty,pos,af,g⟩ = some true) (c : opFn T ⟨sl,hp,nx⟩ op = some (.hs nx es 0 len,⟨sl,(nx,.dat es xs)::hp,nx + 1⟩)) (b : len = xs.length) (f : touch op = 2) (k : find hp nx = none) (h : OpsK P T base ops dr l ⟨(t,.d (.sl es xs))::sl,hp,nx + 1⟩ K) (j : okF dr l.length (fp ⟨sl,hp,nx⟩ op) = true:=by rfl) : OpsK P T base ops dr (⟨some t,op,ty,pos,af,g⟩::l) ⟨sl,hp,nx⟩ K:=by
  subst b;exact qox (n:=nx) (hp2:=hp) (st1:=⟨sl,(nx,.dat es xs)::hp,nx + 1⟩) a c f ⟨rfl,rfl⟩ rfl k h j
theorem qp1 {op : Op} (n : Nat) (b : Blk) (a : Ql ops ⟨sl,hp,nx⟩ ⟨none,op,ty,pos,af,g⟩ = some true) (c : opFn T ⟨sl,hp,nx⟩ op = some (.dead,⟨sl,repl hp n b,nx⟩)) (h : OpsK P T base ops dr l ⟨sl,repl hp n b,nx⟩ K) (d : okO dr l.length ⟨sl,hp,nx⟩ (op) ⟨sl,repl hp n b,nx⟩ = true:=by rfl) : OpsK P T base ops dr (⟨none,op,ty,pos,af,g⟩::l) ⟨sl,hp,nx⟩ K:=
  Y4 a c h d
theorem Qj {α : Type} {x : Operand} {b : Bool} {X Y : Option α} {m : α} (a : Ql ops ⟨sl,hp,nx⟩ ⟨some t,.move x,ty,pos,af,g⟩ = some true) (c : AS.ev ⟨sl,hp,nx⟩ x = some (.d (.bool b))) (h : cond b X Y = some m)
    (f : X = some m→OpsK P T base ops dr l ⟨(t,.d (.bool true))::sl,hp,nx⟩ K) (j : Y = some m→OpsK P T base ops dr l ⟨(t,.d (.bool false))::sl,hp,nx⟩ K) : OpsK P T base ops dr (⟨some t,.move x,ty,pos,af,g⟩::l) ⟨sl,hp,nx⟩ K:=by
  cases b with
  | true=>exact qcx a c (f h)
  | false=>exact qcx a c (j h)
theorem Uk {dr : Dr} (hd : dr = none) {n m : List Oper} {st st1 st2 : AS} : Kg P T base ops dr n st st1→Kg P T base ops dr m st1 st2→Kg P T base ops dr (n ++ m) st st2
  | .nil,h2=>h2
  | .skip a b,h2=>.skip a (Uk hd b h2)
  | .op a b _ c,h2=>.op a b (by subst hd;rfl) (Uk hd c h2)
  | .opF a b c d e f _ g,h2=>.opF a b c d e f (by subst hd;rfl) (Uk hd g h2)
  | .callP a b c d e f g h _ i,h2=>.callP a b c d e f g h (by subst hd;rfl) (Uk hd i h2)
  | .callS a b c d e,h2=>.callS a b c d (Uk hd e h2)
  | .callF a b c d e f g h i,h2=>.callF a b c d e f g h (Uk hd i h2)
  | .callY a b c d e f g h i j k l,h2=>.callY a b c d e f g h i j k (Uk hd l h2)
  | .wk a b,h2=>.wk a (Uk hd b h2)
  | .piv _ _ _,_=>by cases hd
theorem qbw {F : List Fp} {m k : Nat} : fpAt (F.drop m) k = fpAt F (k + m):=by
  unfold fpAt;grind
theorem qoj {F : List Fp} {l a : List Oper} {dr : Dr} (hd : dr = some (F.drop a.length)) {st st1 : AS} {op : Op} (h : okO dr l.length st op st1 = true) : okO (some F) (l ++ a).length st op st1 = true:=by
  subst hd;simp only [okO,qbw] at h;simpa only [okO,List.length_append] using h
theorem qhm {F : List Fp} {l a : List Oper} {dr : Dr} (hd : dr = some (F.drop a.length)) {x : Fp} (h : okF dr l.length x = true) : okF (some F) (l ++ a).length x = true:=by
  subst hd;simp only [okF,qbw] at h;simpa only [okF,List.length_append] using h
theorem qms {F : List Fp} {m : List Oper} {dr : Dr} {k : Dr} (r : k = some F) (hd : dr = some (F.drop m.length)) {n : List Oper} {st st1 st2 : AS} (p : Kg P T base ops dr n st st1) (q : Kg P T base ops k m st1 st2) : Kg P T base ops k (n ++ m) st st2:=by
  subst r
  induction n generalizing st with
  | nil=>cases p with
    | nil=>exact q
    | wk _ _=>cases hd
  | cons o l ih=>
    cases p with
    | skip a b=>exact .skip a (ih b)
    | op a b c d=>exact .op a b (qoj hd c) (ih d)
    | opF a b c d e f g h=>exact .opF a b c d e f (qhm hd g) (ih h)
    | callP a b c d e f g h i j=>exact .callP a b c d e f g h (qhm hd i) (ih j)
    | callS _ _ _ _ _=>cases hd
    | callF _ _ _ _ _ _ _ _ _=>cases hd
    | callY _ _ _ _ _ _ _ _ _ _ _ _=>cases hd
    | wk _ _=>cases hd
    | piv a b c=>
      cases hd;rw [qbw] at a;exact .piv (by show U3 (fpAt F (l ++ m).length) = true;rw [List.length_append];exact a) b (ih c)
def qfh (dr : Dr) (k : Nat) : Dr:=match dr with
  | none=>none
  | some F=>some (F.drop k)
theorem qmr {dr : Dr} {b a : List Oper} {st st1 st2 : AS} (c : Kg P T base ops (qfh dr a.length) b st st1) (d : Kg P T base ops dr a st1 st2) : Kg P T base ops dr (b ++ a) st st2:=by
  cases dr with
  | none=>exact Uk rfl c d
  | some F=>exact qms rfl rfl c d
theorem Qi (n : Nat) (Q : (List (Nat × V)→AS)→AS→Prop) (b : OpsK P T base ops (qfh dr (l.drop n).length) (l.take n) ⟨sl,hp,nx⟩ (Q fun p=>⟨p ++ sl,hp,nx⟩)) (d : ∀ st',Q (fun p=>⟨p ++ sl,hp,nx⟩) st'→OpsK P T base ops dr (l.drop n) st' K) : OpsK P T base ops dr l ⟨sl,hp,nx⟩ K:=by
  obtain ⟨st1,a,f⟩:=b;obtain ⟨st2,g,c⟩:=d st1 f;refine ⟨st2,?_,c⟩;have:=qmr a g;simp_all
theorem qor {α : Type} {x y : Operand} {a : TypeId} {i : TI} {k : IntKind} {n : Int} {es : Nat} {xs : List α} {enc : α→List DV} {v : α} (r : idx xs n = some v) (b : Ql ops ⟨sl,hp,nx⟩ ⟨some t,.indexAddr a x y,ty,pos,af,g⟩ = some true) (q : T a = some i)
    (o : AS.ev ⟨sl,hp,nx⟩ x = some (.d (.sl es (xs.map enc)))) (f : AS.ev ⟨sl,hp,nx⟩ y = some (.d (.int k n))) (j : i.kind = .slice) (m : es = i.esize)
    (h : OpsK P T base ops dr l ⟨(t,.dref (enc v) 0)::sl,hp,nx⟩ K) : OpsK P T base ops dr (⟨some t,.indexAddr a x y,ty,pos,af,g⟩::l) ⟨sl,hp,nx⟩ K:=by
  obtain ⟨p,c,_⟩:=q9s r;exact Y4 b (v:=.dref (enc v) 0) (st1:=⟨sl,hp,nx⟩) (by simp [opFn,o,f,q,q2r,j,m,p,c]) h (J8 rfl)
theorem qoq {α : Type} {x y : Operand} {a : TypeId} {i : TI} {k : IntKind} {n : Int} {m es len : Nat} {xs : List α} {v : α} (s : idx xs n = some v) (b : len = xs.length) (c : Ql ops ⟨sl,hp,nx⟩ ⟨some t,.indexAddr a x y,ty,pos,af,g⟩ = some true) (r : T a = some i)
    (p : AS.ev ⟨sl,hp,nx⟩ x = some (.hs m es 0 len)) (f : AS.ev ⟨sl,hp,nx⟩ y = some (.d (.int k n))) (j : i.kind = .slice) (o : es = i.esize)
    (h : OpsK P T base ops dr l ⟨(t,.ref m es n.toNat 0)::sl,hp,nx⟩ K) : OpsK P T base ops dr (⟨some t,.indexAddr a x y,ty,pos,af,g⟩::l) ⟨sl,hp,nx⟩ K:=by
  subst b;obtain ⟨q,_,u⟩:=q9s s;exact Y4 c (v:=.ref m es n.toNat 0) (st1:=⟨sl,hp,nx⟩) (by simp [opFn,p,f,r,q2r,j,o,q];omega) h (J8 rfl)
theorem qou {α : Type} {p : Operand} {a : TypeId} {i : TI} {m es j : Nat} {n : Int} {xs : List α} {enc : α→List DV} {r : List DV} {v : α} (w : V) (q : idx xs n = some v) (b : Ql ops ⟨sl,hp,nx⟩ ⟨some t,.load a p,ty,pos,af,g⟩ = some true) (o : T a = some i)
    (k : AS.ev ⟨sl,hp,nx⟩ p = some (.ref m es n.toNat j)) (hb : find hp m = some (.dat es (xs.map enc))) (hs : sub (enc v) j i.size = some r) (f : (Uz i.agg r).map .d = some w)
    (h : OpsK P T base ops dr l ⟨(t,w)::sl,hp,nx⟩ K) (c : okF dr l.length (fp ⟨sl,hp,nx⟩ (.load a p)) = true:=by rfl) : OpsK P T base ops dr (⟨some t,.load a p,ty,pos,af,g⟩::l) ⟨sl,hp,nx⟩ K:=
  qhr b o k hb (by rw [List.getElem?_map,(q9s q).2.1];rfl) hs f h c
theorem Qt {α : Type} {p x : Operand} {f : TypeId} {i : TI} {m es j : Nat} {n : Int} {xs : List α} {enc : α→List DV} {v : α} (k : α) {u : V} {ds : List DV} (hv : idx xs n = some v) (q : Ql ops ⟨sl,hp,nx⟩ ⟨none,.store f p x,ty,pos,af,g⟩ = some true) (z : T f = some i)
    (hp' : AS.ev ⟨sl,hp,nx⟩ p = some (.ref m es n.toNat j)) (y : AS.ev ⟨sl,hp,nx⟩ x = some u) (hb : find hp m = some (.dat es (xs.map enc))) (o : cellsOf u = ds.map .d) (r : ds.length = i.size) (t : ds.all Y6 = true) (w : j + i.size≤(enc v).length) (hs : splice (enc v) j ds = enc k)
    (h : OpsK P T base ops dr l ⟨sl,repl hp m (.dat es ((xs.set n.toNat k).map enc)),nx⟩ K) (s : okO dr l.length ⟨sl,hp,nx⟩ (.store f p x) ⟨sl,repl hp m (.dat es ((xs.set n.toNat k).map enc)),nx⟩ = true:=by rfl) : OpsK P T base ops dr (⟨none,.store f p x,ty,pos,af,g⟩::l) ⟨sl,hp,nx⟩ K:=by
  refine Y4 q (v:=.dead) (st1:=⟨sl,repl hp m (.dat es ((xs.set n.toNat k).map enc)),nx⟩) ?_ h s;have c : (cellsOf u).all Kf = true:=by rw [o,List.all_map];exact t
  have a : (cellsOf u).length = i.size:=by rw [o];simpa using r
  have b : (xs.map enc)[n.toNat]? = some (enc v):=by rw [List.getElem?_map,(q9s hv).2.1];rfl
  simp only [opFn,z,hp',y,Zv,AS.blk,hb,Nat.beq_refl,b];rw [qs (by simp [c,a]),qp w,o,qb1];simp only [hs,List.map_set,AS.setBlk];rfl
theorem qht {α : Type} {x : Operand} {a : TypeId} {i : TI} {es : Nat} {xs : List α} {enc : α→List DV} (b : Ql ops ⟨sl,hp,nx⟩ ⟨some t,.call {callee:=.builtin .len,args:=#[x],argTypes:=#[a]},ty,pos,af,g⟩ = some true) (j : T a = some i) (f : i.kind = .slice) (c : AS.ev ⟨sl,hp,nx⟩ x = some (.d (.sl es (xs.map enc))))
    (h : OpsK P T base ops dr l ⟨(t,.d (.int .i64 (xs.length : Int)))::sl,hp,nx⟩ K) : OpsK P T base ops dr (⟨some t,.call {callee:=.builtin .len,args:=#[x],argTypes:=#[a]},ty,pos,af,g⟩::l) ⟨sl,hp,nx⟩ K:=
  qot b j f c qb h
theorem Y3 {α : Type} {x y : Operand} {a c : TypeId} {i j : TI} {n es len : Nat} {xs ys zs : List α} {enc : α→List DV} (k : V) (d : app i.ebytes xs ys = some zs) (b : len = xs.length) (o : Ql ops ⟨sl,hp,nx⟩ ⟨some t,.call {callee:=.builtin .append,args:=#[x,y],argTypes:=#[a,c]},ty,pos,af,g⟩ = some true)
    (hT : T a = some i) (m : T c = some j) (v : AS.ev ⟨sl,hp,nx⟩ x = some (.hs n es 0 len)) (p : AS.ev ⟨sl,hp,nx⟩ y = some k) (hb : find hp n = some (.dat es (xs.map enc))) (z : Yf ⟨sl,hp,nx⟩ k = some (ys.map enc))
    (r : i.kind = .slice) (f : j.kind = .slice) (s : es = i.esize) (w : Ze i.esize k = true)
    (h : OpsK P T base ops dr l ⟨(t,.hs nx es 0 zs.length)::sl,(nx,.dat es (zs.map enc))::repl hp n .dead,nx + 1⟩ K) (q : okF dr l.length (fp ⟨sl,hp,nx⟩ (.call {callee:=.builtin .append,args:=#[x,y],argTypes:=#[a,c]})) = true:=by rfl) : OpsK P T base ops dr (⟨some t,.call {callee:=.builtin .append,args:=#[x,y],argTypes:=#[a,c]},ty,pos,af,g⟩::l) ⟨sl,hp,nx⟩ K:=by
  subst b;unfold app at d;split at d
  · rename_i u;cases d;refine qol o hT m v p hb qb z r f s w (by simpa [Nat.mul_assoc] using u) ?_ q;grind
  · cases d
theorem Kx {α : Type} {n es len : Nat} {ys : List α} {enc : α→List DV} (a : len = ys.length) (hb : find hp n = some (.dat es (ys.map enc))) : Yf ⟨sl,hp,nx⟩ (.hs n es 0 len) = some (ys.map enc):=by
  subst a;simp only [Yf,AS.blk,hb];grind
theorem q6g {o : Operand} {k : IntKind} {a : Int} {d : Nat} {st : AS} (h : st.ev o = some (.d (.int k a))) (b : 0≤a) : bound st d (some o) = some a.toNat:=by
  simp [bound,h,b]
theorem q71 {x : Operand} {f : TypeId} {lo hi : Option Operand} {i : TI} {n es len : Nat} {a b : Int} {w : Nat × Nat} (c : sub2 len a b = some w) (k : Ql ops ⟨sl,hp,nx⟩ ⟨some t,.slice f x lo hi none,ty,pos,af,g⟩ = some true) (q : T f = some i) (m : i.kind = .slice) (r : es = i.esize)
    (p : AS.ev ⟨sl,hp,nx⟩ x = some (.hs n es 0 len)) (d : 0≤a→bound ⟨sl,hp,nx⟩ 0 lo = some a.toNat) (j : 0≤b→bound ⟨sl,hp,nx⟩ len hi = some b.toNat)
    (h : OpsK P T base ops dr l ⟨(t,.hs n es w.1 w.2)::sl,hp,nx⟩ K) : OpsK P T base ops dr (⟨some t,.slice f x lo hi none,ty,pos,af,g⟩::l) ⟨sl,hp,nx⟩ K:=by
  unfold sub2 at c;split at c
  · rename_i o;cases c;refine Y4 k (v:=.hs n es a.toNat (b.toNat - a.toNat)) (st1:=⟨sl,hp,nx⟩) ?_ h (J8 rfl);simp only [opFn,q,p,m,lenV,d o.1,j q6,qae];grind
  · cases c
theorem q8x {n : Nat} {a b : Int} {w : Nat × Nat} (h : sub2 n a b = some w) : w.1 + w.2≤n:=by
  unfold sub2 at h;grind
theorem qwr {α β : Type} (f : α→β) (xs ys : List α) (j : Nat) : splice (xs.map f) j (ys.map f) = (splice xs j ys).map f:=by
  simp [splice,List.map_take,List.map_drop]
theorem qoo {α : Type} {x y : Operand} {a b : TypeId} {i j : TI} {n es : Nat} {w : Nat × Nat} {xs ys : List α} {enc : α→List DV} (f : V) (q : w.1 + w.2≤xs.length) (m : Ql ops ⟨sl,hp,nx⟩ ⟨some t,.call {callee:=.builtin .copy,args:=#[x,y],argTypes:=#[a,b]},ty,pos,af,g⟩ = some true)
    (hT : T a = some i) (k : T b = some j) (u : AS.ev ⟨sl,hp,nx⟩ x = some (.hs n es w.1 w.2)) (o : AS.ev ⟨sl,hp,nx⟩ y = some f) (hb : find hp n = some (.dat es (xs.map enc))) (hc : Yf ⟨sl,hp,nx⟩ f = some (ys.map enc))
    (r : i.kind = .slice) (c : j.kind = .slice) (s : es = i.esize) (z : Ze i.esize f = true)
    (h : OpsK P T base ops dr l ⟨(t,.d (.int .i64 (min ys.length w.2 : Nat)))::sl,repl hp n (.dat es ((cpyw xs w ys).map enc)),nx⟩ K) (p : okO dr l.length ⟨sl,hp,nx⟩ (.call {callee:=.builtin .copy,args:=#[x,y],argTypes:=#[a,b]}) ⟨sl,repl hp n (.dat es ((cpyw xs w ys).map enc)),nx⟩ = true:=by rfl) : OpsK P T base ops dr (⟨some t,.call {callee:=.builtin .copy,args:=#[x,y],argTypes:=#[a,b]},ty,pos,af,g⟩::l) ⟨sl,hp,nx⟩ K:=by
  refine Y4 m (v:=.d (.int .i64 (min ys.length w.2 : Nat))) (st1:=⟨sl,repl hp n (.dat es ((cpyw xs w ys).map enc)),nx⟩) ?_ h p;simp only [opFn,evL,u,o,Ks];simp only [List.getElem?_toArray,List.getElem?_cons_zero,List.getElem?_cons_succ,hT,k];rw [qp ⟨r,c,by simp [Ze,s],z⟩];simp only [copyV,AS.blk,hb,hc];rw [qp ⟨by simpa using q,trivial⟩];simp only [List.length_map,cpyw,← List.map_take,qwr,AS.setBlk]
theorem qm6 {α : Type} {n es : Nat} {w : Nat × Nat} {ys : List α} {enc : α→List DV} (a : w.1 + w.2≤ys.length) (hb : find hp n = some (.dat es (ys.map enc))) : Yf ⟨sl,hp,nx⟩ (.hs n es w.1 w.2) = some (((ys.drop w.1).take w.2).map enc):=by
  simp only [Yf,AS.blk,hb];simp_all
theorem q2u {k k' : IntKind} {a b : Int} {r : List V} : minI false (.d (.int k a)) (.d (.int k' b)::r) = minI false (.d (.int k (min a b))) r:=by
  simp only [minI];grind
theorem q2t {k k' : IntKind} {a b : Int} {r : List V} : minI true (.d (.int k a)) (.d (.int k' b)::r) = minI true (.d (.int k (max a b))) r:=by
  simp only [minI];grind
theorem q2w {xs : Array Operand} {ats : Array TypeId} {b : List V} {k : IntKind} {a : Int} {r : Int} (c : Ql ops ⟨sl,hp,nx⟩ ⟨some t,.call {callee:=.builtin .min,args:=xs,argTypes:=ats},ty,pos,af,g⟩ = some true) (j : evL (AS.ev ⟨sl,hp,nx⟩) xs.toList = some (.d (.int k a)::b)) (f : minI false (.d (.int k a)) b = some (.d (.int k r)))
    (h : OpsK P T base ops dr l ⟨(t,.d (.int k r))::sl,hp,nx⟩ K) : OpsK P T base ops dr (⟨some t,.call {callee:=.builtin .min,args:=xs,argTypes:=ats},ty,pos,af,g⟩::l) ⟨sl,hp,nx⟩ K:=
  Y4 c (v:=.d (.int k r)) (st1:=⟨sl,hp,nx⟩) (by simp [opFn,j,Ks,f]) h (J8 rfl)
theorem q2v {xs : Array Operand} {ats : Array TypeId} {b : List V} {k : IntKind} {a : Int} {r : Int} (c : Ql ops ⟨sl,hp,nx⟩ ⟨some t,.call {callee:=.builtin .max,args:=xs,argTypes:=ats},ty,pos,af,g⟩ = some true) (j : evL (AS.ev ⟨sl,hp,nx⟩) xs.toList = some (.d (.int k a)::b)) (f : minI true (.d (.int k a)) b = some (.d (.int k r)))
    (h : OpsK P T base ops dr l ⟨(t,.d (.int k r))::sl,hp,nx⟩ K) : OpsK P T base ops dr (⟨some t,.call {callee:=.builtin .max,args:=xs,argTypes:=ats},ty,pos,af,g⟩::l) ⟨sl,hp,nx⟩ K:=
  Y4 c (v:=.d (.int k r)) (st1:=⟨sl,hp,nx⟩) (by simp [opFn,j,Ks,f]) h (J8 rfl)
theorem qcy {c : Call} {f : FuncId} {ds : List DV} {r : DV} (a : List V) (b : Pure P T f ds r) (j : Ql ops ⟨sl,hp,nx⟩ ⟨some t,.call c,ty,pos,af,g⟩ = some true) (m : callee ⟨sl,hp,nx⟩ c = some (f,a)) (hd : Kh hp a = some ds)
    (hs : (a.all V.isD = true∨r.scalar = true)) (h : OpsK P T base ops dr l ⟨(t,.d r)::sl,hp,nx⟩ K) (k : okF dr l.length (fpC a) = true:=by rfl) : OpsK P T base ops dr (⟨some t,.call c,ty,pos,af,g⟩::l) ⟨sl,hp,nx⟩ K:=
  qho j rfl m hd hs b h k
theorem q2h {hp : List (Nat × Blk)} {v : V} {d : DV} {a : List V} {ds : List DV} (h : toD hp 8 v = some d) (b : Kh hp a = some ds) : Kh hp (v::a) = some (d::ds):=by
  simp [Kh,h,b]
theorem Jc {α : Type} {k n es len : Nat} {ys : List α} {enc : α→List DV} (a : len = ys.length) (hb : find hp n = some (.dat es (ys.map enc))) : toD hp (k + 1) (.hs n es 0 len) = some (.sl es (ys.map enc)):=by
  subst a;simp only [toD,hb];grind
theorem q8z {k : Nat} {a : List V} {ds : List DV} (h : Z8 (toD hp k) a = some ds) : toD hp (k + 1) (.tup a) = some (.tup ds):=by simp [toD,h]
theorem U5 {k : Nat} {v : V} {d : DV} {a : List V} {ds : List DV} (h : toD hp k v = some d) (b : Z8 (toD hp k) a = some ds) : Z8 (toD hp k) (v::a) = some (d::ds):=by simp [Z8,h,b]
inductive DLeL : List DV→List DV→Prop
  | nil : DLeL [] []
  | cons {x y : DV} {xs ys : List DV} : DLe x y→DLeL xs ys→DLeL (x::xs) (y::ys)
theorem DLeL.len {xs ys : List DV} (h : DLeL xs ys) : xs.length = ys.length:=by
  induction h with
  | nil=>rfl
  | cons _ _ ih=>simp [ih]
theorem DLeL.get {xs ys : List DV} (h : DLeL xs ys) : ∀ (i : Nat) (x y : DV),xs[i]? = some x→ys[i]? = some y→DLe x y:=by
  induction h with
  | nil=>intro i x y h;simp at h
  | cons h1 _ ih=>grind
theorem Jf {xs ys : List DV} (h : DLeL xs ys) : DLe (.tup xs) (.tup ys):=.tup h.len h.get
theorem finD {ex : Ex} {st : AS} {b : List ResultVar} {v : V} {r a : DV} (d : ex = .nor∨ex = .ret) (g : resV T st b = some v) (c : toD st.hp 8 v = some a) (f : DLe a r) : (ex = .nor∨ex = .ret)∧∃ v a,resV T st b = some v∧toD st.hp 8 v = some a∧DLe a r:=
  ⟨d,v,a,g,c,f⟩
end
theorem qk9 {α : Type} {st : AS} {ρ : Nat→Nat} {fz ph : List Nat} {nx n es len : Nat} {ys : List α} {enc : α→List DV} (a : len = ys.length) (hb : st.blk n = some (.dat es (ys.map enc))) (b : n∈fz) : Wv st ρ fz ph nx (.hs n es 0 len) (.d (.sl es (ys.map enc))):=by
  subst a;exact .frz hb b qb (by rw [List.drop_zero,List.take_of_length_le qb]) rfl
theorem Qx {st : AS} {ρ : Nat→Nat} {fz ph : List Nat} {nx n m es o l l' : Nat} (a : l = l') (b : ρ m = n) (c : m ∉ ph) (d : m < nx) : Wv st ρ fz ph nx (.hs n es o l) (.hs m es o l'):=a ▸ .hs b c d
inductive WvC (st : AS) (ρ : Nat→Nat) (fz ph : List Nat) (nx : Nat) : List V→List V→Prop
  | nil : WvC st ρ fz ph nx [] []
  | cons {c d : V} {cs ds : List V} : Wv st ρ fz ph nx c d→Kf d = true→WvC st ρ fz ph nx cs ds→WvC st ρ fz ph nx (c::cs) (d::ds)
theorem WvC.len {st : AS} {ρ : Nat→Nat} {fz ph : List Nat} {nx : Nat} {cs ds : List V} (h : WvC st ρ fz ph nx cs ds) : cs.length = ds.length:=by
  induction h with
  | nil=>rfl
  | cons _ _ _ ih=>simp [ih]
theorem WvC.get {st : AS} {ρ : Nat→Nat} {fz ph : List Nat} {nx : Nat} {cs ds : List V} (h : WvC st ρ fz ph nx cs ds) : ∀ (j : Nat) (c d : V),cs[j]? = some c→ds[j]? = some d→Wv st ρ fz ph nx c d∧Kf d = true:=by
  induction h with
  | nil=>intro i x y h;simp at h
  | cons h1 h2 _ ih=>grind
theorem Ud {st : AS} {ρ : Nat→Nat} {fz ph : List Nat} {nx es : Nat} {cs ds : List V} (h : WvC st ρ fz ph nx cs ds) : Wb st ρ fz ph nx (.cel es [cs]) (.cel es [ds]):=by
  refine .cel rfl fun i x y a b=>?_
  cases i with
  | zero=>simp at a b;subst a b;exact ⟨h.len,h.get⟩
  | succ i=>simp at a
theorem qdw {st : AS} {ρ : Nat→Nat} {fz ph : List Nat} {nx es : Nat} {cs : List DV} {ds : List V} (h : WvC st ρ fz ph nx (cs.map .d) ds) : Wb st ρ fz ph nx (.dat es [cs]) (.cel es [ds]):=by
  refine .datcel rfl fun i x y a b=>?_
  cases i with
  | zero=>
    simp at a b;subst a b;exact ⟨by simpa using h.len,fun j c d f hd=>h.get j (.d c) d (by simp [f]) hd⟩
  | succ i=>simp at a
inductive WvL (st : AS) (ρ : Nat→Nat) (fz ph : List Nat) (nx : Nat) : List V→List V→Prop
  | nil : WvL st ρ fz ph nx [] []
  | cons {c d : V} {cs ds : List V} : Wv st ρ fz ph nx c d→WvL st ρ fz ph nx cs ds→WvL st ρ fz ph nx (c::cs) (d::ds)
theorem WvL.len {st : AS} {ρ : Nat→Nat} {fz ph : List Nat} {nx : Nat} {cs ds : List V} (h : WvL st ρ fz ph nx cs ds) : cs.length = ds.length:=by
  induction h with
  | nil=>rfl
  | cons _ _ ih=>simp [ih]
theorem WvL.get {st : AS} {ρ : Nat→Nat} {fz ph : List Nat} {nx : Nat} {cs ds : List V} (h : WvL st ρ fz ph nx cs ds) : ∀ (j : Nat) (c d : V),cs[j]? = some c→ds[j]? = some d→Wv st ρ fz ph nx c d:=by
  induction h with
  | nil=>intro i x y h;simp at h
  | cons h1 _ ih=>grind
theorem q41 {st : AS} {ρ : Nat→Nat} {fz ph : List Nat} {nx : Nat} {f : FuncId} {cs ds : List V} (h : WvL st ρ fz ph nx cs ds) : Wv st ρ fz ph nx (.fn f cs) (.fn f ds):=.fn h.len h.get
theorem qdz {st : AS} {ρ : Nat→Nat} {fz ph : List Nat} {nx : Nat} {cs ds : List V} (h : WvL st ρ fz ph nx cs ds) : Wv st ρ fz ph nx (.tup cs) (.tup ds):=.tup h.len h.get
theorem qxl {st : AS} {ρ : Nat→Nat} {fz ph : List Nat} {nx : Nat} {cs : List DV} {ds : List V} (h : WvL st ρ fz ph nx (cs.map .d) ds) : Wv st ρ fz ph nx (.d (.tup cs)) (.tup ds):=
  .dtup (by have:=h.len;simpa using this) fun i c d a hd=>h.get i _ d (by simp [a]) hd
theorem qxk {st : AS} {ρ : Nat→Nat} {fz ph : List Nat} {nx : Nat} {cs : List DV} {ds : List V} (h : WvL st ρ fz ph nx (cs.map .d) ds) : Wv st ρ fz ph nx (.d (.agg cs)) (.agg ds):=
  .dagg (by have:=h.len;simpa using this) fun i c d a hd=>h.get i _ d (by simp [a]) hd
theorem qas {st : AS} {ρ : Nat→Nat} {fz ph : List Nat} {nx : Nat} {cs ds : List V} (h : WvL st ρ fz ph nx cs ds) : Wv st ρ fz ph nx (.agg cs) (.agg ds):=.agg h.len h.get
theorem qfx {P : Program} {T : Tab} {f : FuncId} {ds a : List DV} (j : DLeL a ds) {l : List V} {hp hp' : List (Nat × Blk)} {nx nx' : Nat} {v : V} : K4 P T f l hp nx v hp' nx'→l = ds.map .d→hp = []→nx = 0→K4 P T f (a.map .d) [] 0 v hp' nx'
  | .wk e w,g,hh,hn=>by
    have h:=qfx j e g hh hn
    subst hh hn
    exact .wk h w
  | .mk h1 h2 h3 h4 h5 h6 h7 h8,g,hh,hn=>by
    subst g hh hn
    refine .mk h1 h2 h3 h4 (by simpa [j.len] using h5) (.wk (ρ:=fun n=>n) (fz:=[]) (ph:=[]) ⟨?_,?_,?_,?_,?_,?_,?_,?_⟩ h6) h7 h8
    · intro t p g
      simp only [AS.get,q9c] at g ⊢
      simp only [Nat.zero_le,if_true,Nat.sub_zero,List.getElem?_map,Kt] at g ⊢
      obtain ⟨y,k,rfl⟩:=g
      obtain ⟨x,o⟩:=Z5 (xs:=a) (i:=t) (by rw [j.len];exact K9 k)
      exact ⟨_,⟨x,o,rfl⟩,.d (j.get t x y o k)⟩
    · intro n b h;simp [AS.blk,find] at h
    · intro n m b c h;simp [AS.blk,find] at h
    · intro n b h;simp [AS.blk,find] at h
    · intro n h;rfl
    · exact Nat.le_refl _
    · intro n h;cases h
    · intro n h;cases h
theorem q74 {P : Program} {T : Tab} {f : FuncId} {ds a : List DV} {r : DV} (c : DLeL a ds) (h : Pure P T f ds r) : Pure P T f a r:=by
  obtain ⟨v,hp,nx,d,e,g,b⟩:=h;exact ⟨v,hp,nx,d,qfx c e rfl rfl rfl,g,b⟩
end Go.Am
namespace Go.Sh
open Go Go.Am
theorem Qp {α : Type} {xs : List α} {k : Nat} (h : k < xs.length) : idx xs (k : Int) = some xs[k]:=by simp [idx,h]
theorem Ux {α : Type} {xs : List α} {i : Int} {k : Nat} (hi : i = k) (h : k < xs.length) : idx xs i = some xs[k]:=by subst hi;exact Qp h
theorem Ku {α : Type} {c : Nat} {xs ys : List α} (h : (xs.length + ys.length) * (c * 4)≤4294967296) : app c xs ys = some (xs ++ ys):=by simp [app,h]
theorem qm1 {α : Type} {c : Bool} {a b : α} : (cond c (some a) (some b)) = some (cond c a b):=by cases c <;> rfl
theorem Yv {α β σ : Type} {f : α→Option (α ⊕ β)} (mk : Nat→σ→α) (n : Nat) (I : Nat→σ→Prop) (Q : β→Prop)
    (step : ∀ k c,k < n→I k c→(∃ g,f (mk k c) = some (.inl (mk (k + 1) g))∧I (k + 1) g)∨∃ b,f (mk k c) = some (.inr b)∧Q b)
    (done : ∀ c,I n c→∃ b,f (mk n c) = some (.inr b)∧Q b) {k0 : Nat} {c0 : σ} (h : k0≤n) (l : I k0 c0) : ∃ b,loop f (mk k0 c0) = some b∧Q b:=by
  have key : ∀ m k c,n - k = m→k≤n→I k c→∃ b,loop f (mk k c) = some b∧Q b:=by
    intro m
    induction m with
    | zero=>
      intro k c j h hi;obtain rfl : k = n:=by omega
      obtain ⟨b,a,d⟩:=done c hi;exact ⟨b,Kb a,d⟩
    | succ m ih=>
      intro k c j h hi;rcases step k c q6 hi with ⟨g,a,d⟩ | ⟨b,a,d⟩
      · rw [Km a];exact ih (k + 1) g q6 q6 d
      · exact ⟨b,Kb a,d⟩
  exact key _ k0 c0 rfl h l
def I64 (x : Int) : Prop:=-9223372036854775808≤x∧x≤9223372036854775807
end Go.Sh
namespace Go.Am
open Go
theorem qy1 {k : IntKind} {d : DV} (h : Ty (.int k) d) : ∃ n : Int,d = .int k n∧(Lit.int k n).wf = true:=by
  cases h with | int hw=>exact ⟨_,rfl,hw⟩
def q6d (l : List CT) (x : List DV) : Prop:=x.length = l.length∧∀ (j : Nat) (c : CT) (d : DV),l[j]? = some c→x[j]? = some d→Ty c d
theorem qxw {x : List DV} (h : q6d [] x) : x = []:=List.length_eq_zero_iff.1 h.1
theorem qxv {c : CT} {l : List CT} {x : List DV} (h : q6d (c::l) x) : ∃ d r,x = d::r∧Ty c d∧q6d l r:=by
  obtain ⟨a,b⟩:=h
  cases x with
  | nil=>simp at a
  | cons d r=>exact ⟨d,r,rfl,b 0 c d rfl rfl,by simpa using a,fun j g f k hd=>b (j + 1) g f (by simpa using k) (by simpa using hd)⟩
theorem qy2 {α : Type} {l : List CT} {enc : α→List DV} {wf : α→Prop} (row : ∀ x,q6d l x→∃ a,x = enc a∧wf a) {d : DV} (h : Ty (.sl l) d) : ∃ xs : List α,DLe d (.sl l.length (xs.map enc))∧(∀ x∈xs,wf x)∧xs.length≤maxLen:=by
  cases h with
  | nil=>exact ⟨[],.nil _,qb,qb⟩
  | @sl _ xs hl h1 h2=>
    have key : ∀ ys : List (List DV),(∀ y∈ys,q6d l y)→∃ zs : List α,ys = zs.map enc∧∀ z∈zs,wf z:=by
      intro ys
      induction ys with
      | nil=>intro _;exact ⟨[],rfl,qb⟩
      | cons y ys ih=>
        intro f;obtain ⟨a,rfl,g⟩:=row y (f y qb);obtain ⟨zs,rfl,b⟩:=ih fun z b=>f z (by simp [b]);exact ⟨a::zs,rfl,by simpa using ⟨g,b⟩⟩
    obtain ⟨zs,rfl,b⟩:=key xs fun y f=>by
      obtain ⟨i,hi⟩:=List.getElem?_of_mem f;exact ⟨h1 i y hi,fun j c d k hd=>h2 i y j c d hi k hd⟩
    exact ⟨zs,.refl _,b,by simpa using hl⟩
theorem qy3 {n : Int} (h : (Lit.int .i64 n).wf = true) : -9223372036854775808≤n∧n≤9223372036854775807:=by
  simp [Lit.wf,IntKind.min,IntKind.max,IntKind.signed,IntKind.bits] at h;omega
theorem qxq {xs : List DV} (h : Jp [] xs) : xs = []:=by cases h;rfl
theorem qxr {c : CT} {a : List (Bool × List CT)} {xs : List DV} (h : Jp ((false,[c])::a) xs) : ∃ d r,xs = d::r∧Ty c d∧Jp a r:=by
  cases h with | one h1 h2=>exact ⟨_,_,rfl,h1,h2⟩
end Go.Am
