/- Am26 Am27 Am28 Am29 Am30 Am31 Lf1 Pl0 Lf2 -/
import Derived.Test.YtiejlbckgihckaaGreatK5
import Derived.ProofKit
import Derived.OpenShut
import Derived.Deep.Slices
namespace Go.Am
open Go
variable {P : Program} {T : Tab}
def wpL (F : Fence) (P : Program) (c : Code) (Q : Exit→Act→World→Prop) (a : Act) (w : World) : Prop:=
  ∀ (b : Frame) (k : List Item) (cs : List Frame),b.roundOf = F.round→F.fn b.fn→F.room (cs.length + 1 + 0)→
    ∃ e a' w',Q e a' w'∧ArrivesIn (Machine.fenced P F) P (lone (b.atR a (.code c::.inLoop c::k)) cs w) b k cs e a' w'
theorem qpl {F : Fence} {c : Code} {Q : Exit→Act→World→Prop} {a : Act} {w : World} (h : c.wpIn F 0 P (Exit.then (wpL F P c Q) Q) a w) : wpL F P c Q a w:=by
  intro b k cs j hb o;obtain ⟨e,n,m,g,d⟩:=h b (.inLoop c::k) cs j hb o
  cases e with
  | normal=>
    obtain ⟨r,q,s,p,f⟩:=g b k cs j hb o;exact ⟨r,q,s,p,.of_steps (StepsIn.trans d (.one (fenced_calm hb o rfl) stepR_inLoop)) f⟩
  | exit id=>exact ⟨_,n,m,g,.pass (x:=.inLoop c) rfl (fun _ _=>.inl qd) d⟩
  | goto l=>exact ⟨_,n,m,g,.pass (x:=.inLoop c) rfl (fun _ _=>.inl qd) d⟩
  | ret=>exact ⟨_,n,m,g,.pass (x:=.inLoop c) rfl (fun _ _=>.inl qd) d⟩
  | panic ch=>exact ⟨_,n,m,g,.pass (x:=.inLoop c) rfl (fun _ _=>.inl qd) d⟩
  | outgrown=>exact ⟨_,n,m,g,.pass (x:=.inLoop c) rfl (fun _ _=>.inl qd) d⟩
theorem q143 {F : Fence} {c : Code} {Q : Exit→Act→World→Prop} {a : Act} {w : World} (h : wpL F P c Q a w) : (Code.loop c).wpIn F 0 P Q a w:=by
  intro b k cs f hb g;obtain ⟨e,a',w',j,d⟩:=h b k cs f hb g;exact ⟨e,a',w',j,.of_steps (.one (fenced_calm hb g rfl) stepR_loop) d⟩
theorem qpk {F : Fence} {c : Code} {Q Q' : Exit→Act→World→Prop} {a : Act} {w : World} (h : wpL F P c Q a w) (d : ∀ e a w,Q e a w→Q' e a w) : wpL F P c Q' a w:=
  fun b k cs j g f=>let ⟨e,a',w',q,r⟩:=h b k cs j g f;⟨e,a',w',d _ _ _ q,r⟩
def CP (base : Nat) (w : World) (Z : Nat→Prop) (inj : Inj) (st : AS) (a : Act) (Ds : List Nat) (ex : Ex) (st' : AS) (e : Exit) (a' : Act) (w' : World) : Prop:=e = toE ex∧Kv base w Z inj st a Ds st' a' w'
def Kx (P : Program) (base : Nat) (c : Code) (st : AS) (ex : Ex) (st' : AS) : Prop:=
  ∀ (ro : Option Nat) (w : World) (Z : Nat→Prop) (inj : Inj) (a : Act) (Ds : List Nat),RelS w Z inj st a Ds→codeOk a.tmps.size c = true→base≤st.nx→Yh ro w→
    c.wpIn (Fw ro) 0 P (CP base w Z inj st a Ds ex st') a w∧∀ d,c = .loop d→wpL (Fw ro) P d (CP base w Z inj st a Ds ex st') a w
section
variable {base : Nat} {st st1 st2 : AS} {ex : Ex}
theorem Uj {c : Code} (k : ∀ d,c≠.loop d) (h : ∀ (ro : Option Nat) (w : World) (Z : Nat→Prop) (inj : Inj) (a : Act) (Ds : List Nat),RelS w Z inj st a Ds→codeOk a.tmps.size c = true→base≤st.nx→Yh ro w→
    c.wpIn (Fw ro) 0 P (CP base w Z inj st a Ds ex st1) a w) : Kx P base c st ex st1:=
  fun ro w Z inj a Ds g f b j=>⟨h ro w Z inj a Ds g f b j,fun d hd=>absurd hd (k d)⟩
theorem Kv.round {w : World} {Z : Nat→Prop} {inj : Inj} {a : Act} {Ds : List Nat} {a' : Act} {w' : World} {ro : Option Nat} (h : Kv base w Z inj st a Ds st1 a' w') (b : Yh ro w) : Yh ro w':=by
  obtain ⟨_,_,_,_,e,_⟩:=h;exact b.ext e
theorem qr4 : Kx P base .skip st .nor st:=
  Uj qd fun ro w Z inj a Ds h _ hb _=>wpIn_skip ⟨rfl,Kv.refl h hb⟩
theorem qqv {id : Nat} : Kx P base (.exit id) st (.exit id) st:=
  Uj qd fun ro w Z inj a Ds h _ hb _=>wpIn_exit ⟨rfl,Kv.refl h hb⟩
theorem qr1 : Kx P base .ret st .ret st:=
  Uj qd fun ro w Z inj a Ds h _ hb _=>wpIn_ret ⟨rfl,Kv.refl h hb⟩
theorem qr2 {a b : Code} (n : Kx P base a st .nor st1) (m : Kx P base b st1 ex st2) : Kx P base (.seq a b) st ex st2:=by
  refine Uj qd fun ro w Z inj act Ds h c hb j=>wpIn_seq (wpIn_mono (n ro w Z inj act Ds h ?_ hb j).1 ?_)
  · simp only [codeOk,Bool.and_eq_true] at c;exact c.1
  · rintro e a' w' ⟨rfl,hp⟩;refine hp.bind fun Z' inj' l k f d _ g=>?_;refine wpIn_mono (m ro w' Z' inj' a' l k ?_ d (hp.round j)).1 ?_
    · simp only [codeOk,Bool.and_eq_true] at c;rw [f];exact c.2
    · rintro e p o ⟨rfl,hp2⟩;exact ⟨rfl,g _ _ _ hp2⟩
theorem qr3 {a b : Code} (f : Kx P base a st ex st1) (g : ex≠.nor) : Kx P base (.seq a b) st ex st1:=by
  refine Uj qd fun ro w Z inj act Ds h c hb d=>wpIn_seq (wpIn_mono (f ro w Z inj act Ds h ?_ hb d).1 ?_)
  · simp only [codeOk,Bool.and_eq_true] at c;exact c.1
  · rintro e a' w' ⟨rfl,hp⟩
    cases ex with
    | nor=>exact absurd rfl g
    | exit id=>exact ⟨rfl,hp⟩
    | ret=>exact ⟨rfl,hp⟩
theorem qqu {c : Operand} {a b : Code} (k : st.ev c = some (.d (.bool true))) (j : Kx P base a st ex st1) : Kx P base (.cond c a b) st ex st1:=by
  refine Uj qd fun ro w Z inj act Ds h f hb g=>wpIn_cond_true ?_ (j ro w Z inj act Ds h ?_ hb g).1
  · have:=Ka h k;generalize act.eval c = x at this
    cases this with | d this=>cases this;rfl
  · simp only [codeOk,Bool.and_eq_true] at f;exact f.1
theorem qqt {c : Operand} {a b : Code} (k : st.ev c = some (.d (.bool false))) (j : Kx P base b st ex st1) : Kx P base (.cond c a b) st ex st1:=by
  refine Uj qd fun ro w Z inj act Ds h f hb g=>wpIn_cond_false ?_ (j ro w Z inj act Ds h ?_ hb g).1
  · have:=Ka h k;generalize act.eval c = x at this
    cases this with | d this=>cases this;rfl
  · simp only [codeOk,Bool.and_eq_true] at f;exact f.2
theorem qqs {id : Nat} {a : Code} (d : Kx P base a st ex st1) : Kx P base (.block id a) st (ex.block id) st1:=by
  refine Uj qd fun ro w Z inj act Ds h c hb b=>wpIn_block (wpIn_mono (d ro w Z inj act Ds h c hb b).1 ?_);rintro e a' w' ⟨rfl,hp⟩
  cases ex with
  | nor=>exact ⟨rfl,hp⟩
  | ret=>exact ⟨rfl,hp⟩
  | exit i=>
    by_cases hi : i = id
    · simp only [toE,Exit.inBlock,hi,if_true,Ex.block];exact ⟨rfl,hp⟩
    · simp only [toE,Exit.inBlock,hi,if_false,Ex.block];exact ⟨rfl,hp⟩
theorem qiq {a : Code} (h : ∀ (ro : Option Nat) (w : World) (Z : Nat→Prop) (inj : Inj) (act : Act) (Ds : List Nat),RelS w Z inj st act Ds→codeOk act.tmps.size (.loop a) = true→base≤st.nx→Yh ro w→
    wpL (Fw ro) P a (CP base w Z inj st act Ds ex st1) act w) : Kx P base (.loop a) st ex st1:=
  fun ro w Z inj act Ds f c b g=>⟨q143 (h ro w Z inj act Ds f c b g),fun d hd=>by cases hd;exact h ro w Z inj act Ds f c b g⟩
theorem qqw {a : Code} (m : Kx P base a st .nor st1) (l : Kx P base (.loop a) st1 ex st2) : Kx P base (.loop a) st ex st2:=by
  refine qiq fun ro w Z inj act Ds h g hb f=>qpl (wpIn_mono (m ro w Z inj act Ds h g hb f).1 ?_);rintro e a' w' ⟨rfl,hp⟩;refine hp.bind fun Z' inj' k j c b _ d=>?_;refine qpk ((l ro w' Z' inj' a' k j (by rw [c];exact g) b (hp.round f)).2 a rfl) ?_;rintro e o n ⟨rfl,hp2⟩;exact ⟨rfl,d _ _ _ hp2⟩
theorem qqx {a : Code} (d : Kx P base a st ex st1) (f : ex≠.nor) : Kx P base (.loop a) st ex st1:=by
  refine qiq fun ro w Z inj act Ds h c hb b=>qpl (wpIn_mono (d ro w Z inj act Ds h c hb b).1 ?_);rintro e a' w' ⟨rfl,hp⟩
  cases ex with
  | nor=>exact absurd rfl f
  | exit id=>exact ⟨rfl,hp⟩
  | ret=>exact ⟨rfl,hp⟩
theorem qr5 {ρ : Nat→Nat} {fz ph : List Nat} {c : Code} (k : Wk base ρ fz ph st st1) (l : Kx P base c st1 ex st2) : Kx P base c st ex st2:=by
  intro ro w Z inj a Ds h j hb g;obtain ⟨f,p⟩:=q2n h k
  have b : ∀ e a' w',CP base w (wkZ Z inj st fz) (wkI inj ρ ph) st1 a Ds ex st2 e a' w'→CP base w Z inj st a Ds ex st2 e a' w':=by
    rintro e a' w' ⟨rfl,m,s,t,u,n,x,o,v⟩;exact ⟨rfl,m,s,t,u,p.trans n (Nat.le_refl _),x,o,v⟩
  obtain ⟨q,r⟩:=l ro w _ _ a Ds f j k.bs g;exact ⟨wpIn_mono q b,fun d hd=>qpk (r d hd) b⟩
theorem qr8 {ops : Array Oper} {ro : Option Nat} {w0 : World} {Z0 : Nat→Prop} {inj0 : Inj} {c : AS} {n : Act} {Ds0 : List Nat} {Q : Exit→Act→World→Prop} {l : List Oper} {st st' : AS} (x : Zo P base ops l st st')
    (hd : ∀ o∈ops,Jd n.tmps.size o.dst = true) (q : ∀ a' w',Kv base w0 Z0 inj0 c n Ds0 st' a' w'→Q .normal a' w') : ∀ (pre : List Oper) (a : Act) (w : World),ops.toList = pre ++ l→Kv base w0 Z0 inj0 c n Ds0 st a w→Yh ro w→
    wpOpsIn (Fw ro) 0 P ops Q (List.range' pre.length l.length) a w:=by
  have one : ∀ {o : Oper} {l : List Oper} {st st1 st2 : AS},Jy P base ops o st st1→(∀ (pre : List Oper) (a : Act) (w : World),ops.toList = pre ++ l→Kv base w0 Z0 inj0 c n Ds0 st1 a w→Yh ro w→wpOpsIn (Fw ro) 0 P ops Q (List.range' pre.length l.length) a w)→
      ∀ (pre : List Oper) (a : Act) (w : World),ops.toList = pre ++ o::l→Kv base w0 Z0 inj0 c n Ds0 st a w→Yh ro w→wpOpsIn (Fw ro) 0 P ops Q (List.range' pre.length (o::l).length) a w:=by
    intro o l st st1 st2 hs k pre a w p hp d
    have r : ops[pre.length]? = some o:=by rw [← Array.getElem?_toList,p];simp
    rw [List.length_cons,List.range'_succ,wpOpsIn_cons]
    refine qhg r ?_
    refine hp.bind fun Z' inj' j b h f _ g=>?_
    refine hs ro Q w Z' inj' a j _ b (by rw [h];exact hd o (Array.mem_of_getElem? r)) f d fun a' w' hp'=>?_
    have:=k (pre ++ [o]) a' w' (by rw [p];simp) (g _ _ _ hp') (hp'.round d)
    simpa using this
  induction x with
  | nil=>intro pre a w _ hp _;simpa [wpOpsIn] using q _ _ hp
  | cons hs _ k=>exact one (st2:=st) hs (k q)
  | wk hw _ k=>
    intro pre a w p hp d;refine k q pre a w p ?_ d;obtain ⟨Z',inj',j,u,t,s,y,v⟩:=hp;obtain ⟨b,m⟩:=q2n u hw;exact ⟨_,_,j,b,t.trans m (Nat.le_refl _),s,hw.bs,v⟩
theorem qqz {id : Nat} {ops : Array Oper} (f : Zo P base ops ops.toList st st1) : Kx P base (.region id ops false) st .nor st1:=by
  refine Uj qd fun ro w Z inj a Ds h b hb c=>wpIn_region ?_
  have hd : ∀ o∈ops,Jd a.tmps.size o.dst = true:=by
    intro o d;simp only [codeOk,List.all_eq_true] at b;exact b o (by simpa using d)
  have:=qr8 (Q:=CP base w Z inj st a Ds .nor st1) f hd (fun a' w' hp=>⟨rfl,hp⟩) [] a w rfl (Kv.refl h hb) c;rw [List.range_eq_range'];simpa using this
theorem qr0 {id : Nat} {ops : Array Oper} {F : List Fp} (d : P.follows .mixedOrders = true) (f : Jx P base ops F ops.toList st st1) (hd : q8z F ops = true) : Kx P base (.region id ops true) st .nor st1:=
  Uj qd fun ro w Z inj a Ds h c hb b=>qxg d (qs1 hd) f h c hb b fun a' w' hp=>⟨rfl,hp⟩
theorem qt5 {ops : Array Oper} {o : Oper} {c : Call} {g : Operand} {n : Nat} {vs : List V} {s s1 s2 : List (Nat × V)} {j : List Tmp} {assign body : Code}
    (hg : Qt ops st o = some true) (ho : o.op = .call c) (z : c.callee = .value g) (ax : st.ev g = some (.yld n)) (az : evL st.ev c.args.toList = some vs)
    (y : st.blk n = some (.loop s j assign body .ready none)) (aq : j.length = vs.length)
    (h1 : Kx P st.nx assign {sl:=q2a s j vs,hp:=st.hp,nx:=st.nx} .nor st1) (be : st1.blk n = some (.loop s1 j assign body .ready none))
    (h2 : Kx P st.nx body (st1.setBlk n (.loop s1 j assign body .busy none)) ex st2) (bi : st2.blk n = some (.loop s2 j assign body .busy none)) :
    Jy P base ops o st ({sl:=st.sl,hp:=repl st2.hp n (.loop s2 j assign body (if ex = .nor then .ready else .done) ex.code),nx:=st2.nx : AS}.putD o.dst (.d (.bool (decide (ex = .nor))))):=by
  intro ro Q w Z inj a Ds K h hd hb co hK;unfold Uy;rw [q41 h hg];simp only [if_true];refine ⟨fun _ _=>trivial,?_⟩;have hr:=Ka h ax;obtain ⟨b,r,hi,hw,es,ep,an,bh,bg,aa,bc,_⟩:=qgw (ls':=.ready) (pe':=none) (pin:=0) h.heap y;generalize bl : a.eval g = gv at hr
  cases hr with | @yld _ b' o' hlt hi'=>
  rw [hi] at hi';cases hi';have hl:=q95 h az;have e2 : (c.args.toList.map a.eval).toArray = c.args.map a.eval:=by apply Array.ext';simp
  rw [e2] at hl;have ay : (c.args.map a.eval).size = r.params.size:=by rw [← hl.1,an];simp [aq]
  have al : (execOp a.eval o).run P w = .ok (.round b r.fn ((r.params.zip (c.args.map a.eval)).foldl (fun tmps (t,a)=>tmps.setIfInBounds t a) r.tmps) r.assign r.body) w:=by
    have:=run_yield (P:=P) hw ay;obtain ⟨dst,op,type,pos,after,guard⟩:=o;simp only at ho;subst ho;obtain ⟨cm,args,argTypes⟩:=c;simp only at z;subst z;simp only [execOp,resolve,Sem.run_bind,bl,Deferred.ofValue,Sem.run_pure,Result.andThen_ok,invoke];simpa using this
  rw [show (Fw ro).round = ro from rfl,Oper.semAt_eq ro _ o (by rintro c' h';rw [ho] at h';cases h'),al,Oper.uponIn_round];refine ⟨fun h=>by simp [Fw] at h,?_⟩;refine roundIn_of_wpIn trivial ?_
  have ad : (r.params.zip (c.args.map a.eval)).foldl (fun tmps (t,a)=>tmps.setIfInBounds t a) r.tmps = (j.zip (c.args.map a.eval).toList).foldl (fun tmps (x : Tmp × Value)=>tmps.setIfInBounds x.1 x.2) r.tmps:=by
    rw [an,← Array.foldl_toList,Array.toList_zip]
  obtain ⟨v,f⟩:=qn6 j vs (c.args.map a.eval).toList s r.tmps (by rw [Array.length_toList];exact hl.1) (fun i d c h1 h2=>hl.2 i d c h1 (by rw [← Array.getElem?_toList];exact h2)) aa.2.2 bc;rw [ad,bh,bg];generalize (j.zip (c.args.map a.eval).toList).foldl (fun tmps (x : Tmp × Value)=>tmps.setIfInBounds x.1 x.2) r.tmps = tm at v f;have ae : RelS w Z inj {sl:=q2a s j vs,hp:=st.hp,nx:=st.nx} {tmps:=tm,defers:=[]} []:=⟨v,h.heap,rfl,qd,qd⟩
  have u : Yh (some b) w:=fun l hl=>by cases hl;exact ⟨r,hw⟩
  refine wpIn_mono (h1 (some b) w Z inj _ [] ae (by show codeOk tm.size assign = true;rw [f];exact aa.1) (Nat.le_refl _) u).1 ?_;rintro e a1 w1 ⟨rfl,Z1,p,ah,g1,g2,g3,g4,g5⟩;have ab : n < st.nx:=(h.heap.blk n _ y).1;obtain ⟨b1,r1,i1,bb,ba,ak,cf,cb,ci,ca,bw,au,k⟩:=qgw (ls':=.busy) (pe':=none) (pin:=st.nx) g1.heap be;rw [g2.pinj n ab,hi] at i1;cases i1;refine ⟨_,run_beginRound bb ba,?_⟩;have e5 : ({r1 with state:=.busy} : Loop) = {r1 with state:=.busy,pending:=none}:=by cases r1;simp only at ak;subst ak;rfl
  rw [e5]
  have ac : RelS (w1.putObj b (.loop {r1 with state:=.busy,pending:=none})) Z1 p (st1.setBlk n (.loop s1 j assign body .busy none)) a1 ah:=
    ⟨g1.slots.mono (k.zkeep g1.heap) k.zin k.big (fun _ _=>rfl) (Nat.le_refl _),au,g1.defs,g1.nodup,fun D hD=>k.marks g1.heap (g1.marks D hD)⟩
  have am : Yh (some b) (w1.putObj b (.loop {r1 with state:=.busy,pending:=none})):=(u.ext g2).ext k;refine wpIn_mono (h2 (some b) _ Z1 p a1 ah ac (by rw [g3];show codeOk tm.size body = true;rw [f];exact aa.2.1) g4 am).1 ?_;rintro e a3 w3 ⟨rfl,Z3,aj,cx,k1,k2,k3,k4,k5⟩;obtain ⟨b3,r3,i3,bm,cq,cr,ch,bs,cc,ce,bt,bn,aw⟩:=qgw (ls':=if ex = .nor then .ready else .done) (pe':=ex.code) (pin:=st.nx) k1.heap bi;have bo : p n = some (b,0):=(g2.pinj n ab).trans hi;rw [k2.pinj n ab,bo] at i3;cases i3
  have m : K (a.put o.dst (.bool (decide (ex = .nor)))) (w3.putObj b (.loop {r3 with state:=if ex = .nor then .ready else .done,pending:=ex.code})):=by
    have ao : Ext w Z inj st.hp (w3.putObj b (.loop {r3 with state:=if ex = .nor then .ready else .done,pending:=ex.code})) Z3 aj (repl st2.hp n (.loop s2 j assign body (if ex = .nor then .ready else .done) ex.code)) st.nx:=
      ((g2.trans k (Nat.le_refl _)).trans k2 (Nat.le_refl _)).trans aw (Nat.le_refl _)
    exact hK _ _ (q45 h hb ao bn k4 (.d (.bool _)) hd)
  have q:=run_endRound (P:=P) ex.code bm
  cases ex with
  | nor=>exact ⟨_,_,q,m⟩
  | ret=>exact ⟨_,_,q,m⟩
  | exit id=>exact ⟨_,_,q,m⟩
end
end Go.Am
namespace Go.Am
open Go
variable {P : Program} {T : Tab}
section
variable {base : Nat} {st st1 st2 : AS} {ex : Ex}
theorem qqb {ro : Option Nat} {f : FuncId} {xs : Array Value} {w : World} {R : Ending→World→Prop} (h : CallsIn (Fw none) 0 P f xs w R) : CallsIn (Fw ro) 0 P f xs w R:=by
  cases ro <;> exact h
theorem quk {w : World} {Ds : List Nat} (h : Ds.Nodup) (b : ∀ D∈Ds,w.heap[D]? = some (.deferred (some []))) : (w.heap.size::Ds).Nodup:=
  List.nodup_cons.2 ⟨fun a=>by have:=Jb (b _ a);omega,h⟩
theorem qqy {g : Operand} {k : Array Tmp} {assign body : Code} {f : FuncId} {t : List V} {v : V} {hp : List (Nat × Blk)} {nx : Nat} {pe : Option Code} {s : List (Nat × V)} {ls : LoopState}
    (hg : st.ev g = some (.fn f t)∨∃ ds,st.ev g = some (.d (.fn f ds))∧t = ds.map .d)
    (y : Jw P f (.yld st.nx::t) ((st.nx,.loop st.sl k.toList assign body .ready none)::st.hp) (st.nx + 1) v hp nx)
    (ak : find hp st.nx = some (.loop s k.toList assign body ls pe)) (bh : ls≠.busy) (az : pe = ex.code) : Kx P base (.rangeFunc g k assign body) st ex {sl:=st.sl,hp:=repl hp st.nx .dead,nx:=nx}:=by
  refine Uj qd fun ro w Z inj a Ds h z hb bj=>wpIn_rangeFunc fun fn _=>?_;simp only [codeOk,Bool.and_eq_true,List.all_eq_true,Nat.blt_eq] at z
  have aq : ∃ cs : Array Value,a.eval g = .func (.func f) #[] cs∧LRel w Z inj st.nx t cs:=by
    rcases hg with hg | ⟨ds,hg,rfl⟩
    · have hr:=Ka h hg;generalize a.eval g = gv at hr ⊢
      cases hr with | @fn _ _ cs h1 h2=>
      exact ⟨cs,rfl,h1,h2⟩
    · have hr:=Ka h hg;generalize a.eval g = gv at hr ⊢
      cases hr with | d hr=>
      cases hr with | @fn _ _ cs h1 h2=>
      refine ⟨cs,rfl,by simpa using h1,fun i d c hd hc=>?_⟩;simp only [List.getElem?_map,Y6] at hd;obtain ⟨d',hd,rfl⟩:=hd;exact .d (h2 i d' c hd hc)
  obtain ⟨cs,bo,ba⟩:=aq
  have rest : ∀ (n : World) (l : Nat) (mark : List Deferred) (r : Loop) (Dn : List Nat),(Instr.enterLoop fn a.tmps k assign body (Fw ro).round).run P w = .ok (l,mark) n→
      n.heap[l]? = some (.loop r)→r.state = .ready→r.pending = none→
      RelH n Z (upd inj st.nx (some (l,0))) ((st.nx,.loop st.sl k.toList assign body .ready none)::st.hp) (st.nx + 1)→
      Ext w Z inj st.hp n Z (upd inj st.nx (some (l,0))) ((st.nx,.loop st.sl k.toList assign body .ready none)::st.hp) st.nx→
      mark = Dn.map (fun D=>{target:=.collected D,args:=#[]})→(Dn ++ Ds).Nodup→(∀ D∈Dn,n.heap[D]? = some (.deferred (some []))∧w.heap.size≤D)→
      ∃ (l : Nat) (mark : List Deferred) (w₁ : World) (d : Deferred) (ag : World) (f : FuncId) (args : Array Value) (w₂ : World),
      (Instr.enterLoop fn a.tmps k assign body (Fw ro).round).run P w = .ok (l,mark) w₁∧
      (resolve a.eval (rangeCall g l) 0).run P w₁ = .ok d ag∧
      (∀ f',Target.leads P ag d.target d.args = some f'→(Fw ro).fn f')∧
      (invoke d.target d.args).run P ag = .ok (.enter f args) w₂∧
      ((Fw ro).depth.isSome = true→1≤0)∧
      CallsIn (Fw ro) (0 - 1) P f args w₂ (rangePost (Fw ro) 0 P l (CP base w Z inj st a Ds ex {sl:=st.sl,hp:=repl hp st.nx .dead,nx:=nx}) {a with defers:=mark ++ a.defers}):=by
    intro n l mark r Dn aa ci co bs ar ab ae bp av
    refine ⟨l,mark,n,{target:=.fn (.func f) cs,args:=#[.func (.yield l) #[] #[]]},n,f,#[.func (.yield l) #[] #[]] ++ cs,n,aa,?_,fun _ _=>trivial,?_,fun h=>by simp [Fw] at h,?_⟩
    · simp only [resolve,bo];simp [Deferred.ofValue,Act.eval]
    · simp [invoke,y.1]
    · refine qqb (CallsIn.mono (y.2 n Z _ _ ar ?_) ?_)
      · refine ⟨by simp [ba.1];omega,fun i d c hd hc=>?_⟩
        cases i with
        | zero=>
          rw [Array.getElem?_append_left qd] at hc;simp at hd hc;subst hd hc;exact .yld q0 (Kz _ _ _)
        | succ i=>
          rw [Array.getElem?_append_right qd] at hc;simp at hd hc;exact (ba.2 i d c hd hc).mono (fun b hz=>ab.keep b (h.heap.zs b hz) (h.heap.z_im hz)) (fun _ h=>h) ab.big (fun m hm=>ab.pinj m hm) q0
      · rintro e w3 ⟨x,Z',inj',rfl,bq,af,cq,ck⟩
        obtain ⟨b3,r3,i3,ax,bl,bb,ah⟩:=qxk (pin:=st.nx) bq ak
        obtain ⟨bi,bm⟩:=ah {r3 with state:=.exhausted} rfl
        have bk : b3 = l:=by
          have:=af.pinj st.nx q0;rw [Kz,i3] at this;cases this;rfl
        subst bk
        refine ⟨r3.pending,_,run_endLoop ax (by rw [bl];exact bh),?_⟩
        have hE : Ext w Z inj st.hp (w3.putObj b3 (.loop {r3 with state:=.exhausted})) Z' inj' (repl hp st.nx .dead) st.nx:=(ab.trans af q0).trans bm (Nat.le_refl _)
        have q : Kv base w Z inj st a Ds {sl:=st.sl,hp:=repl hp st.nx .dead,nx:=nx} {a with defers:=mark ++ a.defers} (w3.putObj b3 (.loop {r3 with state:=.exhausted})):=by
          refine ⟨Z',inj',Dn ++ Ds,⟨?_,bi,?_,bp,?_⟩,hE.pin_le hb,rfl,by show base≤nx;omega,?_⟩
          · exact h.slots.mono (hE.zkeep h.heap) hE.zin hE.big hE.pinj (by show st.nx≤nx;omega)
          · simp [ae,h.defs]
          · intro D u;rcases List.mem_append.1 u with u | u
            · obtain ⟨h5,h6⟩:=av D u;have h7:=af.marks ar h5;rw [World.putObj_heap_other (fun e=>by rw [e] at h7;rw [ax] at h7;cases h7)];exact h7
            · exact hE.marks h.heap (h.marks D u)
          · intro D u;rcases List.mem_append.1 u with u | u
            · exact .inr (av D u).2
            · exact .inl u
        rw [bb,az] at q
        rw [bb,az]
        cases ex with
        | nor=>exact ⟨rfl,q⟩
        | exit id=>exact wpIn_exit ⟨rfl,q⟩
        | ret=>exact wpIn_ret ⟨rfl,q⟩
  have ac : ∀ (n : World) (l : Nat) (r : Loop),r.state = .ready→r.pending = none→r.tmps = a.tmps→r.params = k→r.assign = assign→r.body = body→Yu n Z (upd inj st.nx (some (l,0))) (st.nx + 1) st.sl a.tmps→
      n.heap[l]? = some (.loop r)→RelB n Z (upd inj st.nx (some (l,0))) (st.nx + 1) st.nx (.loop st.sl k.toList assign body .ready none):=by
    rintro n l r e1 e2 e3 e4 e5 e6 hs hl
    obtain ⟨f1,f2,f3,f4,f5,f6,f7,f8⟩:=r
    simp only at e1 e2 e3 e4 e5 e6
    subst e1 e2 e3 e4 e5 e6
    exact ⟨l,_,_,_,Kz _ _ _,hl,⟨z.1.2,z.2,fun p hp=>z.1.1 p hp⟩,hs⟩
  cases ro with
  | none=>
    have an : RelH (w.alloc (.deferred (some []))) Z inj st.hp st.nx:=h.heap.grow fun b hb=>J3 w _ hb
    have ai : ∀ o,Yu ((w.alloc (.deferred (some []))).alloc o) Z (upd inj st.nx (some (w.heap.size + 1,0))) (st.nx + 1) st.sl a.tmps:=fun o=>
      h.slots.mono (fun b hz=>by have:=h.heap.zs b hz;rw [J3 _ _ (by simp;omega),J3 _ _ this]) (fun _ h=>h)
        (fun b c e f hb=>by obtain ⟨c1,e1,f1,h1,s1⟩:=q35 w (.deferred (some [])) b c e f hb;obtain ⟨c2,e2,f2,h2,s2⟩:=q35 _ o b c1 e1 f1 h1;exact ⟨c2,e2,f2,h2,s2.trans s1⟩) (fun _ hm=>Yf _ _ hm) q0
    have j:=U3 (w.alloc (.deferred (some []))) (.loop {state:=.ready,pending:=none,fn,tmps:=a.tmps,params:=k,assign,body,defers:=w.heap.size});rw [World.size_alloc] at j;have hB:=ac _ (w.heap.size + 1) {state:=.ready,pending:=none,fn,tmps:=a.tmps,params:=k,assign,body,defers:=w.heap.size} rfl rfl rfl rfl rfl rfl (ai _) j;have hn:=an.new (.loop {state:=.ready,pending:=none,fn,tmps:=a.tmps,params:=k,assign,body,defers:=w.heap.size}) (.loop st.sl k.toList assign body .ready none) 0 (by rw [World.size_alloc];exact hB);have he:=Ext.new an (.loop {state:=.ready,pending:=none,fn,tmps:=a.tmps,params:=k,assign,body,defers:=w.heap.size}) (.loop st.sl k.toList assign body .ready none) 0;rw [World.size_alloc] at hn he;refine rest _ (w.heap.size + 1) _ _ [w.heap.size] (run_enterLoop_outer fn a.tmps k assign body) j rfl rfl hn ((Ext.alloc _).trans he (Nat.le_refl _)) rfl (quk h.nodup h.marks) ?_;intro D u;simp at u;subst u;exact ⟨by rw [J3 _ _ qd];exact U3 _ _,Nat.le_refl _⟩
  | some l0=>
    obtain ⟨r0,br⟩:=bj l0 rfl
    have ai : ∀ o,Yu (w.alloc o) Z (upd inj st.nx (some (w.heap.size,0))) (st.nx + 1) st.sl a.tmps:=fun o=>
      h.slots.mono (fun b hz=>J3 _ _ (h.heap.zs b hz)) (fun _ h=>h) (q35 w o) (fun _ hm=>Yf _ _ hm) q0
    have j:=U3 w (.loop {state:=.ready,pending:=none,fn,tmps:=a.tmps,params:=k,assign,body,defers:=r0.defers});have hB:=ac _ w.heap.size {state:=.ready,pending:=none,fn,tmps:=a.tmps,params:=k,assign,body,defers:=r0.defers} rfl rfl rfl rfl rfl rfl (ai _) j;exact rest _ w.heap.size _ _ [] (run_enterLoop_inner br fn a.tmps k assign body) j rfl rfl (h.heap.new _ _ 0 hB) (Ext.new h.heap _ _ 0) rfl (by simpa using h.nodup) qd
theorem qqd {f : FuncId} {fn : Func} {c : Code} {j : List V} {hp : List (Nat × Blk)} {nx : Nat} {v : V} (u : Z5 P T) (q : P.funcs[f]? = some fn) (hb : fn.body = some c) (a : (fn.name == "runtime.NumGoroutine") = false) (k : codeOk fn.ntmps c = true) (ab : j.length ≤ fn.ntmps)
    (hc : Kx P nx c {sl:=Y7 0 j,hp:=hp,nx:=nx} ex st) (hx : ex = .nor∨ex = .ret) (d : resV T st fn.results.toList = some v) : Jw P f j hp nx v st.hp st.nx:=by
  refine ⟨fun args w=>?_,fun w Z inj xs h g=>?_⟩
  · unfold callFunc
    have o : ¬ fn.name = "runtime.NumGoroutine" := by simpa using a
    simp [q,o,hb]
  · refine callsIn_of_wp_marks q hb trivial ?_
    have m : (xs ++ Array.replicate (fn.ntmps - xs.size) undef).size = fn.ntmps:=by
      have:=g.1;simp;omega
    have z : RelS w Z inj {sl:=Y7 0 j,hp:=hp,nx:=nx} {tmps:=xs ++ Array.replicate (fn.ntmps - xs.size) undef,defers:=[]} []:=⟨qxn _ g,h,rfl,qd,qd⟩
    refine wpIn_mono (hc none w Z inj _ [] z (by show codeOk (xs ++ Array.replicate (fn.ntmps - xs.size) undef).size c = true;rw [m];exact k) (Nat.le_refl _) (fun l g=>by cases g)).1 ?_;rintro e a' w' ⟨rfl,Z',inj',n,b,g2,g3,s,y⟩
    have r:=qla (P:=P) (fn:=fn) (pin:=nx) (w0:=w) (Z0:=Z) (inj0:=inj) (hp0:=hp) u d
      (R:=fun e w'=>∃ x Z' inj',e = .returned x∧RelH w' Z' inj' st.hp st.nx∧Ext w Z inj hp w' Z' inj' st.hp nx∧RelV w' Z' inj' st.nx v x∧nx≤st.nx)
      (fun x w' Z' inj' k1 t k3=>⟨x,Z',inj',rfl,k1,t,k3,s⟩) n w' Z' inj' a' b.slots b.heap g2 b.nodup (fun D p=>⟨b.marks D p,(y D p).resolve_left qd⟩)
    rcases hx with rfl | rfl
    · show LeavesInM (Fw none) 0 P fn a'.tmps _ a'.defers .returning w';rw [b.defs];exact r
    · show LeavesInM (Fw none) 0 P fn a'.tmps _ a'.defers .returning w';rw [b.defs];exact r
end
theorem qqc {f : FuncId} {l : List V} {hp hp' hp1 : List (Nat × Blk)} {nx nx' nx1 : Nat} {v j : V} {ρ : Nat→Nat} {fz ph : List Nat} (h : Jw P f l hp nx v hp' nx') (m : Wk nx ρ fz ph {sl:=[(0,v)],hp:=hp',nx:=nx'} {sl:=[(0,j)],hp:=hp1,nx:=nx1}) : Jw P f l hp nx j hp1 nx1:=by
  refine ⟨h.1,fun w Z inj xs q n=>(h.2 w Z inj xs q n).mono ?_⟩;rintro e w' ⟨x,Z',inj',rfl,g,o,r,s⟩
  have a : RelS w' Z' inj' {sl:=[(0,v)],hp:=hp',nx:=nx'} {tmps:=#[x],defers:=[]} []:=by
    refine ⟨fun t u c=>?_,g,rfl,List.nodup_nil,qd⟩;rw [Ku] at c;split at c
    · rename_i e;subst e;cases c;exact ⟨x,rfl,r⟩
    · simp [find] at c
  obtain ⟨b,d⟩:=q2n a m;obtain ⟨y,k,p⟩:=b.slots 0 j (by simp [find]);simp at k;subst k;exact ⟨x,_,_,rfl,b.heap,o.trans d (Nat.le_refl _),p,m.bs⟩
theorem qqe (y : Z5 P T) (hm : P.follows .mixedOrders = true) {f : FuncId} {u : List V} {hp : List (Nat × Blk)} {nx : Nat} {v : V} {hp' : List (Nat × Blk)} {nx' : Nat} (h : K8 P T f u hp nx v hp' nx') : Jw P f u hp nx v hp' nx':=by
  refine K8.rec (motive_1:=fun base c st ex st' _=>Kx P base c st ex st') (motive_2:=fun base ops dr l st st' _=>q1k P base ops dr l st st') (motive_3:=fun f u hp nx v hp' nx' _=>Jw P f u hp nx v hp' nx')
    ?_ ?_ ?_ ?_ ?_ ?_ ?_ ?_ ?_ ?_ ?_ ?_ ?_ ?_ ?_ ?_ ?_ ?_ ?_ ?_ ?_ ?_ ?_ ?_ ?_ ?_ h
  · exact qr4
  · exact fun _ _ a d=>qr2 a d
  · exact fun _ t a=>qr3 a t
  · exact fun k _ a=>qqu k a
  · exact fun k _ a=>qqt k a
  · exact fun _ a=>qqs a
  · exact qqv
  · exact qr1
  · exact fun _ _ a d=>qqw a d
  · exact fun _ t a=>qqx a t
  · exact fun _ a=>qqz a
  · exact fun _ hd a=>qr0 hm a hd
  · exact fun s _ a=>qr5 s a
  · exact fun b _ n ai af a=>qqy b a n ai af
  · exact fun {_ _ dr _}=>by cases dr <;> exact .nil
  · exact fun b _ a=>qqq b a
  · exact fun b j n _ a=>qqo y b j n a
  · exact fun b j _ hn hh n z _ a=>qqp y b j hn hh n z a
  · exact fun b j k x _ ac ag hs z _ a d=>qqn b j k x a ac ag hs z d
  · exact fun b j k _ _ a d=>Zo.cons (q131 b j k a) d
  · exact fun b j k g ab _ ae hb _ a d=>Zo.cons (qt2 b j k g ab a ae hb) d
  · exact fun b j q aa m p g _ ad _ ah _ a d h3=>Zo.cons (qt5 b j q aa m p g a ad d ah) h3
  · exact fun s _ a=>Zo.wk s a
  · exact fun hp _ _ a d=>Jx.piv hp a d
  · exact fun n hb o w m _ t r a=>qqd y n hb o w m a t r
  · exact fun _ s a=>qqc a s
end Go.Am
namespace Go.Am
open Go
open Go.ChangeShapes Go.WideShapes Go.ChangeAt Go.RowKit Go.Deep
inductive CT where
  | int (k : IntKind)
  | bool
  | str
  | sl (l : List CT)
def qbc (P : Program) (f : TypeId→Option (List CT)) : Nat→List Field→Option (List CT)
  | _,[]=>some []
  | o,x::r=>match f x.type with
    | some a=>if x.offset = o∧P.cellsOf x.type = a.length then
        match qbc P f (o + a.length) r with
        | some b=>some (a ++ b)
        | none=>none
      else none
    | none=>none
def tyL (P : Program) : Nat→TypeId→Option (List CT)
  | 0,_=>none
  | f + 1,t=>match P.underlying t with
    | some .bool=>some [.bool]
    | some (.int k)=>some [.int k]
    | some .string=>some [.str]
    | some (.slice e)=>match tyL P f e with
      | some l=>if l.length = P.cellsOf e∧l.length≠0 then some [.sl l] else none
      | none=>none
    | some (.struct fs)=>match qbc P (tyL P f) 0 fs.toList with
      | some l=>if l.length = P.cellsOf t then some l else none
      | none=>none
    | _=>none
inductive Ty : CT→DV→Prop
  | int {k : IntKind} {n : Int} : (Lit.int k n).wf = true→Ty (.int k) (.int k n)
  | bool (b : Bool) : Ty .bool (.bool b)
  | str {s : ByteArray} : s.size≤maxLen→Ty .str (.str s)
  | nil (l : List CT) : Ty (.sl l) .nilsl
  | sl {l : List CT} {xs : List (List DV)} : xs.length≤maxLen→(∀ (i : Nat) (x : List DV),xs[i]? = some x→x.length = l.length)→
      (∀ (i : Nat) (x : List DV) (j : Nat) (c : CT) (d : DV),xs[i]? = some x→l[j]? = some c→x[j]? = some d→Ty c d)→Ty (.sl l) (.sl l.length xs)
section
variable {H : Type} {enc : TypeId × Value→H} {P : Program} {w : World} {base : Nat} {held : Bool}
def ZC (w : World) (b : Nat) : Prop:=∃ c e f,w.heap[b]? = some (.cells c e f)
theorem Ty.cell {c : CT} {d : DV} (h : Ty c d) : Yg d = true:=by cases h <;> rfl
def Reads (w : World) (l : List CT) (cs : List Value) : Prop:=
  cs.length = l.length∧∃ ds : List DV,ds.length = l.length∧∀ (j : Nat) (c : CT) (v : Value),l[j]? = some c→cs[j]? = some v→∃ d,ds[j]? = some d∧Ty c d∧RelD w (ZC w) d v
theorem q6t {c : CT} {v : Value} {d : DV} (g : Ty c d) (f : RelD w (ZC w) d v) : Reads w [c] [v]:=by
  refine ⟨rfl,[d],rfl,fun j k h a b=>?_⟩
  cases j with
  | zero=>simp at a b;subst a b;exact ⟨d,rfl,g,f⟩
  | succ j=>simp at a
theorem qx4 {l l' : List CT} {cs a : List Value} (h : Reads w l cs) (q : Reads w l' a) : Reads w (l ++ l') (cs ++ a):=by
  obtain ⟨n,ds,o,t⟩:=h;obtain ⟨b1,g,s,p⟩:=q;refine ⟨by simp [n,b1],ds ++ g,by simp [o,s],fun j c v f b=>?_⟩;by_cases r : j < l.length
  · rw [List.getElem?_append_left r] at f;rw [List.getElem?_append_left q0] at b;obtain ⟨d,m,k⟩:=t j c v f b;exact ⟨d,by rw [List.getElem?_append_left q0];exact m,k⟩
  · rw [List.getElem?_append_right q0] at f;rw [List.getElem?_append_right q0,n] at b;obtain ⟨d,m,k⟩:=p _ c v f b;exact ⟨d,by rw [List.getElem?_append_right q0,o];exact m,k⟩
theorem qp8 {f : TypeId→Option (List CT)} {g : Field→List Value→Prop} (d : ∀ (x : Field) (l : List CT) (cs : List Value),f x.type = some l→g x cs→Reads w l cs) :
    ∀ (c : List Field) (o : Nat) (l : List CT) (cs : List Value),qbc P f o c = some l→o + l.length = cs.length→(∀ x∈c,g x ((cs.drop x.offset).take (P.cellsOf x.type)))→Reads w l (cs.drop o)
  | [],o,l,cs,h,hl,_=>by
    simp [qbc] at h;subst h
    simp at hl
    rw [hl]
    exact ⟨qd,[],rfl,qd⟩
  | x::r,o,l,cs,h,hl,hx=>by
    simp only [qbc] at h
    split at h <;> try simp at h
    rename_i a p
    obtain ⟨⟨m,k⟩,h⟩:=h
    split at h <;> simp at h
    rename_i b hb
    subst h
    have j:=d x a _ p (hx x qd)
    rw [m,k] at j
    have q:=qp8 d r (o + a.length) b cs hb (by simp at hl;omega) (fun y n=>hx y (by simp [n]))
    have:=qx4 j q
    rw [← List.drop_drop] at this
    rwa [List.take_append_drop] at this
theorem qdx : ∀ (f : Nat) (t : TypeId) (l : List CT) (fuel : Nat) (cs : List Value) (x : DataW H × List MemPlace),tyL P f t = some l→DataW.trod enc P w base (fun _=>true) held fuel t cs = some x→Reads w l cs
  | 0,t,l,fuel,cs,x,hl,h=>by simp [tyL] at hl
  | f + 1,t,l,fuel,cs,x,hl,h=>by
    simp only [tyL] at hl
    split at hl <;> try simp at hl
    · rename_i ht
      subst hl
      cases fuel with
      | zero=>simp [DataW.trod] at h
      | succ n=>
        unfold DataW.trod at h
        rw [ht] at h
        split at h <;> simp_all
        exact q6t (.bool _) (.bool _)
    · rename_i k ht
      subst hl
      obtain ⟨n,rfl,_,hw⟩:=DataW.trod_int ht h
      exact q6t (.int hw) (.int _ _)
    · rename_i ht
      subst hl
      cases fuel with
      | zero=>simp [DataW.trod] at h
      | succ n=>
        unfold DataW.trod at h
        rw [ht] at h
        split at h <;> simp_all
        exact q6t (.str q0) (.str _)
    · rename_i e ht
      split at hl <;> simp at hl
      rename_i le au
      obtain ⟨⟨u,ap⟩,rfl⟩:=hl
      rcases open_slice ht h with ⟨rfl,_⟩ | ⟨a,len,cap,m,n,D,Pl,rfl,_,av,bj,hm,_,an⟩
      · exact q6t (.nil _) .nilsl
      · obtain rfl : cap = m:=by simpa using hm.symm
        have elem : ∀ i,i < cap→∃ p,w.cells? base (a.add (i * P.cellsOf e)) (P.cellsOf e) = some p∧Reads w le p:=by
          intro i hi;obtain ⟨p,h1,h2⟩:=an i hi;exact ⟨p,h1,qdx f e le n p _ au h2⟩
        have ba : 0 < P.cellsOf e:=by rw [← u];exact List.length_pos_iff.2 ap
        by_cases aq : cap = 0
        · subst aq
          have : len = 0:=by omega
          subst this
          exact q6t (.sl (xs:=[]) qd qd qd) (.slemp _ _)
        · have af : a.spot = none∧ZC w a.block:=by
            obtain ⟨p,h1,_⟩:=elem 0 q0;obtain ⟨_,h2,h3⟩:=World.cells?_some h1;have:=h3 0 q0;obtain ⟨v,hv⟩:=Zr (xs:=p) (i:=0) q0;rw [hv] at this;simp [World.cell?,Addr.add] at this;split at this <;> try simp at this
            rename_i c e' f' hc;exact ⟨this.1,c,e',f',hc⟩
          obtain ⟨b,o,sp⟩:=a
          obtain ⟨ak,hz⟩:=af
          simp only at ak hz;subst ak
          have ag : ∀ i,i < len→∃ ds : List DV,ds.length = le.length∧∀ (j : Nat) (c : CT),le[j]? = some c→∃ d v,ds[j]? = some d∧Ty c d∧w.cell? ⟨b,o + (i * le.length + j),none⟩ = some v∧RelD w (ZC w) d v:=by
            intro i hi;obtain ⟨p,h1,h4,ds,h5,h6⟩:=elem i q0;obtain ⟨_,h2,h3⟩:=World.cells?_some h1;refine ⟨ds,h5,fun j c hj=>?_⟩;have bg:=Kc hj;obtain ⟨v,hv⟩:=Zr (xs:=p) (i:=j) q0;obtain ⟨d,z,g2,g3⟩:=h6 j c v hj hv;have:=h3 j q0;rw [hv,U2,U2,← u,Nat.add_assoc] at this;exact ⟨d,v,z,g2,this,g3⟩
          obtain ⟨F,hF⟩:=choose_lt ag
          have q : ∀ (i : Nat) (x : List DV),((List.range len).map F)[i]? = some x→i < len∧x = F i:=by
            intro i x s;simp only [List.getElem?_map,Y6] at s;obtain ⟨k,hk,rfl⟩:=s;have hi : i < len:=by simpa using Kc hk
            rw [List.getElem?_range hi] at hk;cases hk;exact ⟨hi,rfl⟩
          have r : ((List.range len).map F).length = len:=by simp
          have ab : RelD w (ZC w) (.sl le.length ((List.range len).map F)) (.slice (some ⟨b,o,none⟩) ((List.range len).map F).length cap):=by
            refine .sl (by rw [r];exact av) (fun _=>hz) ?_ ?_ ?_
            · intro i x s;obtain ⟨hi,rfl⟩:=q i x s;exact (hF i hi).1
            · intro i x j d s hd;obtain ⟨hi,rfl⟩:=q i x s;obtain ⟨c,hc⟩:=Zr (xs:=le) (i:=j) (by rw [← (hF i hi).1];exact Kc hd);obtain ⟨d',v,z,g2,g3,g4⟩:=(hF i hi).2 j c hc;rw [hd] at z;cases z;exact ⟨g2.cell,v,g3⟩
            · intro i x j d v s hd hv;obtain ⟨hi,rfl⟩:=q i x s;obtain ⟨c,hc⟩:=Zr (xs:=le) (i:=j) (by rw [← (hF i hi).1];exact Kc hd);obtain ⟨d',v',z,g2,g3,g4⟩:=(hF i hi).2 j c hc;rw [hd] at z;cases z;rw [hv] at g3;cases g3;exact g4
          rw [r] at ab
          refine q6t (.sl (by rw [r];omega) ?_ ?_) ab
          · intro i x s
            obtain ⟨hi,rfl⟩:=q i x s
            exact (hF i hi).1
          · intro i x j c d s hc hd
            obtain ⟨hi,rfl⟩:=q i x s
            obtain ⟨d',v,z,g2,_⟩:=(hF i hi).2 j c hc
            rw [hd] at z;cases z
            exact g2
    · rename_i fs ht
      split at hl <;> simp at hl
      rename_i l' am
      obtain ⟨u,rfl⟩:=hl
      obtain ⟨xs,n,_,_,bc,bi,hf⟩:=DataW.trod_struct ht h
      have:=qp8 (P:=P) (w:=w) (f:=tyL P f) (g:=fun x cs=>∃ y,DataW.trod enc P w base (fun _=>true) held n x.type cs = some y) (fun x l cs h1 ⟨y,h2⟩=>qdx f x.type l n cs y h1 h2) fs.toList 0 l' cs am q0 ?_
      · simpa using this
      · intro x s
        obtain ⟨i,hi⟩:=List.getElem?_of_mem s
        have:=hf i x (by simpa using hi)
        obtain ⟨y,hy⟩:=Zr (xs:=xs) (i:=i) (by have:=Kc hi;simp at this;omega)
        exact ⟨y,by rw [this];exact hy⟩
end
end Go.Am
namespace Go.Am
open Go
open Go.ChangeShapes Go.WideShapes Go.ChangeAt Go.RowKit Go.Deep
theorem q13e {P : Program} {l : List (Nat × TI)} (h : l.map (fun x=>tiOf P x.1) = l.map (fun x=>some x.2)) : Z5 P (qp5 l):=by
  intro t i c;have a:=J6 (show find l t = some i from c);obtain ⟨k,b⟩:=List.getElem?_of_mem a;have:=congrArg (fun r=>r[k]?) h;simp only [List.getElem?_map,b,Option.map_some] at this;exact qe3 this
def aggT (P : Program) (t : TypeId) : Bool:=match P.underlying t with
  | some (.struct _) | some (.array _ _)=>true
  | _=>false
inductive q10 : List (Bool × List CT)→List DV→Prop
  | nil : q10 [] []
  | one {c : CT} {d : DV} {ps : List (Bool × List CT)} {ds : List DV} : Ty c d→q10 ps ds→q10 ((false,[c])::ps) (d::ds)
  | agg {l : List CT} {xs : List DV} {ps : List (Bool × List CT)} {ds : List DV} : xs.length = l.length→(∀ (j : Nat) (c : CT) (d : DV),l[j]? = some c→xs[j]? = some d→Ty c d)→q10 ps ds→q10 ((true,l)::ps) (.agg xs::ds)
section
variable {H : Type} {enc : TypeId × Value→H} {P : Program} {T : Tab} {W : World} {base : Nat}
theorem qpz {t : TypeId} {f : Nat} {l : List CT} {v : Value} {d : DataW H} {p : List MemPlace} (u : aggT P t = false) (o : tyL P f t = some l) (a : Value.okWide P W .any base t v) (h : DataW.Trod enc P W 0 (fun _=>true) true t v d p) :
    ∃ c x,l = [c]∧Ty c x∧RelD W (ZC W) x v:=by
  obtain ⟨fuel,z⟩:=h;have m:=qdx f t l fuel _ _ o z
  have key : v.cells = #[v]→∃ c,l = [c]→∃ x,Ty c x∧RelD W (ZC W) x v:=by
    intro w;rw [w] at m;obtain ⟨h1,ds,h2,q⟩:=m
    match l,h1 with
    | [c],_=>
      obtain ⟨x,_,y,r⟩:=q 0 c v rfl rfl;exact ⟨c,fun _=>⟨x,y,r⟩⟩
  have fin : v.cells = #[v]→∃ c x,l = [c]∧Ty c x∧RelD W (ZC W) x v:=by
    intro w;have j:=m.1;rw [w] at j m
    match l,j,m with
    | [c],_,m=>
      obtain ⟨_,ds,h2,q⟩:=m;obtain ⟨x,_,y,r⟩:=q 0 c v rfl rfl;exact ⟨c,x,rfl,y,r⟩
  cases f with
  | zero=>simp [tyL] at o
  | succ f=>
    simp only [tyL] at o;split at o <;> try simp at o
    · rename_i g;obtain ⟨b,rfl⟩:=okWide_bool g a;exact fin rfl
    · rename_i k g;obtain ⟨n,rfl⟩:=okWide_int g a;exact fin rfl
    · rename_i g;obtain ⟨s,rfl⟩:=okWide_string g a;exact fin rfl
    · rename_i e g;obtain ⟨a0,len,cap,rfl⟩:=okWide_slice g a;exact fin rfl
    · rename_i fs g;simp [aggT,g] at u
theorem qpy {t : TypeId} {f : Nat} {l : List CT} {v : Value} {d : DataW H} {p : List MemPlace} (b : aggT P t = true) (x : tyL P f t = some l) (a : Value.okWide P W .any base t v) (h : DataW.Trod enc P W 0 (fun _=>true) true t v d p) :
    ∃ xs : List DV,xs.length = l.length∧(∀ (j : Nat) (c : CT) (d : DV),l[j]? = some c→xs[j]? = some d→Ty c d)∧RelD W (ZC W) (.agg xs) v:=by
  obtain ⟨fuel,u⟩:=h
  have r : ∃ cs,v = .agg cs:=by
    unfold aggT at b;unfold Value.okWide at a;split at b
    · rename_i s;simp only [s] at a;obtain ⟨cs,h,_⟩:=a;exact ⟨cs,h⟩
    · rename_i s;simp only [s] at a;obtain ⟨cs,h,_⟩:=a;exact ⟨cs,h⟩
    · simp at b
  obtain ⟨cs,rfl⟩:=r;obtain ⟨o,ds,n,m⟩:=qdx f t l fuel _ _ x u;simp only [Value.cells] at o m;refine ⟨ds,n,fun j c d k hd=>?_,.agg (by simpa [n] using o.symm) fun j d c hd k=>?_⟩
  · obtain ⟨v,r⟩:=Zr (xs:=cs.toList) (i:=j) (by rw [o];exact Kc k);obtain ⟨d',g,y,_⟩:=m j c v k r;rw [hd] at g;cases g;exact y
  · obtain ⟨w,q⟩:=Zr (xs:=l) (i:=j) (by rw [← n];exact Kc hd);obtain ⟨d',g,_,z⟩:=m j w c q (by simpa using k);rw [hd] at g;cases g;exact z
theorem qib {f : Nat} : ∀ (o : List TypeId) (b : List (Bool × List CT)) (m : List Value) (ds : List (DataW H)) (p : List MemPlace),o.map (fun t=>(aggT P t,tyL P f t)) = b.map (fun x=>(x.1,some x.2))→
    (∀ (j : Nat) t v,o[j]? = some t→m[j]? = some v→Value.okWide P W .any base t v)→DataW.TrodAll enc P W 0 (fun _=>true) true o m ds p→
    ∃ xs : List DV,q10 b xs∧xs.length = m.length∧∀ (j : Nat) (x : DV) (v : Value),xs[j]? = some x→m[j]? = some v→RelD W (ZC W) x v
  | [],b,m,ds,p,hp,hok,h=>by
    obtain ⟨rfl,rfl,rfl⟩:=trodAll_nil h
    cases b with
    | nil=>exact ⟨[],.nil,rfl,qd⟩
    | cons _ _=>simp at hp
  | t::o,b,m,ds,p,hp,hok,h=>by
    obtain ⟨v,z,d,w,q,q',rfl,rfl,rfl,h1,h2⟩:=trodAll_cons h
    cases b with
    | nil=>simp at hp
    | cons pr b=>
      obtain ⟨ag,l⟩:=pr
      simp only [List.map_cons,List.cons.injEq,Prod.mk.injEq] at hp
      obtain ⟨⟨n,hl⟩,hp⟩:=hp
      obtain ⟨xs,g1,g2,g3⟩:=qib o b z w q' hp (fun j t v ht hv=>hok (j + 1) t v (by simpa using ht) (by simpa using hv)) h2
      have a:=hok 0 t v rfl rfl
      cases ag with
      | false=>
        obtain ⟨c,x,rfl,s,r⟩:=qpz n hl a h1
        refine ⟨x::xs,.one s g1,by simp [g2],fun j y u k g=>?_⟩
        cases j with
        | zero=>simp at k g;subst k g;exact r
        | succ j=>exact g3 j y u (by simpa using k) (by simpa using g)
      | true=>
        obtain ⟨zs,k0,s,r⟩:=qpy n hl a h1
        refine ⟨.agg zs::xs,.agg k0 s g1,by simp [g2],fun j y u k g=>?_⟩
        cases j with
        | zero=>simp at k g;subst k g;exact r
        | succ j=>exact g3 j y u (by simpa using k) (by simpa using g)
theorem q13x {F : FuncId} {g : Array Value} {xs : List DV} (t : Z5 P T) (hm : P.follows .mixedOrders = true) (hp : Pure P T F xs (.bool true)) (hl : xs.length = g.size) (z : ∀ (j : Nat) (x : DV) (v : Value),xs[j]? = some x→g[j]? = some v→RelD W (ZC W) x v) :
    Calls P F g W fun e l=>e = .returned (.bool true)∧Grown W l∧Below W.heap.size W l:=by
  obtain ⟨v,hp',nx',r',u,p,q⟩:=hp;have hg:=qqe t hm u
  have w : RelH W (ZC W) (fun _=>none) [] 0:=⟨fun _ _ h=>by simp [find] at h,fun _ _ _ _ _ _ h=>by simp [find] at h,fun _ _ _ h=>by simp [find] at h,
    fun b ⟨c,e,f,h⟩=>Jb h,fun b h=>h⟩
  have hc:=hg.2 W (ZC W) (fun _=>none) g w ⟨by simpa using hl,fun j x v s r=>by
    simp only [List.getElem?_map,Y6] at s;obtain ⟨y,hy,rfl⟩:=s
    exact .d (z j y v hy r)⟩
  refine (callsIn_wide (n:=0).1 hc).mono ?_;rintro e l ⟨x,Z',inj',rfl,hh,a,r,hn⟩;have hD:=(qbd hh 8 p r).le q;cases hD;have m : ∀ k,k < W.heap.size→l.heap[k]? = W.heap[k]?:=fun k m=>a.keep k m (by rintro ⟨n,blk,o,h1,_⟩;simp [find] at h1);refine ⟨rfl,⟨⟨a.os,a.output,fun i hi=>?_⟩,a.frz,a.size⟩,⟨a.os,a.tape,a.output,a.size,m⟩⟩;rw [m i hi]
  cases hw : W.heap[i]? with
  | none=>simp
  | some o=>cases o <;> simp
theorem qic (a : laidOutB P = true) {l : World} {k : Nat→Bool} : ∀ (b : List TypeId) (f : List Value) (ds : List (DataW H)) (p : List MemPlace),(∀ t∈b,P.readableRec t = true∧t < P.types.size)→DataW.TrodAll enc P W 0 (fun _=>true) true b f ds p→
    Below W.heap.size W l→(∀ x∈p,x.block < W.heap.size∧k x.block = true)→DataW.TrodAll enc P l 0 k true b f ds p
  | [],f,ds,p,_,h,_,_=>by obtain ⟨rfl,rfl,rfl⟩:=trodAll_nil h;exact trodAll_mk0
  | t::b,f,ds,p,ht,h,hb,hp=>by
    obtain ⟨v,j,d,g,q,r,rfl,rfl,rfl,o,m⟩:=trodAll_cons h
    refine trodAll_cons_mk (WideElems.Trod_stays a (ht t qd).1 (ht t qd).2 o (fun x c=>hb.same (hp x (by simp [c])).1) (fun x c=>(hp x (by simp [c])).2))
      (qic a b j g r (fun u n=>ht u (by simp [n])) m hb (fun x c=>hp x (by simp [c])))
theorem contract {f : Func} {F : FuncId} {s : ChangeSpec} {tb : TypeId} {fuel : Nat} {ps : List (Bool × List CT)} (hT : Z5 P T) (hm : P.follows .mixedOrders = true) (y : laidOutB P = true)
    (a : s.vars = []) (c : f.resultTypes = #[tb]) (n : P.underlying tb = some .bool) (l : ∀ t∈f.params.toList,P.readableRec t = true∧t < P.types.size)
    (ae : f.params.toList.map (fun t=>(aggT P t,tyL P fuel t)) = ps.map (fun x=>(x.1,some x.2)))
    (hs : ∀ ds : List (DataW H),ds.length = f.params.size→s.fn H ds = {results:=[.lit (.bool true)],args:=ds})
    (m : ∀ xs,q10 ps xs→Pure P T F xs (.bool true))
    {args : Array Value} {ds gs : List (DataW H)} {before : List MemPlace} (z : ∀ (j : Nat) t v,f.params[j]? = some t→args[j]? = some v→Value.okWide P W .any base t v)
    (hW : DataW.Whole enc P f.params.toList s.vars false W args.toList ds gs before) :
    Calls P F args W fun e W'=>∃ v,e = .returned v∧s.post enc P f false true false false W args v W':=by
  have g:=hW;obtain ⟨p,q,hA,hV,rfl,al,aq⟩:=hW;rw [a] at hV;obtain ⟨rfl,rfl⟩:=trodVars_none hV;have u:=g.lt;simp only [List.append_nil] at g u;obtain ⟨xs,g1,g2,g3⟩:=qib (base:=base) f.params.toList ps args.toList ds p ae (fun j t v ht hv=>z j t v (by simpa using ht) (by simpa using hv)) hA;refine (q13x hT hm (m xs g1) (by simpa using g2) (fun j x v hx hv=>g3 j x v hx (by simpa using hv))).mono ?_;rintro e W' ⟨rfl,hg,hb⟩
  have o : ds.length = f.params.size:=by
    have : ∀ (r : List TypeId) (vs : List Value) (ds : List (DataW H)) (p : List MemPlace),DataW.TrodAll enc P W 0 (fun _=>true) true r vs ds p→ds.length = r.length:=by
      intro r
      induction r with
      | nil=>intro vs ds p h;obtain ⟨_,rfl,_⟩:=trodAll_nil h;rfl
      | cons t r ih=>intro vs ds p h;obtain ⟨v,ay,d,av,q,q',rfl,rfl,rfl,_,h2⟩:=trodAll_cons h;simp [ih _ _ _ h2]
    simpa using this _ _ _ _ hA
  have k:=hs (ds ++ []) (by simpa using o);refine ⟨_,rfl,post_of_same (pa:=p) (pv:=[]) g ?_ ?_ ?_ qd (hg.frame _) hg.2.1 (ok_one c rfl (okWide_bool_mk n _))⟩
  · intro b sp hd;rw [c,k];exact trodAll_cons_mk (shut_bool n _) trodAll_mk0
  · intro sp w;rw [k];show DataW.TrodAll enc P W' 0 sp true f.params.toList args.toList (ds ++ []) p;rw [List.append_nil];exact qic y _ _ _ _ l hA hb fun x hx=>⟨u x hx,w x hx⟩
  · intro sp w;rw [k,a];rfl
end
end Go.Am
namespace Go.Am
open Go
variable {P : Program} {T : Tab}
section
variable {base : Nat} {ops : Array Oper} {dr : Dr} {l : List Oper} {sl sl1 : List (Nat × V)} {hp hp1 : List (Nat × Blk)} {nx nx1 : Nat} {K : AS→Prop} {ty : TypeId} {pos : String} {af : Array Edge} {t : Tmp} {g : Option (Nat × Bool)} {v : V}
theorem qst {st : AS} {op : Op} (h : touch op = 0) : fp st op = (some [],[]):=by
  unfold touch at h;split at h <;> first | rfl | (simp at h;done) | (exact absurd h Q1)
theorem qum {dr : Dr} {k : Nat} {st st1 : AS} {t : TypeId} {p : Operand} (h : okF dr k (fp st (.load t p)) = true) : okO dr k st (.load t p) st1 = true:=by
  cases dr with
  | none=>rfl
  | some F=>simp only [okF] at h;simp only [okO,h,Bool.true_and,q3w,touch]
theorem qm1 {dr : Dr} {k n es : Nat} {st st1 : AS} {op : Op} {xs : List (List DV)} {r : List (Nat × Blk)} (a : st1.hp = (n,.dat es xs)::r) (h : okF dr k (fp st op) = true) : okO dr k st op st1 = true:=by
  cases dr with
  | none=>rfl
  | some F=>
    simp only [okF] at h;simp only [okO,h,Bool.true_and,q3w,a];split <;> rfl
theorem Jo {dr : Dr} {k : Nat} {st st1 : AS} {op : Op} (h : touch op = 0) : okO dr k st op st1 = true:=by
  cases dr with
  | none=>rfl
  | some F=>simp only [okO,qst h,qkb,Bool.true_and,q3w,h]
theorem fin {ex : Ex} {st : AS} {b : List ResultVar} {v : V} {r a : DV} (f : ex = .nor∨ex = .ret) (c : resV T st b = some v) (d : toD st.hp 8 v = some a) (g : a = r) : (ex = .nor∨ex = .ret)∧∃ v a,resV T st b = some v∧toD st.hp 8 v = some a∧DLe a r:=
  ⟨f,v,a,c,d,g ▸ .refl _⟩
theorem qus {x y : Operand} {a : TypeId} {i : TI} {k : IntKind} {n : Int} {m es off len : Nat} (q : Qt ops ⟨sl,hp,nx⟩ ⟨some t,.indexAddr a x y,ty,pos,af,g⟩ = some true) (c : T a = some i)
    (p : AS.ev ⟨sl,hp,nx⟩ x = some (.hs m es off len)) (b : AS.ev ⟨sl,hp,nx⟩ y = some (.d (.int k n))) (o : i.kind = .slice) (f : es = i.esize) (j : 0≤n) (hi : n < len)
    (h : OpsK P T base ops dr l ⟨(t,.ref m es (off + n.toNat) 0)::sl,hp,nx⟩ K) : OpsK P T base ops dr (⟨some t,.indexAddr a x y,ty,pos,af,g⟩::l) ⟨sl,hp,nx⟩ K:=
  Ya q (v:=.ref m es (off + n.toNat) 0) (st1:=⟨sl,hp,nx⟩) (by simp [opFn,p,b,c,q42,o,f,j,hi]) h (Jo rfl)
theorem qm4 {p : Operand} {b : TypeId} {i : TI} {m es a j : Nat} {xs : List (List DV)} {cs r : List DV} {w : V} (o : Qt ops ⟨sl,hp,nx⟩ ⟨some t,.load b p,ty,pos,af,g⟩ = some true) (c : T b = some i)
    (n : AS.ev ⟨sl,hp,nx⟩ p = some (.ref m es a j)) (hb : find hp m = some (.dat es xs)) (hi : xs[a]? = some cs) (hs : sub cs j i.size = some r) (k : (q26 i.agg r).map .d = some w)
    (h : OpsK P T base ops dr l ⟨(t,w)::sl,hp,nx⟩ K) (f : okF dr l.length (fp ⟨sl,hp,nx⟩ (.load b p)) = true:=by rfl) : OpsK P T base ops dr (⟨some t,.load b p,ty,pos,af,g⟩::l) ⟨sl,hp,nx⟩ K:=
  Ya o (v:=w) (st1:=⟨sl,hp,nx⟩) (by simp only [opFn,n,c,U9,AS.blk,hb,Nat.beq_refl,hi,hs,k,Option.map_some]) h (qum f)
end
end Go.Am
namespace Go.Am
open Go
variable {P : Program} {T : Tab}
section
variable {base : Nat} {ops : Array Oper} {dr : Dr} {l : List Oper} {sl : List (Nat × V)} {hp : List (Nat × Blk)} {nx : Nat} {K : AS→Prop} {ty : TypeId} {pos : String} {af : Array Edge} {t : Tmp} {g : Option (Nat × Bool)} {v : V}
theorem K2 {a : TypeId} {i : TI} (c : Qt ops ⟨sl,hp,nx⟩ ⟨some t,.alloc a,ty,pos,af,g⟩ = some true) (b : T a = some i)
    (h : OpsK P T base ops dr l ⟨(t,.ref nx i.size 0 0)::sl,(nx,.dat i.size [i.zero])::hp,nx + 1⟩ K) (d : okF dr l.length (fp ⟨sl,hp,nx⟩ (.alloc a)) = true:=by rfl) : OpsK P T base ops dr (⟨some t,.alloc a,ty,pos,af,g⟩::l) ⟨sl,hp,nx⟩ K:=
  Ya c (v:=.ref nx i.size 0 0) (st1:=⟨sl,(nx,.dat i.size [i.zero])::hp,nx + 1⟩) (by simp only [opFn,b,Option.map_some];rfl) h (qm1 rfl d)
theorem qun {x y : Operand} {a b : TypeId} {i j : TI} {n es len : Nat} {xs ys : List (List DV)} {d : V} (hg : Qt ops ⟨sl,hp,nx⟩ ⟨some t,.call {callee:=.builtin .append,args:=#[x,y],argTypes:=#[a,b]},ty,pos,af,g⟩ = some true)
    (p : T a = some i) (c : T b = some j) (z : AS.ev ⟨sl,hp,nx⟩ x = some (.hs n es 0 len)) (o : AS.ev ⟨sl,hp,nx⟩ y = some d) (hb : find hp n = some (.dat es xs)) (q : len = xs.length) (w : Yx ⟨sl,hp,nx⟩ d = some ys)
    (u : i.kind = .slice) (f : j.kind = .slice) (r : es = i.esize) (k : J5 i.esize d = true) (m : (len + ys.length) * (i.ebytes * 4)≤4294967296)
    (h : OpsK P T base ops dr l ⟨(t,.hs nx es 0 (len + ys.length))::sl,(nx,.dat es (xs ++ ys))::repl hp n .dead,nx + 1⟩ K) (s : okF dr l.length (fp ⟨sl,hp,nx⟩ (.call {callee:=.builtin .append,args:=#[x,y],argTypes:=#[a,b]})) = true:=by rfl) : OpsK P T base ops dr (⟨some t,.call {callee:=.builtin .append,args:=#[x,y],argTypes:=#[a,b]},ty,pos,af,g⟩::l) ⟨sl,hp,nx⟩ K:=by
  refine Ya hg (v:=.hs nx es 0 (len + ys.length)) (st1:=⟨sl,(nx,.dat es (xs ++ ys))::repl hp n .dead,nx + 1⟩) ?_ h (qm1 rfl s);subst q;have e : ((xs.drop 0).take xs.length ++ ys) = xs ++ ys:=by simp
  simp only [opFn,evL,z,o,Y5];simp only [List.getElem?_toArray,List.getElem?_cons_zero,List.getElem?_cons_succ,p,c];rw [qr ⟨u,f,k⟩];simp only [Z6,AS.blk,hb,w];rw [qr ⟨q0,trivial,m,r⟩,e];rfl
theorem qgi {x : Operand} (a : Qt ops ⟨sl,hp,nx⟩ ⟨some t,.move x,ty,pos,af,g⟩ = some true) (b : AS.ev ⟨sl,hp,nx⟩ x = some v)
    (h : OpsK P T base ops dr l ⟨(t,v)::sl,hp,nx⟩ K) : OpsK P T base ops dr (⟨some t,.move x,ty,pos,af,g⟩::l) ⟨sl,hp,nx⟩ K:=
  Ya a (v:=v) (st1:=⟨sl,hp,nx⟩) (by simp only [opFn,b,Option.map_some]) h (Jo rfl)
theorem qup {x : Operand} (a : Qt ops ⟨sl,hp,nx⟩ ⟨some t,.assign x,ty,pos,af,g⟩ = some true) (b : AS.ev ⟨sl,hp,nx⟩ x = some v)
    (h : OpsK P T base ops dr l ⟨(t,v)::sl,hp,nx⟩ K) : OpsK P T base ops dr (⟨some t,.assign x,ty,pos,af,g⟩::l) ⟨sl,hp,nx⟩ K:=
  Ya a (v:=v) (st1:=⟨sl,hp,nx⟩) (by simp only [opFn,b,Option.map_some]) h (Jo rfl)
theorem qb {op : Op} {j : Nat} {w : Bool} (a : Qt ops ⟨sl,hp,nx⟩ ⟨some t,op,ty,pos,af,some (j,w)⟩ = some false) (h : OpsK P T base ops dr l ⟨(t,.d (.tup []))::sl,hp,nx⟩ K) : OpsK P T base ops dr (⟨some t,op,ty,pos,af,some (j,w)⟩::l) ⟨sl,hp,nx⟩ K:=
  qv3 a h
theorem quw {x : Operand} {a : TypeId} {i : TI} {es : Nat} {xs : List (List DV)} {m : Nat} (k : Qt ops ⟨sl,hp,nx⟩ ⟨some t,.call {callee:=.builtin .len,args:=#[x],argTypes:=#[a]},ty,pos,af,g⟩ = some true) (f : T a = some i) (c : i.kind = .slice) (j : AS.ev ⟨sl,hp,nx⟩ x = some (.d (.sl es xs))) (b : xs.length = m)
    (h : OpsK P T base ops dr l ⟨(t,.d (.int .i64 m))::sl,hp,nx⟩ K) : OpsK P T base ops dr (⟨some t,.call {callee:=.builtin .len,args:=#[x],argTypes:=#[a]},ty,pos,af,g⟩::l) ⟨sl,hp,nx⟩ K:=by
  subst b;exact Ya k (v:=.d (.int .i64 xs.length)) (st1:=⟨sl,hp,nx⟩) (by simp only [opFn,evL,j,Y5];simp only [List.getElem?_toArray,List.getElem?_cons_zero,f,c]) h (Jo rfl)
end
end Go.Am
namespace Go.Am
open Go
def iter {α β : Type} (f : α→Option (α ⊕ β)) : Nat→α→Option β
  | 0,_=>none
  | n + 1,a=>match f a with
    | none=>none
    | some (.inl a')=>iter f n a'
    | some (.inr b)=>some b
theorem qft {α β : Type} {f : α→Option (α ⊕ β)} : ∀ {n : Nat} {a : α} {b : β},iter f n a = some b→∀ m,n≤m→iter f m a = some b
  | 0,_,_,h,_,_=>by simp [iter] at h
  | n + 1,a,b,h,m,hm=>by
    obtain ⟨k,rfl⟩ : ∃ k,m = k + 1:=⟨m - 1,q0⟩
    simp only [iter] at h ⊢
    split at h
    · simp at h
    · rename_i a' c;exact qft h k q0
    · exact h
theorem qtl {α β : Type} {f : α→Option (α ⊕ β)} {n m : Nat} {a : α} {b c : β} (h : iter f n a = some b) (d : iter f m a = some c) : b = c:=by
  have j:=qft h (max n m) q0;have g:=qft d (max n m) q0;grind
open Classical in
noncomputable def loop {α β : Type} (f : α→Option (α ⊕ β)) (a : α) : Option β:=
  if h : ∃ b n,iter f n a = some b then some h.choose else none
theorem q9d {α β : Type} {f : α→Option (α ⊕ β)} {a : α} {b : β} : loop f a = some b↔∃ n,iter f n a = some b:=by
  unfold loop;split
  · rename_i h;constructor
    · grind
    · rintro ⟨n,d⟩;obtain ⟨m,c⟩:=h.choose_spec;rw [qtl c d]
  grind
theorem Y9 {α β : Type} {f : α→Option (α ⊕ β)} {a a' : α} (h : f a = some (.inl a')) : loop f a = loop f a':=by
  apply Option.ext;intro b;rw [q9d,q9d];constructor
  · rintro ⟨n,c⟩
    cases n with
    | zero=>simp [iter] at c
    | succ n=>simp only [iter,h] at c;exact ⟨n,c⟩
  · rintro ⟨n,c⟩;exact ⟨n + 1,by simp only [iter,h];exact c⟩
theorem Kn {α β : Type} {f : α→Option (α ⊕ β)} {a : α} {b : β} (h : f a = some (.inr b)) : loop f a = some b:=
  q9d.2 ⟨1,by simp [iter,h]⟩
theorem qu1 {α β : Type} {f : α→Option (α ⊕ β)} (I : α→Prop) (μ : α→Nat) (Q : β→Prop) (step : ∀ a,I a→(∃ a',f a = some (.inl a')∧I a'∧μ a' < μ a)∨∃ b,f a = some (.inr b)∧Q b) {a : α} (h : I a) : ∃ b,loop f a = some b∧Q b:=by
  generalize j : μ a = n
  induction n using Nat.strongRecOn generalizing a with
  | _ n ih=>
    rcases step a h with ⟨a',d,c,g⟩ | ⟨b,d,c⟩
    · rw [Y9 d];exact ih _ (j ▸ g) c rfl
    · exact ⟨b,Kn d,c⟩
def w64 (x : Int) : Int:=IntKind.i64.wrap x
theorem Qb {x : Int} (h : -9223372036854775808≤x∧x≤9223372036854775807) : w64 x = x:=qhs h
def idx {α : Type} (xs : List α) (i : Int) : Option α:=if 0≤i then xs[i.toNat]? else none
def app {α : Type} (c : Nat) (xs ys : List α) : Option (List α):=if (xs.length + ys.length) * (c * 4)≤4294967296 then some (xs ++ ys) else none
def slc {α : Type} (xs : List α) (a b : Int) : Option (List α):=if 0≤a∧a≤b∧b≤xs.length then some ((xs.drop a.toNat).take (b.toNat - a.toNat)) else none
def mks {α : Type} (c : Nat) (n : Int) (z : α) : Option (List α):=if 0≤n∧n * (c * 4)≤4294967296 then some (List.replicate n.toNat z) else none
def sub2 (n : Nat) (a b : Int) : Option (Nat × Nat):=if 0≤a∧a≤b∧b≤n then some (a.toNat,b.toNat - a.toNat) else none
def cpyw {α : Type} (xs : List α) (w : Nat × Nat) (ys : List α) : List α:=splice xs w.1 (ys.take (min ys.length w.2))
theorem leb {n m : Nat} (h : Nat.ble n m = true) : n≤m:=by simpa using h
theorem qjj {α : Type} {xs ys : List α} {w : Nat × Nat} (h : w.1 + w.2≤xs.length) : (cpyw xs w ys).length = xs.length:=by
  simp [cpyw,splice];omega
theorem ltd {n m : Nat} (h : Nat.blt n m = true) : n < m:=by simpa [Nat.blt_eq] using h
def eI (k : IntKind) (x : Int) : List DV:=[.int k x]
def eB (b : Bool) : List DV:=[.bool b]
theorem qc9 {α : Type} {xs : List α} {i : Int} {v : α} (h : idx xs i = some v) : 0≤i∧xs[i.toNat]? = some v∧i.toNat < xs.length:=by
  unfold idx at h;grind
theorem q14d {α β : Type} {o : Option α} {f : α→Option β} {x : β} (h : o.bind f = some x) : ∃ v,o = some v∧f v = some x:=by
  cases o with
  | none=>cases h
  | some v=>exact ⟨v,rfl,h⟩
theorem qt {α : Type} {a b : α} (h : some a = some b) : a = b:=qe3 h
section
variable {P : Program} {T : Tab} {base : Nat} {cs : List Code} {st : AS} {K : Ex→AS→Prop}
theorem RunK.mono {a : Ex→AS→Prop} : ∀ {cs : List Code} {st : AS},RunK P T base cs st K→(∀ ex st,K ex st→a ex st)→RunK P T base cs st a
  | [],_,h,hk=>hk _ _ h
  | c::cs,st,h,hk=>q3s.mono h fun ex st h=>by
    cases ex with
    | nor=>exact RunK.mono (cs:=cs) h hk
    | exit i=>exact hk _ _ h
    | ret=>exact hk _ _ h
theorem qo {α : Type} {c : Operand} {a b : Code} {t : Bool} {X Y : Option α} {x : α} (f : st.ev c = some (.d (.bool t))) (h : cond t X Y = some x) (j : t = true→X = some x→RunK P T base (a::cs) st K) (g : t = false→Y = some x→RunK P T base (b::cs) st K) :
    RunK P T base (.cond c a b::cs) st K:=by
  cases t with
  | true=>exact Zn f (j rfl h)
  | false=>exact Zm f (g rfl h)
theorem Qk {α β : Type} {body : Code} (f : α→Option (α ⊕ β)) (S : α→AS) (g : α) (m : β) (l : loop f g = some m) (q : WkE base st (S g))
    (round : ∀ a y,f a = some y→RunK P T base [body] (S a) (fun ex st'=>match ex with
      | .nor=>∃ a',y = .inl a'∧WkE base st' (S a')
      | ex=>∃ b,y = .inr b∧(b = m→K ex st'))) : RunK P T base (.loop body::cs) st K:=by
  obtain ⟨n,p⟩:=q9d.1 l;refine qxx (fun x : Nat × α=>S x.2) (fun x=>iter f x.1 x.2 = some m) (fun x=>x.1) (n,g) q p ?_;rintro ⟨k,a⟩ c
  cases k with
  | zero=>simp [iter] at c
  | succ k=>
    simp only [iter] at c;split at c
    · cases c
    · rename_i a' j;refine (round a _ j).mono ?_;intro ex st' h
      cases ex with
      | nor=>
        obtain ⟨a'',d,o⟩:=h;cases d;exact ⟨(k,a'),c,qd,o⟩
      | exit i=>obtain ⟨b,d,_⟩:=h;cases d
      | ret=>obtain ⟨b,d,_⟩:=h;cases d
    · rename_i b j;cases c;refine (round a _ j).mono ?_;grind
theorem U4 {id : Nat} {N : AS→Prop} (h : N st) : q3u id N K (.exit id) st:=by simpa [q3u] using h
theorem Qo {id : Nat} {N : AS→Prop} (h : N st) : q3u id N K .nor st:=h
theorem Z2 {β : Type} {c : Code} (E : β→Prop) (S : β→AS) (d : cs≠[]) (h : RunK P T base [c] st (qbb (fun st'=>∃ b,E b∧WkE base st' (S b)) K)) (a : ∀ b,E b→RunK P T base cs (S b) K) : RunK P T base (c::cs) st K:=by
  obtain ⟨ex,st1,j,f⟩:=q5p h;refine ⟨ex,st1,j,?_⟩
  cases ex with
  | nor=>obtain ⟨b,hb,g⟩:=f;exact Y8 g (a b hb) d
  | exit i=>exact f
  | ret=>exact f
theorem Qn {β : Type} {id : Nat} {a : Code} (E : β→Prop) (S : β→AS) (d : cs≠[]) (g : RunK P T base [a] st (q3u id (fun st'=>∃ b,E b∧WkE base st' (S b)) K)) (c : ∀ b,E b→RunK P T base cs (S b) K) : RunK P T base (.block id a::cs) st K:=by
  refine Q7 (g.mono ?_);intro ex st' h
  cases ex with
  | nor=>obtain ⟨b,hb,f⟩:=h;exact Y8 f (c b hb) d
  | ret=>exact h
  | exit i=>
    simp only [q3u] at h ⊢;split
    · rename_i hi;rw [qr hi] at h;obtain ⟨b,hb,f⟩:=h;exact Y8 f (c b hb) d
    grind
theorem q9x {β : Type} {c : Code} (E : β→Prop) (S : β→AS) (f : RunK P T base [c] st (qbb (fun st'=>∃ b,E b∧WkE base st' (S b)) K)) (a : ∀ b st',E b→WkE base st' (S b)→K .nor st') : RunK P T base [c] st K:=by
  refine f.mono ?_;intro ex st' h
  cases ex with
  | nor=>obtain ⟨b,hb,d⟩:=h;exact a b st' hb d
  | exit i=>exact h
  | ret=>exact h
end
section
variable {P : Program} {T : Tab} {base : Nat} {ops : Array Oper} {dr : Dr} {l : List Oper} {sl : List (Nat × V)} {hp : List (Nat × Blk)} {nx : Nat} {K : AS→Prop} {ty : TypeId} {pos : String} {af : Array Edge} {t : Tmp} {g : Option (Nat × Bool)}
theorem qv7 {op : Op} (v : V) (a : Qt ops ⟨sl,hp,nx⟩ ⟨some t,op,ty,pos,af,g⟩ = some true) (c : opFn T ⟨sl,hp,nx⟩ op = some (v,⟨sl,hp,nx⟩)) (h : OpsK P T base ops dr l ⟨(t,v)::sl,hp,nx⟩ K) (b : okO dr l.length ⟨sl,hp,nx⟩ (op) ⟨sl,hp,nx⟩ = true:=by rfl) : OpsK P T base ops dr (⟨some t,op,ty,pos,af,g⟩::l) ⟨sl,hp,nx⟩ K:=
  Ya a c h b
theorem qv0 {op : Op} (v : V) (b : Blk) (a : Qt ops ⟨sl,hp,nx⟩ ⟨some t,op,ty,pos,af,g⟩ = some true) (d : opFn T ⟨sl,hp,nx⟩ op = some (v,⟨sl,(nx,b)::hp,nx + 1⟩)) (h : OpsK P T base ops dr l ⟨(t,v)::sl,(nx,b)::hp,nx + 1⟩ K) (c : okO dr l.length ⟨sl,hp,nx⟩ (op) ⟨sl,(nx,b)::hp,nx + 1⟩ = true:=by rfl) : OpsK P T base ops dr (⟨some t,op,ty,pos,af,g⟩::l) ⟨sl,hp,nx⟩ K:=
  Ya a d h c
theorem q44 {op : Op} {es len : Nat} (xs : List (List DV)) (j : Qt ops ⟨sl,hp,nx⟩ ⟨some t,op,ty,pos,af,g⟩ = some true) (k : opFn T ⟨sl,hp,nx⟩ op = some (.hs nx es 0 len,⟨sl,(nx,.dat es xs)::hp,nx + 1⟩)) (f : len = xs.length) (c : touch op = 2) (a : find hp nx = none) (h : OpsK P T base ops dr l ⟨(t,.d (.sl es xs))::sl,hp,nx + 1⟩ K) (b : okF dr l.length (fp ⟨sl,hp,nx⟩ op) = true:=by rfl) : OpsK P T base ops dr (⟨some t,op,ty,pos,af,g⟩::l) ⟨sl,hp,nx⟩ K:=by
  subst f;exact qv1 (n:=nx) (hp2:=hp) (st1:=⟨sl,(nx,.dat es xs)::hp,nx + 1⟩) j k c ⟨rfl,rfl⟩ rfl a h b
theorem qv6 {op : Op} (n : Nat) (b : Blk) (a : Qt ops ⟨sl,hp,nx⟩ ⟨none,op,ty,pos,af,g⟩ = some true) (d : opFn T ⟨sl,hp,nx⟩ op = some (.dead,⟨sl,repl hp n b,nx⟩)) (h : OpsK P T base ops dr l ⟨sl,repl hp n b,nx⟩ K) (c : okO dr l.length ⟨sl,hp,nx⟩ (op) ⟨sl,repl hp n b,nx⟩ = true:=by rfl) : OpsK P T base ops dr (⟨none,op,ty,pos,af,g⟩::l) ⟨sl,hp,nx⟩ K:=
  Ya a d h c
theorem Qa {α : Type} {x : Operand} {b : Bool} {X Y : Option α} {m : α} (c : Qt ops ⟨sl,hp,nx⟩ ⟨some t,.move x,ty,pos,af,g⟩ = some true) (a : AS.ev ⟨sl,hp,nx⟩ x = some (.d (.bool b))) (h : cond b X Y = some m)
    (j : X = some m→OpsK P T base ops dr l ⟨(t,.d (.bool true))::sl,hp,nx⟩ K) (f : Y = some m→OpsK P T base ops dr l ⟨(t,.d (.bool false))::sl,hp,nx⟩ K) : OpsK P T base ops dr (⟨some t,.move x,ty,pos,af,g⟩::l) ⟨sl,hp,nx⟩ K:=by
  cases b with
  | true=>exact qgi c a (j h)
  | false=>exact qgi c a (f h)
theorem q1p {dr : Dr} (hd : dr = none) {m n : List Oper} {st st1 st2 : AS} : Kl P T base ops dr m st st1→Kl P T base ops dr n st1 st2→Kl P T base ops dr (m ++ n) st st2
  | .nil,h2=>h2
  | .skip a b,h2=>.skip a (q1p hd b h2)
  | .op a b _ c,h2=>.op a b (by subst hd;rfl) (q1p hd c h2)
  | .opF a b c d e f _ g,h2=>.opF a b c d e f (by subst hd;rfl) (q1p hd g h2)
  | .callP a b c d e f g h _ i,h2=>.callP a b c d e f g h (by subst hd;rfl) (q1p hd i h2)
  | .callS a b c d e,h2=>.callS a b c d (q1p hd e h2)
  | .callF a b c d e f g h i,h2=>.callF a b c d e f g h (q1p hd i h2)
  | .callY a b c d e f g h i j k l,h2=>.callY a b c d e f g h i j k (q1p hd l h2)
  | .wk a b,h2=>.wk a (q1p hd b h2)
  | .piv _ _ _,_=>by cases hd
theorem qff {F : List Fp} {m k : Nat} : fpAt (F.drop m) k = fpAt F (k + m):=by
  unfold fpAt;grind
theorem qul {F : List Fp} {l a : List Oper} {dr : Dr} (hd : dr = some (F.drop a.length)) {st st1 : AS} {op : Op} (h : okO dr l.length st op st1 = true) : okO (some F) (l ++ a).length st op st1 = true:=by
  subst hd;simp only [okO,qff] at h;simpa only [okO,List.length_append] using h
theorem qm0 {F : List Fp} {l a : List Oper} {dr : Dr} (hd : dr = some (F.drop a.length)) {x : Fp} (h : okF dr l.length x = true) : okF (some F) (l ++ a).length x = true:=by
  subst hd;simp only [okF,qff] at h;simpa only [okF,List.length_append] using h
theorem qsg {F : List Fp} {m : List Oper} {dr : Dr} {k : Dr} (r : k = some F) (hd : dr = some (F.drop m.length)) {n : List Oper} {st st1 st2 : AS} (p : Kl P T base ops dr n st st1) (q : Kl P T base ops k m st1 st2) : Kl P T base ops k (n ++ m) st st2:=by
  subst r
  induction n generalizing st with
  | nil=>cases p with
    | nil=>exact q
    | wk _ _=>cases hd
  | cons o l ih=>
    cases p with
    | skip a b=>exact .skip a (ih b)
    | op a b c d=>exact .op a b (qul hd c) (ih d)
    | opF a b c d e f g h=>exact .opF a b c d e f (qm0 hd g) (ih h)
    | callP a b c d e f g h i j=>exact .callP a b c d e f g h (qm0 hd i) (ih j)
    | callS _ _ _ _ _=>cases hd
    | callF _ _ _ _ _ _ _ _ _=>cases hd
    | callY _ _ _ _ _ _ _ _ _ _ _ _=>cases hd
    | wk _ _=>cases hd
    | piv a b c=>
      cases hd;rw [qff] at a;exact .piv (by show q1d (fpAt F (l ++ m).length) = true;rw [List.length_append];exact a) b (ih c)
def qjl (dr : Dr) (k : Nat) : Dr:=match dr with
  | none=>none
  | some F=>some (F.drop k)
theorem qsf {dr : Dr} {b a : List Oper} {st st1 st2 : AS} (d : Kl P T base ops (qjl dr a.length) b st st1) (c : Kl P T base ops dr a st1 st2) : Kl P T base ops dr (b ++ a) st st2:=by
  cases dr with
  | none=>exact q1p rfl d c
  | some F=>exact qsg rfl rfl d c
theorem Qc (n : Nat) (Q : (List (Nat × V)→AS)→AS→Prop) (d : OpsK P T base ops (qjl dr (l.drop n).length) (l.take n) ⟨sl,hp,nx⟩ (Q fun p=>⟨p ++ sl,hp,nx⟩)) (a : ∀ st',Q (fun p=>⟨p ++ sl,hp,nx⟩) st'→OpsK P T base ops dr (l.drop n) st' K) : OpsK P T base ops dr l ⟨sl,hp,nx⟩ K:=by
  obtain ⟨st1,g,b⟩:=d;obtain ⟨st2,f,c⟩:=a st1 b;refine ⟨st2,?_,c⟩;have:=qsf g f;simp_all
theorem quu {α : Type} {x y : Operand} {a : TypeId} {i : TI} {k : IntKind} {n : Int} {es : Nat} {xs : List α} {enc : α→List DV} {v : α} (o : idx xs n = some v) (r : Qt ops ⟨sl,hp,nx⟩ ⟨some t,.indexAddr a x y,ty,pos,af,g⟩ = some true) (f : T a = some i)
    (q : AS.ev ⟨sl,hp,nx⟩ x = some (.d (.sl es (xs.map enc)))) (c : AS.ev ⟨sl,hp,nx⟩ y = some (.d (.int k n))) (p : i.kind = .slice) (j : es = i.esize)
    (h : OpsK P T base ops dr l ⟨(t,.dref (enc v) 0)::sl,hp,nx⟩ K) : OpsK P T base ops dr (⟨some t,.indexAddr a x y,ty,pos,af,g⟩::l) ⟨sl,hp,nx⟩ K:=by
  obtain ⟨m,b,_⟩:=qc9 o;exact Ya r (v:=.dref (enc v) 0) (st1:=⟨sl,hp,nx⟩) (by simp [opFn,q,c,f,q42,p,j,m,b]) h (Jo rfl)
theorem qut {α : Type} {x y : Operand} {a : TypeId} {i : TI} {k : IntKind} {n : Int} {m es len : Nat} {xs : List α} {v : α} (p : idx xs n = some v) (f : len = xs.length) (s : Qt ops ⟨sl,hp,nx⟩ ⟨some t,.indexAddr a x y,ty,pos,af,g⟩ = some true) (c : T a = some i)
    (r : AS.ev ⟨sl,hp,nx⟩ x = some (.hs m es 0 len)) (b : AS.ev ⟨sl,hp,nx⟩ y = some (.d (.int k n))) (q : i.kind = .slice) (j : es = i.esize)
    (h : OpsK P T base ops dr l ⟨(t,.ref m es n.toNat 0)::sl,hp,nx⟩ K) : OpsK P T base ops dr (⟨some t,.indexAddr a x y,ty,pos,af,g⟩::l) ⟨sl,hp,nx⟩ K:=by
  subst f;obtain ⟨o,_,u⟩:=qc9 p;exact Ya s (v:=.ref m es n.toNat 0) (st1:=⟨sl,hp,nx⟩) (by simp [opFn,r,b,c,q42,q,j,o];omega) h (Jo rfl)
theorem qux {α : Type} {p : Operand} {a : TypeId} {i : TI} {m es j : Nat} {n : Int} {xs : List α} {enc : α→List DV} {r : List DV} {v : α} (w : V) (f : idx xs n = some v) (q : Qt ops ⟨sl,hp,nx⟩ ⟨some t,.load a p,ty,pos,af,g⟩ = some true) (b : T a = some i)
    (o : AS.ev ⟨sl,hp,nx⟩ p = some (.ref m es n.toNat j)) (hb : find hp m = some (.dat es (xs.map enc))) (hs : sub (enc v) j i.size = some r) (k : (q26 i.agg r).map .d = some w)
    (h : OpsK P T base ops dr l ⟨(t,w)::sl,hp,nx⟩ K) (c : okF dr l.length (fp ⟨sl,hp,nx⟩ (.load a p)) = true:=by rfl) : OpsK P T base ops dr (⟨some t,.load a p,ty,pos,af,g⟩::l) ⟨sl,hp,nx⟩ K:=
  qm4 q b o hb (by rw [List.getElem?_map,(qc9 f).2.1];rfl) hs k h c
theorem K3 {α : Type} {p x : Operand} {f : TypeId} {i : TI} {m es j : Nat} {n : Int} {xs : List α} {enc : α→List DV} {v : α} (k : α) {u : V} {ds : List DV} (y : idx xs n = some v) (q : Qt ops ⟨sl,hp,nx⟩ ⟨none,.store f p x,ty,pos,af,g⟩ = some true) (r : T f = some i)
    (hp' : AS.ev ⟨sl,hp,nx⟩ p = some (.ref m es n.toNat j)) (hx : AS.ev ⟨sl,hp,nx⟩ x = some u) (hb : find hp m = some (.dat es (xs.map enc))) (o : cellsOf u = ds.map .d) (s : ds.length = i.size) (z : ds.all Yg = true) (w : j + i.size≤(enc v).length) (hs : splice (enc v) j ds = enc k)
    (h : OpsK P T base ops dr l ⟨sl,repl hp m (.dat es ((xs.set n.toNat k).map enc)),nx⟩ K) (t : okO dr l.length ⟨sl,hp,nx⟩ (.store f p x) ⟨sl,repl hp m (.dat es ((xs.set n.toNat k).map enc)),nx⟩ = true:=by rfl) : OpsK P T base ops dr (⟨none,.store f p x,ty,pos,af,g⟩::l) ⟨sl,hp,nx⟩ K:=by
  refine Ya q (v:=.dead) (st1:=⟨sl,repl hp m (.dat es ((xs.set n.toNat k).map enc)),nx⟩) ?_ h t;have c : (cellsOf u).all Kh = true:=by rw [o,List.all_map];exact z
  have b : (cellsOf u).length = i.size:=by rw [o];simpa using s
  have a : (xs.map enc)[n.toNat]? = some (enc v):=by rw [List.getElem?_map,(qc9 y).2.1];rfl
  simp only [opFn,r,hp',hx,Ju,AS.blk,hb,Nat.beq_refl,a];rw [qq (by simp [c,b]),qr w,o,qeb];simp only [hs,List.map_set,AS.setBlk];rfl
theorem qm6 {α : Type} {x : Operand} {a : TypeId} {i : TI} {es : Nat} {xs : List α} {enc : α→List DV} (j : Qt ops ⟨sl,hp,nx⟩ ⟨some t,.call {callee:=.builtin .len,args:=#[x],argTypes:=#[a]},ty,pos,af,g⟩ = some true) (c : T a = some i) (b : i.kind = .slice) (f : AS.ev ⟨sl,hp,nx⟩ x = some (.d (.sl es (xs.map enc))))
    (h : OpsK P T base ops dr l ⟨(t,.d (.int .i64 (xs.length : Int)))::sl,hp,nx⟩ K) : OpsK P T base ops dr (⟨some t,.call {callee:=.builtin .len,args:=#[x],argTypes:=#[a]},ty,pos,af,g⟩::l) ⟨sl,hp,nx⟩ K:=
  quw j c b f qd h
theorem Kt {α : Type} {x y : Operand} {a c : TypeId} {i j : TI} {n es len : Nat} {xs ys zs : List α} {enc : α→List DV} (k : V) (d : app i.ebytes xs ys = some zs) (b : len = xs.length) (hg : Qt ops ⟨sl,hp,nx⟩ ⟨some t,.call {callee:=.builtin .append,args:=#[x,y],argTypes:=#[a,c]},ty,pos,af,g⟩ = some true)
    (r : T a = some i) (f : T c = some j) (v : AS.ev ⟨sl,hp,nx⟩ x = some (.hs n es 0 len)) (q : AS.ev ⟨sl,hp,nx⟩ y = some k) (hb : find hp n = some (.dat es (xs.map enc))) (z : Yx ⟨sl,hp,nx⟩ k = some (ys.map enc))
    (w : i.kind = .slice) (m : j.kind = .slice) (s : es = i.esize) (o : J5 i.esize k = true)
    (h : OpsK P T base ops dr l ⟨(t,.hs nx es 0 zs.length)::sl,(nx,.dat es (zs.map enc))::repl hp n .dead,nx + 1⟩ K) (u : okF dr l.length (fp ⟨sl,hp,nx⟩ (.call {callee:=.builtin .append,args:=#[x,y],argTypes:=#[a,c]})) = true:=by rfl) : OpsK P T base ops dr (⟨some t,.call {callee:=.builtin .append,args:=#[x,y],argTypes:=#[a,c]},ty,pos,af,g⟩::l) ⟨sl,hp,nx⟩ K:=by
  subst b;unfold app at d;split at d
  · rename_i p;cases d;refine qun hg r f v q hb qd z w m s o (by simpa [Nat.mul_assoc] using p) ?_ u;grind
  · cases d
theorem Kq {α : Type} {n es len : Nat} {ys : List α} {enc : α→List DV} (a : len = ys.length) (hb : find hp n = some (.dat es (ys.map enc))) : Yx ⟨sl,hp,nx⟩ (.hs n es 0 len) = some (ys.map enc):=by
  subst a;simp only [Yx,AS.blk,hb];grind
theorem qv4 {α : Type} {x : Operand} {f : TypeId} {lo hi : Option Operand} {i : TI} {es : Nat} {a b : Int} {xs zs : List α} {enc : α→List DV} (c : slc xs a b = some zs) (r : Qt ops ⟨sl,hp,nx⟩ ⟨some t,.slice f x lo hi none,ty,pos,af,g⟩ = some true) (n : T f = some i) (p : i.kind = .slice) (o : es = i.esize)
    (q : AS.ev ⟨sl,hp,nx⟩ x = some (.d (.sl es (xs.map enc)))) (j : 0≤a→bound ⟨sl,hp,nx⟩ 0 lo = some a.toNat) (k : 0≤b→bound ⟨sl,hp,nx⟩ xs.length hi = some b.toNat)
    (h : OpsK P T base ops dr l ⟨(t,.d (.sl es (zs.map enc)))::sl,hp,nx⟩ K) : OpsK P T base ops dr (⟨some t,.slice f x lo hi none,ty,pos,af,g⟩::l) ⟨sl,hp,nx⟩ K:=by
  unfold slc at c;split at c
  · rename_i m;cases c;refine Ya r (v:=.d (.sl es ((((xs.drop a.toNat).take (b.toNat - a.toNat))).map enc))) (st1:=⟨sl,hp,nx⟩) ?_ h (Jo rfl);simp only [opFn,n,q,p,lenV,List.length_map,j m.1,k q0,qa1];rw [qr ⟨trivial,rfl⟩];rw [qr ⟨q0,by simp;omega,o⟩];simp
  · cases c
theorem q5k {o : Operand} {k : IntKind} {a : Int} {d : Nat} {st : AS} (h : st.ev o = some (.d (.int k a))) (b : 0≤a) : bound st d (some o) = some a.toNat:=by
  simp [bound,h,b]
theorem q9i {x : Operand} {d : TypeId} {lo hi : Option Operand} {i : TI} {n es len : Nat} {a b : Int} {w : Nat × Nat} (c : sub2 len a b = some w) (q : Qt ops ⟨sl,hp,nx⟩ ⟨some t,.slice d x lo hi none,ty,pos,af,g⟩ = some true) (m : T d = some i) (o : i.kind = .slice) (r : es = i.esize)
    (p : AS.ev ⟨sl,hp,nx⟩ x = some (.hs n es 0 len)) (f : 0≤a→bound ⟨sl,hp,nx⟩ 0 lo = some a.toNat) (j : 0≤b→bound ⟨sl,hp,nx⟩ len hi = some b.toNat)
    (h : OpsK P T base ops dr l ⟨(t,.hs n es w.1 w.2)::sl,hp,nx⟩ K) : OpsK P T base ops dr (⟨some t,.slice d x lo hi none,ty,pos,af,g⟩::l) ⟨sl,hp,nx⟩ K:=by
  unfold sub2 at c;split at c
  · rename_i k;cases c;refine Ya q (v:=.hs n es a.toNat (b.toNat - a.toNat)) (st1:=⟨sl,hp,nx⟩) ?_ h (Jo rfl);simp only [opFn,m,p,o,lenV,f k.1,j q0,qa1];grind
  · cases c
theorem qb8 {n : Nat} {a b : Int} {w : Nat × Nat} (h : sub2 n a b = some w) : w.1 + w.2≤n:=by
  unfold sub2 at h;grind
theorem q12v {α β : Type} (f : α→β) (xs ys : List α) (j : Nat) : splice (xs.map f) j (ys.map f) = (splice xs j ys).map f:=by
  simp [splice,List.map_take,List.map_drop]
theorem qur {α : Type} {x y : Operand} {a b : TypeId} {i j : TI} {n es : Nat} {w : Nat × Nat} {xs ys : List α} {enc : α→List DV} (f : V) (u : w.1 + w.2≤xs.length) (hg : Qt ops ⟨sl,hp,nx⟩ ⟨some t,.call {callee:=.builtin .copy,args:=#[x,y],argTypes:=#[a,b]},ty,pos,af,g⟩ = some true)
    (p : T a = some i) (c : T b = some j) (hx : AS.ev ⟨sl,hp,nx⟩ x = some (.hs n es w.1 w.2)) (o : AS.ev ⟨sl,hp,nx⟩ y = some f) (hb : find hp n = some (.dat es (xs.map enc))) (z : Yx ⟨sl,hp,nx⟩ f = some (ys.map enc))
    (s : i.kind = .slice) (k : j.kind = .slice) (q : es = i.esize) (m : J5 i.esize f = true)
    (h : OpsK P T base ops dr l ⟨(t,.d (.int .i64 (min ys.length w.2 : Nat)))::sl,repl hp n (.dat es ((cpyw xs w ys).map enc)),nx⟩ K) (r : okO dr l.length ⟨sl,hp,nx⟩ (.call {callee:=.builtin .copy,args:=#[x,y],argTypes:=#[a,b]}) ⟨sl,repl hp n (.dat es ((cpyw xs w ys).map enc)),nx⟩ = true:=by rfl) : OpsK P T base ops dr (⟨some t,.call {callee:=.builtin .copy,args:=#[x,y],argTypes:=#[a,b]},ty,pos,af,g⟩::l) ⟨sl,hp,nx⟩ K:=by
  refine Ya hg (v:=.d (.int .i64 (min ys.length w.2 : Nat))) (st1:=⟨sl,repl hp n (.dat es ((cpyw xs w ys).map enc)),nx⟩) ?_ h r;simp only [opFn,evL,hx,o,Y5];simp only [List.getElem?_toArray,List.getElem?_cons_zero,List.getElem?_cons_succ,p,c];rw [qr ⟨s,k,by simp [J5,q],m⟩];simp only [copyV,AS.blk,hb,z];rw [qr ⟨by simpa using u,trivial⟩];simp only [List.length_map,cpyw,← List.map_take,q12v,AS.setBlk]
theorem qrx {α : Type} {n es : Nat} {w : Nat × Nat} {ys : List α} {enc : α→List DV} (a : w.1 + w.2≤ys.length) (hb : find hp n = some (.dat es (ys.map enc))) : Yx ⟨sl,hp,nx⟩ (.hs n es w.1 w.2) = some (((ys.drop w.1).take w.2).map enc):=by
  simp only [Yx,AS.blk,hb];simp_all
theorem Ur {k k' : IntKind} {a b : Int} {r : List V} : minI false (.d (.int k a)) (.d (.int k' b)::r) = minI false (.d (.int k (min a b))) r:=by
  simp only [minI];grind
theorem Uq {k k' : IntKind} {a b : Int} {r : List V} : minI true (.d (.int k a)) (.d (.int k' b)::r) = minI true (.d (.int k (max a b))) r:=by
  simp only [minI];grind
theorem Ut {xs : Array Operand} {ats : Array TypeId} {b : List V} {k : IntKind} {a : Int} {r : Int} (j : Qt ops ⟨sl,hp,nx⟩ ⟨some t,.call {callee:=.builtin .min,args:=xs,argTypes:=ats},ty,pos,af,g⟩ = some true) (f : evL (AS.ev ⟨sl,hp,nx⟩) xs.toList = some (.d (.int k a)::b)) (c : minI false (.d (.int k a)) b = some (.d (.int k r)))
    (h : OpsK P T base ops dr l ⟨(t,.d (.int k r))::sl,hp,nx⟩ K) : OpsK P T base ops dr (⟨some t,.call {callee:=.builtin .min,args:=xs,argTypes:=ats},ty,pos,af,g⟩::l) ⟨sl,hp,nx⟩ K:=
  Ya j (v:=.d (.int k r)) (st1:=⟨sl,hp,nx⟩) (by simp [opFn,f,Y5,c]) h (Jo rfl)
theorem Us {xs : Array Operand} {ats : Array TypeId} {b : List V} {k : IntKind} {a : Int} {r : Int} (j : Qt ops ⟨sl,hp,nx⟩ ⟨some t,.call {callee:=.builtin .max,args:=xs,argTypes:=ats},ty,pos,af,g⟩ = some true) (f : evL (AS.ev ⟨sl,hp,nx⟩) xs.toList = some (.d (.int k a)::b)) (c : minI true (.d (.int k a)) b = some (.d (.int k r)))
    (h : OpsK P T base ops dr l ⟨(t,.d (.int k r))::sl,hp,nx⟩ K) : OpsK P T base ops dr (⟨some t,.call {callee:=.builtin .max,args:=xs,argTypes:=ats},ty,pos,af,g⟩::l) ⟨sl,hp,nx⟩ K:=
  Ya j (v:=.d (.int k r)) (st1:=⟨sl,hp,nx⟩) (by simp [opFn,f,Y5,c]) h (Jo rfl)
theorem q25 {c : Call} {f : FuncId} {ds : List DV} {r : DV} (a : List V) (b : Pure P T f ds r) (m : Qt ops ⟨sl,hp,nx⟩ ⟨some t,.call c,ty,pos,af,g⟩ = some true) (k : callee ⟨sl,hp,nx⟩ c = some (f,a)) (hd : Ko hp a = some ds)
    (hs : (a.all V.isD = true∨r.scalar = true)) (h : OpsK P T base ops dr l ⟨(t,.d r)::sl,hp,nx⟩ K) (j : okF dr l.length (fpC a) = true:=by rfl) : OpsK P T base ops dr (⟨some t,.call c,ty,pos,af,g⟩::l) ⟨sl,hp,nx⟩ K:=
  qm2 m rfl k hd hs b h j
theorem Zw {hp : List (Nat × Blk)} {v : V} {d : DV} {a : List V} {ds : List DV} (h : toD hp 8 v = some d) (b : Ko hp a = some ds) : Ko hp (v::a) = some (d::ds):=by
  simp [Ko,h,b]
theorem Z9 {α : Type} {k n es len : Nat} {ys : List α} {enc : α→List DV} (a : len = ys.length) (hb : find hp n = some (.dat es (ys.map enc))) : toD hp (k + 1) (.hs n es 0 len) = some (.sl es (ys.map enc)):=by
  subst a;simp only [toD,hb];grind
theorem q8m {k : Nat} {a : List V} {ds : List DV} (h : Zi (toD hp k) a = some ds) : toD hp (k + 1) (.tup a) = some (.tup ds):=by simp [toD,h]
theorem q13g {k : Nat} {f : FuncId} {a : List V} {ds : List DV} (h : Zi (toD hp k) a = some ds) : toD hp (k + 1) (.fn f a) = some (.fn f ds):=by simp [toD,h]
theorem Jn {k : Nat} {v : V} {d : DV} {a : List V} {ds : List DV} (h : toD hp k v = some d) (b : Zi (toD hp k) a = some ds) : Zi (toD hp k) (v::a) = some (d::ds):=by simp [Zi,h,b]
inductive DLeL : List DV→List DV→Prop
  | nil : DLeL [] []
  | cons {x y : DV} {xs ys : List DV} : DLe x y→DLeL xs ys→DLeL (x::xs) (y::ys)
theorem DLeL.len {xs ys : List DV} (h : DLeL xs ys) : xs.length = ys.length:=by
  induction h with
  | nil=>rfl
  | cons _ _ ih=>simp [ih]
theorem DLeL.get {xs ys : List DV} (h : DLeL xs ys) : ∀ (i : Nat) (x y : DV),xs[i]? = some x→ys[i]? = some y→DLe x y:=by
  induction h with
  | nil=>intro i x y h;simp at h
  | cons h1 _ ih=>grind
theorem Yq {xs ys : List DV} (h : DLeL xs ys) : DLe (.tup xs) (.tup ys):=.tup h.len h.get
theorem finD {ex : Ex} {st : AS} {b : List ResultVar} {v : V} {r a : DV} (f : ex = .nor∨ex = .ret) (c : resV T st b = some v) (d : toD st.hp 8 v = some a) (g : DLe a r) : (ex = .nor∨ex = .ret)∧∃ v a,resV T st b = some v∧toD st.hp 8 v = some a∧DLe a r:=
  ⟨f,v,a,c,d,g⟩
end
theorem qpm {α : Type} {st : AS} {ρ : Nat→Nat} {fz ph : List Nat} {nx n es len : Nat} {ys : List α} {enc : α→List DV} (b : len = ys.length) (hb : st.blk n = some (.dat es (ys.map enc))) (a : n∈fz) : Wv st ρ fz ph nx (.hs n es 0 len) (.d (.sl es (ys.map enc))):=by
  subst b;exact .frz hb a qd (by rw [List.drop_zero,List.take_of_length_le qd]) rfl
theorem K6 {st : AS} {ρ : Nat→Nat} {fz ph : List Nat} {nx n m es o l l' : Nat} (d : l = l') (c : ρ m = n) (a : m ∉ ph) (b : m < nx) : Wv st ρ fz ph nx (.hs n es o l) (.hs m es o l'):=d ▸ .hs c a b
inductive WvC (st : AS) (ρ : Nat→Nat) (fz ph : List Nat) (nx : Nat) : List V→List V→Prop
  | nil : WvC st ρ fz ph nx [] []
  | cons {c d : V} {cs ds : List V} : Wv st ρ fz ph nx c d→Kh d = true→WvC st ρ fz ph nx cs ds→WvC st ρ fz ph nx (c::cs) (d::ds)
theorem WvC.len {st : AS} {ρ : Nat→Nat} {fz ph : List Nat} {nx : Nat} {cs ds : List V} (h : WvC st ρ fz ph nx cs ds) : cs.length = ds.length:=by
  induction h with
  | nil=>rfl
  | cons _ _ _ ih=>simp [ih]
theorem WvC.get {st : AS} {ρ : Nat→Nat} {fz ph : List Nat} {nx : Nat} {cs ds : List V} (h : WvC st ρ fz ph nx cs ds) : ∀ (j : Nat) (c d : V),cs[j]? = some c→ds[j]? = some d→Wv st ρ fz ph nx c d∧Kh d = true:=by
  induction h with
  | nil=>intro i x y h;simp at h
  | cons h1 h2 _ ih=>grind
theorem Jv {st : AS} {ρ : Nat→Nat} {fz ph : List Nat} {nx es : Nat} {cs ds : List V} (h : WvC st ρ fz ph nx cs ds) : Wb st ρ fz ph nx (.cel es [cs]) (.cel es [ds]):=by
  refine .cel rfl fun i x y a b=>?_
  cases i with
  | zero=>simp at a b;subst a b;exact ⟨h.len,h.get⟩
  | succ i=>simp at a
theorem qhr {st : AS} {ρ : Nat→Nat} {fz ph : List Nat} {nx es : Nat} {cs : List DV} {ds : List V} (h : WvC st ρ fz ph nx (cs.map .d) ds) : Wb st ρ fz ph nx (.dat es [cs]) (.cel es [ds]):=by
  refine .datcel rfl fun i x y a b=>?_
  cases i with
  | zero=>
    simp at a b;subst a b;exact ⟨by simpa using h.len,fun j c d f hd=>h.get j (.d c) d (by simp [f]) hd⟩
  | succ i=>simp at a
inductive WvL (st : AS) (ρ : Nat→Nat) (fz ph : List Nat) (nx : Nat) : List V→List V→Prop
  | nil : WvL st ρ fz ph nx [] []
  | cons {c d : V} {cs ds : List V} : Wv st ρ fz ph nx c d→WvL st ρ fz ph nx cs ds→WvL st ρ fz ph nx (c::cs) (d::ds)
theorem WvL.len {st : AS} {ρ : Nat→Nat} {fz ph : List Nat} {nx : Nat} {cs ds : List V} (h : WvL st ρ fz ph nx cs ds) : cs.length = ds.length:=by
  induction h with
  | nil=>rfl
  | cons _ _ ih=>simp [ih]
theorem WvL.get {st : AS} {ρ : Nat→Nat} {fz ph : List Nat} {nx : Nat} {cs ds : List V} (h : WvL st ρ fz ph nx cs ds) : ∀ (j : Nat) (c d : V),cs[j]? = some c→ds[j]? = some d→Wv st ρ fz ph nx c d:=by
  induction h with
  | nil=>intro i x y h;simp at h
  | cons h1 _ ih=>grind
theorem q2p {st : AS} {ρ : Nat→Nat} {fz ph : List Nat} {nx : Nat} {f : FuncId} {cs ds : List V} (h : WvL st ρ fz ph nx cs ds) : Wv st ρ fz ph nx (.fn f cs) (.fn f ds):=.fn h.len h.get
theorem qhu {st : AS} {ρ : Nat→Nat} {fz ph : List Nat} {nx : Nat} {cs ds : List V} (h : WvL st ρ fz ph nx cs ds) : Wv st ρ fz ph nx (.tup cs) (.tup ds):=.tup h.len h.get
theorem q146 {st : AS} {ρ : Nat→Nat} {fz ph : List Nat} {nx : Nat} {cs : List DV} {ds : List V} (h : WvL st ρ fz ph nx (cs.map .d) ds) : Wv st ρ fz ph nx (.d (.tup cs)) (.tup ds):=
  .dtup (by have:=h.len;simpa using this) fun i c d a hd=>h.get i _ d (by simp [a]) hd
theorem q145 {st : AS} {ρ : Nat→Nat} {fz ph : List Nat} {nx : Nat} {cs : List DV} {ds : List V} (h : WvL st ρ fz ph nx (cs.map .d) ds) : Wv st ρ fz ph nx (.d (.agg cs)) (.agg ds):=
  .dagg (by have:=h.len;simpa using this) fun i c d a hd=>h.get i _ d (by simp [a]) hd
theorem qe0 {st : AS} {ρ : Nat→Nat} {fz ph : List Nat} {nx : Nat} {cs ds : List V} (h : WvL st ρ fz ph nx cs ds) : Wv st ρ fz ph nx (.agg cs) (.agg ds):=.agg h.len h.get
theorem qjz {P : Program} {T : Tab} {f : FuncId} {ds a : List DV} (j : DLeL a ds) {o : List V} {hp hp' : List (Nat × Blk)} {nx nx' : Nat} {v : V} : K8 P T f o hp nx v hp' nx'→o = ds.map .d→hp = []→nx = 0→K8 P T f (a.map .d) [] 0 v hp' nx'
  | .wk e w,g,hh,hn=>by
    have h:=qjz j e g hh hn
    subst hh hn
    exact .wk h w
  | .mk h1 h2 h3 h4 h5 h6 h7 h8,g,hh,hn=>by
    subst g hh hn
    refine .mk h1 h2 h3 h4 (by simpa [j.len] using h5) (.wk (ρ:=fun n=>n) (fz:=[]) (ph:=[]) ⟨?_,?_,?_,?_,?_,?_,?_,?_⟩ h6) h7 h8
    · intro t p g
      simp only [AS.get,qbm] at g ⊢
      simp only [Nat.zero_le,if_true,Nat.sub_zero,List.getElem?_map,Y6] at g ⊢
      obtain ⟨y,k,rfl⟩:=g
      obtain ⟨x,l⟩:=Zr (xs:=a) (i:=t) (by rw [j.len];exact Kc k)
      exact ⟨_,⟨x,l,rfl⟩,.d (j.get t x y l k)⟩
    · intro n b h;simp [AS.blk,find] at h
    · intro n m b c h;simp [AS.blk,find] at h
    · intro n b h;simp [AS.blk,find] at h
    · intro n h;rfl
    · exact Nat.le_refl _
    · intro n h;cases h
    · intro n h;cases h
theorem q6i {P : Program} {T : Tab} {f : FuncId} {ds a : List DV} {r : DV} (c : DLeL a ds) (h : Pure P T f ds r) : Pure P T f a r:=by
  obtain ⟨v,hp,nx,d,e,g,b⟩:=h;exact ⟨v,hp,nx,d,qjz c e rfl rfl rfl,g,b⟩
end Go.Am
namespace Go.Sh
open Go Go.Am
theorem Qx {α : Type} {xs : List α} {k : Nat} (h : k < xs.length) : idx xs (k : Int) = some xs[k]:=by simp [idx,h]
theorem Jh {α : Type} {xs : List α} {i : Int} {k : Nat} (hi : i = k) (h : k < xs.length) : idx xs i = some xs[k]:=by subst hi;exact Qx h
theorem Y4 {α : Type} {c : Nat} {xs ys : List α} (h : (xs.length + ys.length) * (c * 4)≤4294967296) : app c xs ys = some (xs ++ ys):=by simp [app,h]
theorem qrs {α : Type} {c : Bool} {a b : α} : (cond c (some a) (some b)) = some (cond c a b):=by cases c <;> rfl
theorem Zz {α β σ : Type} {f : α→Option (α ⊕ β)} (mk : Nat→σ→α) (n : Nat) (I : Nat→σ→Prop) (Q : β→Prop)
    (step : ∀ k c,k < n→I k c→(∃ g,f (mk k c) = some (.inl (mk (k + 1) g))∧I (k + 1) g)∨∃ b,f (mk k c) = some (.inr b)∧Q b)
    (done : ∀ c,I n c→∃ b,f (mk n c) = some (.inr b)∧Q b) {k0 : Nat} {c0 : σ} (h : k0≤n) (l : I k0 c0) : ∃ b,loop f (mk k0 c0) = some b∧Q b:=by
  have key : ∀ m k c,n - k = m→k≤n→I k c→∃ b,loop f (mk k c) = some b∧Q b:=by
    intro m
    induction m with
    | zero=>
      intro k c j h hi;obtain rfl : k = n:=by omega
      obtain ⟨b,d,a⟩:=done c hi;exact ⟨b,Kn d,a⟩
    | succ m ih=>
      intro k c j h hi;rcases step k c q0 hi with ⟨g,d,a⟩ | ⟨b,d,a⟩
      · rw [Y9 d];exact ih (k + 1) g q0 q0 a
      · exact ⟨b,Kn d,a⟩
  exact key _ k0 c0 rfl h l
def I64 (x : Int) : Prop:=-9223372036854775808≤x∧x≤9223372036854775807
end Go.Sh
namespace Go.Am
open Go
theorem q14n {k : IntKind} {d : DV} (h : Ty (.int k) d) : ∃ n : Int,d = .int k n∧(Lit.int k n).wf = true:=by
  cases h with | int hw=>exact ⟨_,rfl,hw⟩
def q8p (l : List CT) (x : List DV) : Prop:=x.length = l.length∧∀ (j : Nat) (c : CT) (d : DV),l[j]? = some c→x[j]? = some d→Ty c d
theorem q14i {x : List DV} (h : q8p [] x) : x = []:=List.length_eq_zero_iff.1 h.1
theorem q14h {c : CT} {l : List CT} {x : List DV} (h : q8p (c::l) x) : ∃ d r,x = d::r∧Ty c d∧q8p l r:=by
  obtain ⟨b,a⟩:=h
  cases x with
  | nil=>simp at b
  | cons d r=>exact ⟨d,r,rfl,a 0 c d rfl rfl,by simpa using b,fun j g k f hd=>a (j + 1) g k (by simpa using f) (by simpa using hd)⟩
theorem q14o {α : Type} {l : List CT} {enc : α→List DV} {wf : α→Prop} (row : ∀ x,q8p l x→∃ a,x = enc a∧wf a) {d : DV} (h : Ty (.sl l) d) : ∃ xs : List α,DLe d (.sl l.length (xs.map enc))∧(∀ x∈xs,wf x)∧xs.length≤maxLen:=by
  cases h with
  | nil=>exact ⟨[],.nil _,qd,qd⟩
  | @sl _ xs hl h1 h2=>
    have key : ∀ ys : List (List DV),(∀ y∈ys,q8p l y)→∃ zs : List α,ys = zs.map enc∧∀ z∈zs,wf z:=by
      intro ys
      induction ys with
      | nil=>intro _;exact ⟨[],rfl,qd⟩
      | cons y ys ih=>
        intro f;obtain ⟨a,rfl,g⟩:=row y (f y qd);obtain ⟨zs,rfl,b⟩:=ih fun z b=>f z (by simp [b]);exact ⟨a::zs,rfl,by simpa using ⟨g,b⟩⟩
    obtain ⟨zs,rfl,b⟩:=key xs fun y f=>by
      obtain ⟨i,hi⟩:=List.getElem?_of_mem f;exact ⟨h1 i y hi,fun j c d k hd=>h2 i y j c d hi k hd⟩
    exact ⟨zs,.refl _,b,by simpa using hl⟩
theorem q14p {n : Int} (h : (Lit.int .i64 n).wf = true) : -9223372036854775808≤n∧n≤9223372036854775807:=by
  simp [Lit.wf,IntKind.min,IntKind.max,IntKind.signed,IntKind.bits] at h;omega
theorem q14b {xs : List DV} (h : q10 [] xs) : xs = []:=by cases h;rfl
theorem q14c {c : CT} {a : List (Bool × List CT)} {xs : List DV} (h : q10 ((false,[c])::a) xs) : ∃ d r,xs = d::r∧Ty c d∧q10 a r:=by
  cases h with | one h1 h2=>exact ⟨_,_,rfl,h1,h2⟩
end Go.Am
