/- Am26 Am27 Am28 Am29 Am30 Am31 Lf1 Lf2 -/
import Derived.Test.YtmekakoiicomaaaGreatK5
import Derived.ProofKit
import Derived.OpenShut
import Derived.Deep.Slices
namespace Go.Am
open Go
variable {P : Program} {T : Tab}
def wpL (F : Fence) (P : Program) (c : Code) (Q : Exit→Act→World→Prop) (a : Act) (w : World) : Prop:=
  ∀ (b : Frame) (k : List Item) (cs : List Frame),b.roundOf = F.round→F.fn b.fn→F.room (cs.length + 1 + 0)→
    ∃ e a' w',Q e a' w'∧ArrivesIn (Machine.fenced P F) P (lone (b.atR a (.code c::.inLoop c::k)) cs w) b k cs e a' w'
theorem qqg {F : Fence} {c : Code} {Q : Exit→Act→World→Prop} {a : Act} {w : World} (h : c.wpIn F 0 P (Exit.then (wpL F P c Q) Q) a w) : wpL F P c Q a w:=by
  intro b k cs m hb p;obtain ⟨e,n,j,g,d⟩:=h b (.inLoop c::k) cs m hb p
  cases e with
  | normal=>
    obtain ⟨q,r,s,o,f⟩:=g b k cs m hb p;exact ⟨q,r,s,o,.of_steps (StepsIn.trans d (.one (fenced_calm hb p rfl) stepR_inLoop)) f⟩
  | exit id=>exact ⟨_,n,j,g,.pass (x:=.inLoop c) rfl (fun _ _=>.inl qg) d⟩
  | goto l=>exact ⟨_,n,j,g,.pass (x:=.inLoop c) rfl (fun _ _=>.inl qg) d⟩
  | ret=>exact ⟨_,n,j,g,.pass (x:=.inLoop c) rfl (fun _ _=>.inl qg) d⟩
  | panic ch=>exact ⟨_,n,j,g,.pass (x:=.inLoop c) rfl (fun _ _=>.inl qg) d⟩
  | outgrown=>exact ⟨_,n,j,g,.pass (x:=.inLoop c) rfl (fun _ _=>.inl qg) d⟩
theorem q178 {F : Fence} {c : Code} {Q : Exit→Act→World→Prop} {a : Act} {w : World} (h : wpL F P c Q a w) : (Code.loop c).wpIn F 0 P Q a w:=by
  intro b k cs f hb g;obtain ⟨e,a',w',j,d⟩:=h b k cs f hb g;exact ⟨e,a',w',j,.of_steps (.one (fenced_calm hb g rfl) stepR_loop) d⟩
theorem qqf {F : Fence} {c : Code} {Q d : Exit→Act→World→Prop} {a : Act} {w : World} (h : wpL F P c Q a w) (f : ∀ e a w,Q e a w→d e a w) : wpL F P c d a w:=
  fun b k cs j g l=>let ⟨e,a',w',q,r⟩:=h b k cs j g l;⟨e,a',w',f _ _ _ q,r⟩
def CP (base : Nat) (w : World) (Z : Nat→Prop) (inj : Inj) (st : AS) (a : Act) (Ds : List Nat) (ex : Ex) (st' : AS) (e : Exit) (a' : Act) (w' : World) : Prop:=e = toE ex∧Y2 base w Z inj st a Ds st' a' w'
def Kx (P : Program) (base : Nat) (c : Code) (st : AS) (ex : Ex) (st' : AS) : Prop:=
  ∀ (ro : Option Nat) (w : World) (Z : Nat→Prop) (inj : Inj) (a : Act) (Ds : List Nat),RelS w Z inj st a Ds→codeOk a.tmps.size c = true→base≤st.nx→Yn ro w→
    c.wpIn (Fw ro) 0 P (CP base w Z inj st a Ds ex st') a w∧∀ d,c = .loop d→wpL (Fw ro) P d (CP base w Z inj st a Ds ex st') a w
section
variable {base : Nat} {st st1 st2 : AS} {ex : Ex}
theorem Jr {c : Code} (k : ∀ d,c≠.loop d) (h : ∀ (ro : Option Nat) (w : World) (Z : Nat→Prop) (inj : Inj) (a : Act) (Ds : List Nat),RelS w Z inj st a Ds→codeOk a.tmps.size c = true→base≤st.nx→Yn ro w→
    c.wpIn (Fw ro) 0 P (CP base w Z inj st a Ds ex st1) a w) : Kx P base c st ex st1:=
  fun ro w Z inj a Ds j b f g=>⟨h ro w Z inj a Ds j b f g,fun d hd=>absurd hd (k d)⟩
theorem Y2.round {w : World} {Z : Nat→Prop} {inj : Inj} {a : Act} {Ds : List Nat} {a' : Act} {w' : World} {ro : Option Nat} (h : Y2 base w Z inj st a Ds st1 a' w') (b : Yn ro w) : Yn ro w':=by
  obtain ⟨_,_,_,_,e,_⟩:=h;exact b.ext e
theorem qs6 : Kx P base .skip st .nor st:=
  Jr qg fun ro w Z inj a Ds h _ hb _=>wpIn_skip ⟨rfl,Y2.refl h hb⟩
theorem qrv {id : Nat} : Kx P base (.exit id) st (.exit id) st:=
  Jr qg fun ro w Z inj a Ds h _ hb _=>wpIn_exit ⟨rfl,Y2.refl h hb⟩
theorem qs2 : Kx P base .ret st .ret st:=
  Jr qg fun ro w Z inj a Ds h _ hb _=>wpIn_ret ⟨rfl,Y2.refl h hb⟩
theorem qs4 {a b : Code} (n : Kx P base a st .nor st1) (m : Kx P base b st1 ex st2) : Kx P base (.seq a b) st ex st2:=by
  refine Jr qg fun ro w Z inj act Ds h c hb j=>wpIn_seq (wpIn_mono (n ro w Z inj act Ds h ?_ hb j).1 ?_)
  · simp only [codeOk,Bool.and_eq_true] at c;exact c.1
  · rintro e a' w' ⟨rfl,hp⟩;refine hp.bind fun Z' inj' l k d f _ g=>?_;refine wpIn_mono (m ro w' Z' inj' a' l k ?_ f (hp.round j)).1 ?_
    · simp only [codeOk,Bool.and_eq_true] at c;rw [d];exact c.2
    · rintro e o p ⟨rfl,hp2⟩;exact ⟨rfl,g _ _ _ hp2⟩
theorem qs5 {a b : Code} (g : Kx P base a st ex st1) (f : ex≠.nor) : Kx P base (.seq a b) st ex st1:=by
  refine Jr qg fun ro w Z inj act Ds h c hb d=>wpIn_seq (wpIn_mono (g ro w Z inj act Ds h ?_ hb d).1 ?_)
  · simp only [codeOk,Bool.and_eq_true] at c;exact c.1
  · rintro e a' w' ⟨rfl,hp⟩
    cases ex with
    | nor=>exact absurd rfl f
    | exit id=>exact ⟨rfl,hp⟩
    | ret=>exact ⟨rfl,hp⟩
theorem qru {c : Operand} {a b : Code} (k : st.ev c = some (.d (.bool true))) (j : Kx P base a st ex st1) : Kx P base (.cond c a b) st ex st1:=by
  refine Jr qg fun ro w Z inj act Ds h f hb g=>wpIn_cond_true ?_ (j ro w Z inj act Ds h ?_ hb g).1
  · have:=Ki h k;generalize act.eval c = x at this
    cases this with | d this=>cases this;rfl
  · simp only [codeOk,Bool.and_eq_true] at f;exact f.1
theorem qrt {c : Operand} {a b : Code} (k : st.ev c = some (.d (.bool false))) (j : Kx P base b st ex st1) : Kx P base (.cond c a b) st ex st1:=by
  refine Jr qg fun ro w Z inj act Ds h f hb g=>wpIn_cond_false ?_ (j ro w Z inj act Ds h ?_ hb g).1
  · have:=Ki h k;generalize act.eval c = x at this
    cases this with | d this=>cases this;rfl
  · simp only [codeOk,Bool.and_eq_true] at f;exact f.2
theorem qrs {id : Nat} {a : Code} (d : Kx P base a st ex st1) : Kx P base (.block id a) st (ex.block id) st1:=by
  refine Jr qg fun ro w Z inj act Ds h c hb b=>wpIn_block (wpIn_mono (d ro w Z inj act Ds h c hb b).1 ?_);rintro e a' w' ⟨rfl,hp⟩
  cases ex with
  | nor=>exact ⟨rfl,hp⟩
  | ret=>exact ⟨rfl,hp⟩
  | exit i=>
    by_cases hi : i = id
    · simp only [toE,Exit.inBlock,hi,if_true,Ex.block];exact ⟨rfl,hp⟩
    · simp only [toE,Exit.inBlock,hi,if_false,Ex.block];exact ⟨rfl,hp⟩
theorem qrw {l : Nat} : Kx P base (.label l) st .nor st:=
  Jr qg fun ro w Z inj a Ds h _ hb _=>wpIn_label ⟨rfl,Y2.refl h hb⟩
theorem qs3 {a : Code} (r : Kx P base a st ex st1) : Kx P base (.scope a) st ex st1:=by
  refine Jr qg fun ro w Z inj act Ds h p hb o=>?_;intro b k cs g d m;have j : ∀ {f : Act} {w0 : World},step P (lone (b.atR f (.code (.scope a)::k)) cs w0) = .next (lone (b.atR f (.code a::.inScope a::k)) cs w0):=step_lone_go (by simp [stepG,stepG.exec,Frame.atR]);have u : ∀ {f : Act} {w0 : World},step P (lone (b.atR f (.inScope a::k)) cs w0) = .next (lone (b.atR f k) cs w0):=step_lone_go (by simp [stepG,stepG.exec,Frame.atR]);have l : (lone (b.atR act (.code (.scope a)::k)) cs w).fenced P (Fw ro):=fenced_calm d m rfl;obtain ⟨e,v,t,s,c⟩:=(r ro w Z inj act Ds h p hb o).1 b (.inScope a::k) cs g d m;refine ⟨e,v,t,s,?_⟩;obtain ⟨rfl,_⟩:=s
  cases ex with
  | nor=>exact .head l j (StepsIn.trans c (.one (fenced_calm d m rfl) u))
  | exit id=>exact ⟨fun x q=>.head l j (c.1 x (by simp [exitTo,q])),fun n q=>let ⟨k₁,r,h2⟩:=c.2 n (by simp [exitTo,q]);⟨k₁,r,.head l j h2⟩⟩
  | ret=>exact .of_steps (.one l j) c
theorem qjw {a : Code} (h : ∀ (ro : Option Nat) (w : World) (Z : Nat→Prop) (inj : Inj) (act : Act) (Ds : List Nat),RelS w Z inj st act Ds→codeOk act.tmps.size (.loop a) = true→base≤st.nx→Yn ro w→
    wpL (Fw ro) P a (CP base w Z inj st act Ds ex st1) act w) : Kx P base (.loop a) st ex st1:=
  fun ro w Z inj act Ds g b c f=>⟨q178 (h ro w Z inj act Ds g b c f),fun d hd=>by cases hd;exact h ro w Z inj act Ds g b c f⟩
theorem qrx {a : Code} (m : Kx P base a st .nor st1) (l : Kx P base (.loop a) st1 ex st2) : Kx P base (.loop a) st ex st2:=by
  refine qjw fun ro w Z inj act Ds h g hb f=>qqg (wpIn_mono (m ro w Z inj act Ds h g hb f).1 ?_);rintro e a' w' ⟨rfl,hp⟩;refine hp.bind fun Z' inj' k j b c _ d=>?_;refine qqf ((l ro w' Z' inj' a' k j (by rw [b];exact g) c (hp.round f)).2 a rfl) ?_;rintro e n o ⟨rfl,hp2⟩;exact ⟨rfl,d _ _ _ hp2⟩
theorem qry {a : Code} (d : Kx P base a st ex st1) (f : ex≠.nor) : Kx P base (.loop a) st ex st1:=by
  refine qjw fun ro w Z inj act Ds h b hb c=>qqg (wpIn_mono (d ro w Z inj act Ds h b hb c).1 ?_);rintro e a' w' ⟨rfl,hp⟩
  cases ex with
  | nor=>exact absurd rfl f
  | exit id=>exact ⟨rfl,hp⟩
  | ret=>exact ⟨rfl,hp⟩
theorem qs7 {ρ : Nat→Nat} {fz ph : List Nat} {c : Code} (k : Wk base ρ fz ph st st1) (n : Kx P base c st1 ex st2) : Kx P base c st ex st2:=by
  intro ro w Z inj a Ds h j hb g;obtain ⟨f,t⟩:=q33 h k
  have b : ∀ e a' w',CP base w (wkZ Z inj st fz) (wkI inj ρ ph) st1 a Ds ex st2 e a' w'→CP base w Z inj st a Ds ex st2 e a' w':=by
    rintro e a' w' ⟨rfl,o,p,x,l,r,s,v,u⟩;exact ⟨rfl,o,p,x,l,t.trans r (Nat.le_refl _),s,v,u⟩
  obtain ⟨m,q⟩:=n ro w _ _ a Ds f j k.bs g;exact ⟨wpIn_mono m b,fun d hd=>qqf (q d hd) b⟩
theorem qsa {ops : Array Oper} {ro : Option Nat} {w0 : World} {Z0 : Nat→Prop} {inj0 : Inj} {d : AS} {k : Act} {Ds0 : List Nat} {Q : Exit→Act→World→Prop} {l : List Oper} {st st' : AS} (x : Zq P base ops l st st')
    (hd : ∀ o∈ops,Jt k.tmps.size o.dst = true) (q : ∀ a' w',Y2 base w0 Z0 inj0 d k Ds0 st' a' w'→Q .normal a' w') : ∀ (pre : List Oper) (a : Act) (w : World),ops.toList = pre ++ l→Y2 base w0 Z0 inj0 d k Ds0 st a w→Yn ro w→
    wpOpsIn (Fw ro) 0 P ops Q (List.range' pre.length l.length) a w:=by
  have one : ∀ {o : Oper} {l : List Oper} {st st1 st2 : AS},Jp P base ops o st st1→(∀ (pre : List Oper) (a : Act) (w : World),ops.toList = pre ++ l→Y2 base w0 Z0 inj0 d k Ds0 st1 a w→Yn ro w→wpOpsIn (Fw ro) 0 P ops Q (List.range' pre.length l.length) a w)→
      ∀ (pre : List Oper) (a : Act) (w : World),ops.toList = pre ++ o::l→Y2 base w0 Z0 inj0 d k Ds0 st a w→Yn ro w→wpOpsIn (Fw ro) 0 P ops Q (List.range' pre.length (o::l).length) a w:=by
    intro o l st st1 st2 hs m pre a w p hp c
    have r : ops[pre.length]? = some o:=by rw [← Array.getElem?_toList,p];simp
    rw [List.length_cons,List.range'_succ,wpOpsIn_cons]
    refine qin r ?_
    refine hp.bind fun Z' inj' f b g h _ j=>?_
    refine hs ro Q w Z' inj' a f _ b (by rw [g];exact hd o (Array.mem_of_getElem? r)) h c fun a' w' hp'=>?_
    have:=m (pre ++ [o]) a' w' (by rw [p];simp) (j _ _ _ hp') (hp'.round c)
    simpa using this
  induction x with
  | nil=>intro pre a w _ hp _;simpa [wpOpsIn] using q _ _ hp
  | cons hs _ m=>exact one (st2:=st) hs (m q)
  | wk hw _ m=>
    intro pre a w p hp c;refine m q pre a w p ?_ c;obtain ⟨Z',inj',f,t,s,v,y,u⟩:=hp;obtain ⟨b,n⟩:=q33 t hw;exact ⟨_,_,f,b,s.trans n (Nat.le_refl _),v,hw.bs,u⟩
theorem qs0 {id : Nat} {ops : Array Oper} (f : Zq P base ops ops.toList st st1) : Kx P base (.region id ops false) st .nor st1:=by
  refine Jr qg fun ro w Z inj a Ds h b hb c=>wpIn_region ?_
  have hd : ∀ o∈ops,Jt a.tmps.size o.dst = true:=by
    intro o d;simp only [codeOk,List.all_eq_true] at b;exact b o (by simpa using d)
  have:=qsa (Q:=CP base w Z inj st a Ds .nor st1) f hd (fun a' w' hp=>⟨rfl,hp⟩) [] a w rfl (Y2.refl h hb) c;rw [List.range_eq_range'];simpa using this
theorem qs1 {id : Nat} {ops : Array Oper} {F : List Fp} (d : P.follows .mixedOrders = true) (f : Ud P base ops F ops.toList st st1) (hd : q9e F ops = true) : Kx P base (.region id ops true) st .nor st1:=
  Jr qg fun ro w Z inj a Ds h c hb b=>q101 d (qt2 hd) f h c hb b fun a' w' hp=>⟨rfl,hp⟩
theorem qu4 {ops : Array Oper} {o : Oper} {c : Call} {g : Operand} {n : Nat} {vs : List V} {s s1 s2 : List (Nat × V)} {j : List Tmp} {assign body : Code}
    (hg : K4 ops st o = some true) (ho : o.op = .call c) (u : c.callee = .value g) (bg : st.ev g = some (.yld n)) (bb : evL st.ev c.args.toList = some vs)
    (z : st.blk n = some (.loop s j assign body .ready none)) (ak : j.length = vs.length)
    (h1 : Kx P st.nx assign {sl:=q2y s j vs,hp:=st.hp,nx:=st.nx} .nor st1) (bm : st1.blk n = some (.loop s1 j assign body .ready none))
    (h2 : Kx P st.nx body (st1.setBlk n (.loop s1 j assign body .busy none)) ex st2) (bl : st2.blk n = some (.loop s2 j assign body .busy none)) :
    Jp P base ops o st ({sl:=st.sl,hp:=repl st2.hp n (.loop s2 j assign body (if ex = .nor then .ready else .done) ex.code),nx:=st2.nx : AS}.putD o.dst (.d (.bool (decide (ex = .nor))))):=by
  intro ro Q w Z inj a Ds K h hd hb cw hK;unfold q1q;rw [q4e h hg];simp only [if_true];refine ⟨fun _ _=>trivial,?_⟩;have hr:=Ki h bg;obtain ⟨b,r,hi,hw,es,ep,ap,av,bo,ac,bh,_⟩:=qi5 (ls':=.ready) (pe':=none) (pin:=0) h.heap z;generalize bd : a.eval g = gv at hr
  cases hr with | @yld _ b' o' hlt hi'=>
  rw [hi] at hi';cases hi';have hl:=q4a h bb;have e2 : (c.args.toList.map a.eval).toArray = c.args.map a.eval:=by apply Array.ext';simp
  rw [e2] at hl;have ay : (c.args.map a.eval).size = r.params.size:=by rw [← hl.1,ap];simp [ak]
  have al : (execOp a.eval o).run P w = .ok (.round b r.fn ((r.params.zip (c.args.map a.eval)).foldl (fun tmps (t,a)=>tmps.setIfInBounds t a) r.tmps) r.assign r.body) w:=by
    have:=run_yield (P:=P) hw ay;obtain ⟨dst,op,type,pos,after,guard⟩:=o;simp only at ho;subst ho;obtain ⟨cz,args,argTypes⟩:=c;simp only at u;subst u;simp only [execOp,resolve,Sem.run_bind,bd,Deferred.ofValue,Sem.run_pure,Result.andThen_ok,invoke];simpa using this
  rw [show (Fw ro).round = ro from rfl,Oper.semAt_eq ro _ o (by rintro c' h';rw [ho] at h';cases h'),al,Oper.uponIn_round];refine ⟨fun h=>by simp [Fw] at h,?_⟩;refine roundIn_of_wpIn trivial ?_
  have ad : (r.params.zip (c.args.map a.eval)).foldl (fun tmps (t,a)=>tmps.setIfInBounds t a) r.tmps = (j.zip (c.args.map a.eval).toList).foldl (fun tmps (x : Tmp × Value)=>tmps.setIfInBounds x.1 x.2) r.tmps:=by
    rw [ap,← Array.foldl_toList,Array.toList_zip]
  obtain ⟨v,f⟩:=qok j vs (c.args.map a.eval).toList s r.tmps (by rw [Array.length_toList];exact hl.1) (fun i d c h1 h2=>hl.2 i d c h1 (by rw [← Array.getElem?_toList];exact h2)) ac.2.2 bh;rw [ad,av,bo];generalize (j.zip (c.args.map a.eval).toList).foldl (fun tmps (x : Tmp × Value)=>tmps.setIfInBounds x.1 x.2) r.tmps = tm at v f;have aa : RelS w Z inj {sl:=q2y s j vs,hp:=st.hp,nx:=st.nx} {tmps:=tm,defers:=[]} []:=⟨v,h.heap,rfl,qg,qg⟩
  have y : Yn (some b) w:=fun l hl=>by cases hl;exact ⟨r,hw⟩
  refine wpIn_mono (h1 (some b) w Z inj _ [] aa (by show codeOk tm.size assign = true;rw [f];exact ac.1) (Nat.le_refl _) y).1 ?_;rintro e a1 w1 ⟨rfl,Z1,q,an,g1,g2,g3,g4,g5⟩;have ab : n < st.nx:=(h.heap.blk n _ z).1;obtain ⟨b1,r1,i1,be,aw,ao,cl,ca,bs,cb,cj,ax,k⟩:=qi5 (ls':=.busy) (pe':=none) (pin:=st.nx) g1.heap bm;rw [g2.pinj n ab,hi] at i1;cases i1;refine ⟨_,run_beginRound be aw,?_⟩;have e5 : ({r1 with state:=.busy} : Loop) = {r1 with state:=.busy,pending:=none}:=by cases r1;simp only at ao;subst ao;rfl
  rw [e5]
  have ae : RelS (w1.putObj b (.loop {r1 with state:=.busy,pending:=none})) Z1 q (st1.setBlk n (.loop s1 j assign body .busy none)) a1 an:=
    ⟨g1.slots.mono (k.zkeep g1.heap) k.zin k.big (fun _ _=>rfl) (Nat.le_refl _),ax,g1.defs,g1.nodup,fun D hD=>k.marks g1.heap (g1.marks D hD)⟩
  have ai : Yn (some b) (w1.putObj b (.loop {r1 with state:=.busy,pending:=none})):=(y.ext g2).ext k;refine wpIn_mono (h2 (some b) _ Z1 q a1 an ae (by rw [g3];show codeOk tm.size body = true;rw [f];exact ac.2.1) g4 ai).1 ?_;rintro e a3 w3 ⟨rfl,Z3,ah,cu,k1,k2,k3,k4,k5⟩;obtain ⟨b3,r3,i3,bn,cy,cs,ce,ck,bz,bt,bp,bf,bk⟩:=qi5 (ls':=if ex = .nor then .ready else .done) (pe':=ex.code) (pin:=st.nx) k1.heap bl;have bc : q n = some (b,0):=(g2.pinj n ab).trans hi;rw [k2.pinj n ab,bc] at i3;cases i3
  have p : K (a.put o.dst (.bool (decide (ex = .nor)))) (w3.putObj b (.loop {r3 with state:=if ex = .nor then .ready else .done,pending:=ex.code})):=by
    have aq : Ext w Z inj st.hp (w3.putObj b (.loop {r3 with state:=if ex = .nor then .ready else .done,pending:=ex.code})) Z3 ah (repl st2.hp n (.loop s2 j assign body (if ex = .nor then .ready else .done) ex.code)) st.nx:=
      ((g2.trans k (Nat.le_refl _)).trans k2 (Nat.le_refl _)).trans bk (Nat.le_refl _)
    exact hK _ _ (q4v h hb aq bf k4 (.d (.bool _)) hd)
  have m:=run_endRound (P:=P) ex.code bn
  cases ex with
  | nor=>exact ⟨_,_,m,p⟩
  | ret=>exact ⟨_,_,m,p⟩
  | exit id=>exact ⟨_,_,m,p⟩
end
end Go.Am
namespace Go.Am
open Go
variable {P : Program} {T : Tab}
section
variable {base : Nat} {st st1 st2 : AS} {ex : Ex}
theorem qra {ro : Option Nat} {f : FuncId} {xs : Array Value} {w : World} {R : Ending→World→Prop} (h : CallsIn (Fw none) 0 P f xs w R) : CallsIn (Fw ro) 0 P f xs w R:=by
  cases ro <;> exact h
theorem qvv {w : World} {Ds : List Nat} (h : Ds.Nodup) (a : ∀ D∈Ds,w.heap[D]? = some (.deferred (some []))) : (w.heap.size::Ds).Nodup:=
  List.nodup_cons.2 ⟨fun b=>by have:=Ua (a _ b);omega,h⟩
theorem qrz {g : Operand} {k : Array Tmp} {assign body : Code} {f : FuncId} {u : List V} {v : V} {hp : List (Nat × Blk)} {nx : Nat} {pe : Option Code} {s : List (Nat × V)} {ls : LoopState}
    (hg : st.ev g = some (.fn f u)∨∃ ds,st.ev g = some (.d (.fn f ds))∧u = ds.map .d)
    (y : Zz P f (.yld st.nx::u) ((st.nx,.loop st.sl k.toList assign body .ready none)::st.hp) (st.nx + 1) v hp nx)
    (ai : find hp st.nx = some (.loop s k.toList assign body ls pe)) (bk : ls≠.busy) (au : pe = ex.code) : Kx P base (.rangeFunc g k assign body) st ex {sl:=st.sl,hp:=repl hp st.nx .dead,nx:=nx}:=by
  refine Jr qg fun ro w Z inj a Ds h z hb bn=>wpIn_rangeFunc fun fn _=>?_;simp only [codeOk,Bool.and_eq_true,List.all_eq_true,Nat.blt_eq] at z
  have ax : ∃ cs : Array Value,a.eval g = .func (.func f) #[] cs∧LRel w Z inj st.nx u cs:=by
    rcases hg with hg | ⟨ds,hg,rfl⟩
    · have hr:=Ki h hg;generalize a.eval g = gv at hr ⊢
      cases hr with | @fn _ _ cs h1 h2=>
      exact ⟨cs,rfl,h1,h2⟩
    · have hr:=Ki h hg;generalize a.eval g = gv at hr ⊢
      cases hr with | d hr=>
      cases hr with | @fn _ _ cs h1 h2=>
      refine ⟨cs,rfl,by simpa using h1,fun i d c hd hc=>?_⟩;simp only [List.getElem?_map,Yc] at hd;obtain ⟨d',hd,rfl⟩:=hd;exact .d (h2 i d' c hd hc)
  obtain ⟨cs,bl,az⟩:=ax
  have rest : ∀ (n : World) (l : Nat) (mark : List Deferred) (r : Loop) (Dn : List Nat),(Instr.enterLoop fn a.tmps k assign body (Fw ro).round).run P w = .ok (l,mark) n→
      n.heap[l]? = some (.loop r)→r.state = .ready→r.pending = none→
      RelH n Z (upd inj st.nx (some (l,0))) ((st.nx,.loop st.sl k.toList assign body .ready none)::st.hp) (st.nx + 1)→
      Ext w Z inj st.hp n Z (upd inj st.nx (some (l,0))) ((st.nx,.loop st.sl k.toList assign body .ready none)::st.hp) st.nx→
      mark = Dn.map (fun D=>{target:=.collected D,args:=#[]})→(Dn ++ Ds).Nodup→(∀ D∈Dn,n.heap[D]? = some (.deferred (some []))∧w.heap.size≤D)→
      ∃ (l : Nat) (mark : List Deferred) (w₁ : World) (d : Deferred) (ak : World) (f : FuncId) (args : Array Value) (w₂ : World),
      (Instr.enterLoop fn a.tmps k assign body (Fw ro).round).run P w = .ok (l,mark) w₁∧
      (resolve a.eval (rangeCall g l) 0).run P w₁ = .ok d ak∧
      (∀ f',Target.leads P ak d.target d.args = some f'→(Fw ro).fn f')∧
      (invoke d.target d.args).run P ak = .ok (.enter f args) w₂∧
      ((Fw ro).depth.isSome = true→1≤0)∧
      CallsIn (Fw ro) (0 - 1) P f args w₂ (rangePost (Fw ro) 0 P l (CP base w Z inj st a Ds ex {sl:=st.sl,hp:=repl hp st.nx .dead,nx:=nx}) {a with defers:=mark ++ a.defers}):=by
    intro n l mark r Dn ab cm cn bu ay aa af bo ao
    refine ⟨l,mark,n,{target:=.fn (.func f) cs,args:=#[.func (.yield l) #[] #[]]},n,f,#[.func (.yield l) #[] #[]] ++ cs,n,ab,?_,fun _ _=>trivial,?_,fun h=>by simp [Fw] at h,?_⟩
    · simp only [resolve,bl];simp [Deferred.ofValue,Act.eval]
    · simp [invoke,y.1]
    · refine qra (CallsIn.mono (y.2 n Z _ _ ay ?_) ?_)
      · refine ⟨by simp [az.1];omega,fun i d c hd hc=>?_⟩
        cases i with
        | zero=>
          rw [Array.getElem?_append_left qg] at hc;simp at hd hc;subst hd hc;exact .yld q6 (Yf _ _ _)
        | succ i=>
          rw [Array.getElem?_append_right qg] at hc;simp at hd hc;exact (az.2 i d c hd hc).mono (fun b hz=>aa.keep b (h.heap.zs b hz) (h.heap.z_im hz)) (fun _ h=>h) aa.big (fun m hm=>aa.pinj m hm) q6
      · rintro e w3 ⟨x,Z',inj',rfl,bm,ah,ci,cq⟩
        obtain ⟨b3,r3,i3,bb,bp,ar,ae⟩:=q106 (pin:=st.nx) bm ai
        obtain ⟨bi,bh⟩:=ae {r3 with state:=.exhausted} rfl
        have br : b3 = l:=by
          have:=ah.pinj st.nx q6;rw [Yf,i3] at this;cases this;rfl
        subst br
        refine ⟨r3.pending,_,run_endLoop bb (by rw [bp];exact bk),?_⟩
        have hE : Ext w Z inj st.hp (w3.putObj b3 (.loop {r3 with state:=.exhausted})) Z' inj' (repl hp st.nx .dead) st.nx:=(aa.trans ah q6).trans bh (Nat.le_refl _)
        have t : Y2 base w Z inj st a Ds {sl:=st.sl,hp:=repl hp st.nx .dead,nx:=nx} {a with defers:=mark ++ a.defers} (w3.putObj b3 (.loop {r3 with state:=.exhausted})):=by
          refine ⟨Z',inj',Dn ++ Ds,⟨?_,bi,?_,bo,?_⟩,hE.pin_le hb,rfl,by show base≤nx;omega,?_⟩
          · exact h.slots.mono (hE.zkeep h.heap) hE.zin hE.big hE.pinj (by show st.nx≤nx;omega)
          · simp [af,h.defs]
          · intro D q;rcases List.mem_append.1 q with q | q
            · obtain ⟨h5,h6⟩:=ao D q;have h7:=ah.marks ay h5;rw [World.putObj_heap_other (fun e=>by rw [e] at h7;rw [bb] at h7;cases h7)];exact h7
            · exact hE.marks h.heap (h.marks D q)
          · intro D q;rcases List.mem_append.1 q with q | q
            · exact .inr (ao D q).2
            · exact .inl q
        rw [ar,au] at t
        rw [ar,au]
        cases ex with
        | nor=>exact ⟨rfl,t⟩
        | exit id=>exact wpIn_exit ⟨rfl,t⟩
        | ret=>exact wpIn_ret ⟨rfl,t⟩
  have ad : ∀ (n : World) (l : Nat) (r : Loop),r.state = .ready→r.pending = none→r.tmps = a.tmps→r.params = k→r.assign = assign→r.body = body→Yy n Z (upd inj st.nx (some (l,0))) (st.nx + 1) st.sl a.tmps→
      n.heap[l]? = some (.loop r)→RelB n Z (upd inj st.nx (some (l,0))) (st.nx + 1) st.nx (.loop st.sl k.toList assign body .ready none):=by
    rintro n l r e1 e2 e3 e4 e5 e6 hs hl
    obtain ⟨f1,f2,f3,f4,f5,f6,f7,f8⟩:=r
    simp only at e1 e2 e3 e4 e5 e6
    subst e1 e2 e3 e4 e5 e6
    exact ⟨l,_,_,_,Yf _ _ _,hl,⟨z.1.2,z.2,fun p hp=>z.1.1 p hp⟩,hs⟩
  cases ro with
  | none=>
    have ap : RelH (w.alloc (.deferred (some []))) Z inj st.hp st.nx:=h.heap.grow fun b hb=>Ja w _ hb
    have ag : ∀ o,Yy ((w.alloc (.deferred (some []))).alloc o) Z (upd inj st.nx (some (w.heap.size + 1,0))) (st.nx + 1) st.sl a.tmps:=fun o=>
      h.slots.mono (fun b hz=>by have:=h.heap.zs b hz;rw [Ja _ _ (by simp;omega),Ja _ _ this]) (fun _ h=>h)
        (fun b c e f hb=>by obtain ⟨c1,e1,f1,h1,s1⟩:=q3c w (.deferred (some [])) b c e f hb;obtain ⟨c2,e2,f2,h2,s2⟩:=q3c _ o b c1 e1 f1 h1;exact ⟨c2,e2,f2,h2,s2.trans s1⟩) (fun _ hm=>Yl _ _ hm) q6
    have j:=q16 (w.alloc (.deferred (some []))) (.loop {state:=.ready,pending:=none,fn,tmps:=a.tmps,params:=k,assign,body,defers:=w.heap.size});rw [World.size_alloc] at j;have hB:=ad _ (w.heap.size + 1) {state:=.ready,pending:=none,fn,tmps:=a.tmps,params:=k,assign,body,defers:=w.heap.size} rfl rfl rfl rfl rfl rfl (ag _) j;have hn:=ap.new (.loop {state:=.ready,pending:=none,fn,tmps:=a.tmps,params:=k,assign,body,defers:=w.heap.size}) (.loop st.sl k.toList assign body .ready none) 0 (by rw [World.size_alloc];exact hB);have he:=Ext.new ap (.loop {state:=.ready,pending:=none,fn,tmps:=a.tmps,params:=k,assign,body,defers:=w.heap.size}) (.loop st.sl k.toList assign body .ready none) 0;rw [World.size_alloc] at hn he;refine rest _ (w.heap.size + 1) _ _ [w.heap.size] (run_enterLoop_outer fn a.tmps k assign body) j rfl rfl hn ((Ext.alloc _).trans he (Nat.le_refl _)) rfl (qvv h.nodup h.marks) ?_;intro D q;simp at q;subst q;exact ⟨by rw [Ja _ _ qg];exact q16 _ _,Nat.le_refl _⟩
  | some l0=>
    obtain ⟨r0,bj⟩:=bn l0 rfl
    have ag : ∀ o,Yy (w.alloc o) Z (upd inj st.nx (some (w.heap.size,0))) (st.nx + 1) st.sl a.tmps:=fun o=>
      h.slots.mono (fun b hz=>Ja _ _ (h.heap.zs b hz)) (fun _ h=>h) (q3c w o) (fun _ hm=>Yl _ _ hm) q6
    have j:=q16 w (.loop {state:=.ready,pending:=none,fn,tmps:=a.tmps,params:=k,assign,body,defers:=r0.defers});have hB:=ad _ w.heap.size {state:=.ready,pending:=none,fn,tmps:=a.tmps,params:=k,assign,body,defers:=r0.defers} rfl rfl rfl rfl rfl rfl (ag _) j;exact rest _ w.heap.size _ _ [] (run_enterLoop_inner bj fn a.tmps k assign body) j rfl rfl (h.heap.new _ _ 0 hB) (Ext.new h.heap _ _ 0) rfl (by simpa using h.nodup) qg
theorem qrc {f : FuncId} {fn : Func} {c : Code} {g : List V} {hp : List (Nat × Blk)} {nx : Nat} {v : V} (z : Z9 P T) (r : P.funcs[f]? = some fn) (hb : fn.body = some c) (a : (fn.name == "runtime.NumGoroutine") = false) (o : codeOk fn.ntmps c = true) (ae : g.length ≤ fn.ntmps)
    (hc : Kx P nx c {sl:=Y7 0 g,hp:=hp,nx:=nx} ex st) (hx : ex = .nor∨ex = .ret) (d : resV T st fn.results.toList = some v) : Zz P f g hp nx v st.hp st.nx:=by
  refine ⟨fun args w=>?_,fun w Z inj xs h j=>?_⟩
  · unfold callFunc
    have n : ¬ fn.name = "runtime.NumGoroutine" := by simpa using a
    simp [r,n,hb]
  · refine callsIn_of_wp_marks r hb trivial ?_
    have m : (xs ++ Array.replicate (fn.ntmps - xs.size) undef).size = fn.ntmps:=by
      have:=j.1;simp;omega
    have t : RelS w Z inj {sl:=Y7 0 g,hp:=hp,nx:=nx} {tmps:=xs ++ Array.replicate (fn.ntmps - xs.size) undef,defers:=[]} []:=⟨q109 _ j,h,rfl,qg,qg⟩
    refine wpIn_mono (hc none w Z inj _ [] t (by show codeOk (xs ++ Array.replicate (fn.ntmps - xs.size) undef).size c = true;rw [m];exact o) (Nat.le_refl _) (fun l j=>by cases j)).1 ?_;rintro e a' w' ⟨rfl,Z',inj',k,b,u,g3,g4,g5⟩
    have q:=qmk (P:=P) (fn:=fn) (pin:=nx) (w0:=w) (Z0:=Z) (inj0:=inj) (hp0:=hp) z d
      (R:=fun e w'=>∃ x Z' inj',e = .returned x∧RelH w' Z' inj' st.hp st.nx∧Ext w Z inj hp w' Z' inj' st.hp nx∧RelV w' Z' inj' st.nx v x∧nx≤st.nx)
      (fun x w' Z' inj' s k2 y=>⟨x,Z',inj',rfl,s,k2,y,g4⟩) k w' Z' inj' a' b.slots b.heap u b.nodup (fun D p=>⟨b.marks D p,(g5 D p).resolve_left qg⟩)
    rcases hx with rfl | rfl
    · show LeavesInM (Fw none) 0 P fn a'.tmps _ a'.defers .returning w';rw [b.defs];exact q
    · show LeavesInM (Fw none) 0 P fn a'.tmps _ a'.defers .returning w';rw [b.defs];exact q
end
theorem qrb {f : FuncId} {k : List V} {hp hp' hp1 : List (Nat × Blk)} {nx nx' nx1 : Nat} {v d : V} {ρ : Nat→Nat} {fz ph : List Nat} (h : Zz P f k hp nx v hp' nx') (l : Wk nx ρ fz ph {sl:=[(0,v)],hp:=hp',nx:=nx'} {sl:=[(0,d)],hp:=hp1,nx:=nx1}) : Zz P f k hp nx d hp1 nx1:=by
  refine ⟨h.1,fun w Z inj xs o n=>(h.2 w Z inj xs o n).mono ?_⟩;rintro e w' ⟨x,Z',inj',rfl,j,q,r,s⟩
  have a : RelS w' Z' inj' {sl:=[(0,v)],hp:=hp',nx:=nx'} {tmps:=#[x],defers:=[]} []:=by
    refine ⟨fun t u c=>?_,j,rfl,List.nodup_nil,qg⟩;rw [Kp] at c;split at c
    · rename_i e;subst e;cases c;exact ⟨x,rfl,r⟩
    · simp [find] at c
  obtain ⟨b,g⟩:=q33 a l;obtain ⟨y,m,p⟩:=b.slots 0 d (by simp [find]);simp at m;subst m;exact ⟨x,_,_,rfl,b.heap,q.trans g (Nat.le_refl _),p,l.bs⟩
theorem qrd (hT : Z9 P T) (hm : P.follows .mixedOrders = true) {f : FuncId} {x : List V} {hp : List (Nat × Blk)} {nx : Nat} {v : V} {hp' : List (Nat × Blk)} {nx' : Nat} (h : K8 P T f x hp nx v hp' nx') : Zz P f x hp nx v hp' nx':=by
  refine K8.rec (motive_1:=fun base c st ex st' _=>Kx P base c st ex st') (motive_2:=fun base ops dr l st st' _=>q14 P base ops dr l st st') (motive_3:=fun f x hp nx v hp' nx' _=>Zz P f x hp nx v hp' nx')
    ?_ ?_ ?_ ?_ ?_ ?_ ?_ ?_ ?_ ?_ ?_ ?_ ?_ ?_ ?_ ?_ ?_ ?_ ?_ ?_ ?_ ?_ ?_ ?_ ?_ ?_ ?_ ?_ ?_ h
  · exact qs6
  · exact fun _ _ a d=>qs4 a d
  · exact fun _ u a=>qs5 a u
  · exact fun m _ a=>qru m a
  · exact fun m _ a=>qrt m a
  · exact fun _ a=>qrs a
  · exact qrv
  · exact qs2
  · exact fun _ _ a d=>qrx a d
  · exact fun _ u a=>qry a u
  · exact fun _ a=>qs0 a
  · exact fun _ hd a=>qs1 hm a hd
  · exact fun r _ a=>qs7 r a
  · exact fun b _ n aj y a=>qrz b a n aj y
  · exact qrw
  · exact fun _ a=>qs3 a
  · exact fun {_ _ dr _}=>by cases dr <;> exact .nil
  · exact fun b _ a=>qrq b a
  · exact fun b g n _ a=>qro hT b g n a
  · exact fun b g _ hn hh n q _ a=>qrp hT b g hn hh n q a
  · exact fun b g m p _ ab ah hs q _ a d=>qrm b g m p a ab ah hs q d
  · exact fun b g m _ _ a d=>Zq.cons (q16a b g m a) d
  · exact fun b g m j ad _ z hb _ a d=>Zq.cons (qlr b g m j ad a z hb) d
  · exact fun b g m k n hn _ p q _ a d=>qrn b g m k n hn a p q d
  · exact fun b g s aa k w j _ ai _ ae _ a d h3=>Zq.cons (qu4 b g s aa k w j a ai d ae) h3
  · exact fun r _ a=>Zq.wk r a
  · exact fun hp _ _ a d=>Ud.piv hp a d
  · exact fun n hb o ag k _ u t a=>qrc hT n hb o ag k a u t
  · exact fun _ r a=>qrb a r
end Go.Am
namespace Go.Am
open Go
open Go.ChangeShapes Go.WideShapes Go.ChangeAt Go.RowKit Go.Deep
inductive CT where
  | int (k : IntKind)
  | bool
  | str
  | sl (l : List CT)
def qd6 (P : Program) (f : TypeId→Option (List CT)) : Nat→List Field→Option (List CT)
  | _,[]=>some []
  | o,x::r=>match f x.type with
    | some a=>if x.offset = o∧P.cellsOf x.type = a.length then
        match qd6 P f (o + a.length) r with
        | some b=>some (a ++ b)
        | none=>none
      else none
    | none=>none
def tyL (P : Program) : Nat→TypeId→Option (List CT)
  | 0,_=>none
  | f + 1,t=>match P.underlying t with
    | some .bool=>some [.bool]
    | some (.int k)=>some [.int k]
    | some .string=>some [.str]
    | some (.slice e)=>match tyL P f e with
      | some l=>if l.length = P.cellsOf e∧l.length≠0 then some [.sl l] else none
      | none=>none
    | some (.struct fs)=>match qd6 P (tyL P f) 0 fs.toList with
      | some l=>if l.length = P.cellsOf t then some l else none
      | none=>none
    | _=>none
inductive Ty : CT→DV→Prop
  | int {k : IntKind} {n : Int} : (Lit.int k n).wf = true→Ty (.int k) (.int k n)
  | bool (b : Bool) : Ty .bool (.bool b)
  | str {s : ByteArray} : s.size≤maxLen→Ty .str (.str s)
  | nil (l : List CT) : Ty (.sl l) .nilsl
  | sl {l : List CT} {xs : List (List DV)} : xs.length≤maxLen→(∀ (i : Nat) (x : List DV),xs[i]? = some x→x.length = l.length)→
      (∀ (i : Nat) (x : List DV) (j : Nat) (c : CT) (d : DV),xs[i]? = some x→l[j]? = some c→x[j]? = some d→Ty c d)→Ty (.sl l) (.sl l.length xs)
section
variable {H : Type} {enc : TypeId × Value→H} {P : Program} {w : World} {base : Nat} {held : Bool}
def ZC (w : World) (b : Nat) : Prop:=∃ c e f,w.heap[b]? = some (.cells c e f)
theorem Ty.cell {c : CT} {d : DV} (h : Ty c d) : Zv d = true:=by cases h <;> rfl
def Reads (w : World) (l : List CT) (cs : List Value) : Prop:=
  cs.length = l.length∧∃ ds : List DV,ds.length = l.length∧∀ (j : Nat) (c : CT) (v : Value),l[j]? = some c→cs[j]? = some v→∃ d,ds[j]? = some d∧Ty c d∧RelD w (ZC w) d v
theorem q7d {c : CT} {v : Value} {d : DV} (g : Ty c d) (f : RelD w (ZC w) d v) : Reads w [c] [v]:=by
  refine ⟨rfl,[d],rfl,fun j k h a b=>?_⟩
  cases j with
  | zero=>simp at a b;subst a b;exact ⟨d,rfl,g,f⟩
  | succ j=>simp at a
theorem qzm {l l' : List CT} {cs a : List Value} (h : Reads w l cs) (r : Reads w l' a) : Reads w (l ++ l') (cs ++ a):=by
  obtain ⟨n,ds,o,t⟩:=h;obtain ⟨b1,g,p,q⟩:=r;refine ⟨by simp [n,b1],ds ++ g,by simp [o,p],fun j c v f b=>?_⟩;by_cases s : j < l.length
  · rw [List.getElem?_append_left s] at f;rw [List.getElem?_append_left q6] at b;obtain ⟨d,k,m⟩:=t j c v f b;exact ⟨d,by rw [List.getElem?_append_left q6];exact k,m⟩
  · rw [List.getElem?_append_right q6] at f;rw [List.getElem?_append_right q6,n] at b;obtain ⟨d,k,m⟩:=q _ c v f b;exact ⟨d,by rw [List.getElem?_append_right q6,o];exact k,m⟩
theorem qq8 {f : TypeId→Option (List CT)} {g : Field→List Value→Prop} (d : ∀ (x : Field) (l : List CT) (cs : List Value),f x.type = some l→g x cs→Reads w l cs) :
    ∀ (c : List Field) (o : Nat) (l : List CT) (cs : List Value),qd6 P f o c = some l→o + l.length = cs.length→(∀ x∈c,g x ((cs.drop x.offset).take (P.cellsOf x.type)))→Reads w l (cs.drop o)
  | [],o,l,cs,h,hl,_=>by
    simp [qd6] at h;subst h
    simp at hl
    rw [hl]
    exact ⟨qg,[],rfl,qg⟩
  | x::r,o,l,cs,h,hl,hx=>by
    simp only [qd6] at h
    split at h <;> try simp at h
    rename_i a n
    obtain ⟨⟨p,k⟩,h⟩:=h
    split at h <;> simp at h
    rename_i b hb
    subst h
    have j:=d x a _ n (hx x qg)
    rw [p,k] at j
    have q:=qq8 d r (o + a.length) b cs hb (by simp at hl;omega) (fun y m=>hx y (by simp [m]))
    have:=qzm j q
    rw [← List.drop_drop] at this
    rwa [List.take_append_drop] at this
theorem qfh : ∀ (f : Nat) (t : TypeId) (l : List CT) (fuel : Nat) (cs : List Value) (x : DataW H × List MemPlace),tyL P f t = some l→DataW.trod enc P w base (fun _=>true) held fuel t cs = some x→Reads w l cs
  | 0,t,l,fuel,cs,x,hl,h=>by simp [tyL] at hl
  | f + 1,t,l,fuel,cs,x,hl,h=>by
    simp only [tyL] at hl
    split at hl <;> try simp at hl
    · rename_i ht
      subst hl
      cases fuel with
      | zero=>simp [DataW.trod] at h
      | succ n=>
        unfold DataW.trod at h
        rw [ht] at h
        split at h <;> simp_all
        exact q7d (.bool _) (.bool _)
    · rename_i k ht
      subst hl
      obtain ⟨n,rfl,_,hw⟩:=DataW.trod_int ht h
      exact q7d (.int hw) (.int _ _)
    · rename_i ht
      subst hl
      cases fuel with
      | zero=>simp [DataW.trod] at h
      | succ n=>
        unfold DataW.trod at h
        rw [ht] at h
        split at h <;> simp_all
        exact q7d (.str q6) (.str _)
    · rename_i e ht
      split at hl <;> simp at hl
      rename_i le aq
      obtain ⟨⟨u,am⟩,rfl⟩:=hl
      rcases open_slice ht h with ⟨rfl,_⟩ | ⟨a,len,cap,m,n,D,Pl,rfl,_,ap,bi,hm,_,au⟩
      · exact q7d (.nil _) .nilsl
      · obtain rfl : cap = m:=by simpa using hm.symm
        have elem : ∀ i,i < cap→∃ p,w.cells? base (a.add (i * P.cellsOf e)) (P.cellsOf e) = some p∧Reads w le p:=by
          intro i hi;obtain ⟨p,h1,h2⟩:=au i hi;exact ⟨p,h1,qfh f e le n p _ aq h2⟩
        have ay : 0 < P.cellsOf e:=by rw [← u];exact List.length_pos_iff.2 am
        by_cases ar : cap = 0
        · subst ar
          have : len = 0:=by omega
          subst this
          exact q7d (.sl (xs:=[]) qg qg qg) (.slemp _ _)
        · have ac : a.spot = none∧ZC w a.block:=by
            obtain ⟨p,h1,_⟩:=elem 0 q6;obtain ⟨_,h2,h3⟩:=World.cells?_some h1;have:=h3 0 q6;obtain ⟨v,hv⟩:=J2 (xs:=p) (i:=0) q6;rw [hv] at this;simp [World.cell?,Addr.add] at this;split at this <;> try simp at this
            rename_i c e' f' hc;exact ⟨this.1,c,e',f',hc⟩
          obtain ⟨b,o,sp⟩:=a
          obtain ⟨al,hz⟩:=ac
          simp only at al hz;subst al
          have ag : ∀ i,i < len→∃ ds : List DV,ds.length = le.length∧∀ (j : Nat) (c : CT),le[j]? = some c→∃ d v,ds[j]? = some d∧Ty c d∧w.cell? ⟨b,o + (i * le.length + j),none⟩ = some v∧RelD w (ZC w) d v:=by
            intro i hi;obtain ⟨p,h1,h4,ds,h5,h6⟩:=elem i q6;obtain ⟨_,h2,h3⟩:=World.cells?_some h1;refine ⟨ds,h5,fun j c hj=>?_⟩;have bb:=Kj hj;obtain ⟨v,hv⟩:=J2 (xs:=p) (i:=j) q6;obtain ⟨d,z,g2,g3⟩:=h6 j c v hj hv;have:=h3 j q6;rw [hv,Uf,Uf,← u,Nat.add_assoc] at this;exact ⟨d,v,z,g2,this,g3⟩
          obtain ⟨F,hF⟩:=choose_lt ag
          have q : ∀ (i : Nat) (x : List DV),((List.range len).map F)[i]? = some x→i < len∧x = F i:=by
            intro i x s;simp only [List.getElem?_map,Yc] at s;obtain ⟨k,hk,rfl⟩:=s;have hi : i < len:=by simpa using Kj hk
            rw [List.getElem?_range hi] at hk;cases hk;exact ⟨hi,rfl⟩
          have r : ((List.range len).map F).length = len:=by simp
          have ab : RelD w (ZC w) (.sl le.length ((List.range len).map F)) (.slice (some ⟨b,o,none⟩) ((List.range len).map F).length cap):=by
            refine .sl (by rw [r];exact ap) (fun _=>hz) ?_ ?_ ?_
            · intro i x s;obtain ⟨hi,rfl⟩:=q i x s;exact (hF i hi).1
            · intro i x j d s hd;obtain ⟨hi,rfl⟩:=q i x s;obtain ⟨c,hc⟩:=J2 (xs:=le) (i:=j) (by rw [← (hF i hi).1];exact Kj hd);obtain ⟨d',v,z,g2,g3,g4⟩:=(hF i hi).2 j c hc;rw [hd] at z;cases z;exact ⟨g2.cell,v,g3⟩
            · intro i x j d v s hd hv;obtain ⟨hi,rfl⟩:=q i x s;obtain ⟨c,hc⟩:=J2 (xs:=le) (i:=j) (by rw [← (hF i hi).1];exact Kj hd);obtain ⟨d',v',z,g2,g3,g4⟩:=(hF i hi).2 j c hc;rw [hd] at z;cases z;rw [hv] at g3;cases g3;exact g4
          rw [r] at ab
          refine q7d (.sl (by rw [r];omega) ?_ ?_) ab
          · intro i x s
            obtain ⟨hi,rfl⟩:=q i x s
            exact (hF i hi).1
          · intro i x j c d s hc hd
            obtain ⟨hi,rfl⟩:=q i x s
            obtain ⟨d',v,z,g2,_⟩:=(hF i hi).2 j c hc
            rw [hd] at z;cases z
            exact g2
    · rename_i fs ht
      split at hl <;> simp at hl
      rename_i l' av
      obtain ⟨u,rfl⟩:=hl
      obtain ⟨xs,n,_,_,bn,bc,hf⟩:=DataW.trod_struct ht h
      have:=qq8 (P:=P) (w:=w) (f:=tyL P f) (g:=fun x cs=>∃ y,DataW.trod enc P w base (fun _=>true) held n x.type cs = some y) (fun x l cs h1 ⟨y,h2⟩=>qfh f x.type l n cs y h1 h2) fs.toList 0 l' cs av q6 ?_
      · simpa using this
      · intro x s
        obtain ⟨i,hi⟩:=List.getElem?_of_mem s
        have:=hf i x (by simpa using hi)
        obtain ⟨y,hy⟩:=J2 (xs:=xs) (i:=i) (by have:=Kj hi;simp at this;omega)
        exact ⟨y,by rw [this];exact hy⟩
end
end Go.Am
namespace Go.Am
open Go
open Go.ChangeShapes Go.WideShapes Go.ChangeAt Go.RowKit Go.Deep
theorem q16l {P : Program} {l : List (Nat × TI)} (h : l.map (fun x=>tiOf P x.1) = l.map (fun x=>some x.2)) : Z9 P (qq5 l):=by
  intro t i c;have a:=Jh (show find l t = some i from c);obtain ⟨k,b⟩:=List.getElem?_of_mem a;have:=congrArg (fun r=>r[k]?) h;simp only [List.getElem?_map,b,Option.map_some] at this;exact qd9 this
def aggT (P : Program) (t : TypeId) : Bool:=match P.underlying t with
  | some (.struct _) | some (.array _ _)=>true
  | _=>false
inductive Uc : List (Bool × List CT)→List DV→Prop
  | nil : Uc [] []
  | one {c : CT} {d : DV} {ps : List (Bool × List CT)} {ds : List DV} : Ty c d→Uc ps ds→Uc ((false,[c])::ps) (d::ds)
  | agg {l : List CT} {xs : List DV} {ps : List (Bool × List CT)} {ds : List DV} : xs.length = l.length→(∀ (j : Nat) (c : CT) (d : DV),l[j]? = some c→xs[j]? = some d→Ty c d)→Uc ps ds→Uc ((true,l)::ps) (.agg xs::ds)
section
variable {H : Type} {enc : TypeId × Value→H} {P : Program} {T : Tab} {W : World} {base : Nat}
theorem qqw {t : TypeId} {f : Nat} {l : List CT} {v : Value} {d : DataW H} {p : List MemPlace} (r : aggT P t = false) (o : tyL P f t = some l) (g : Value.okWide P W .any base t v) (h : DataW.Trod enc P W 0 (fun _=>true) true t v d p) :
    ∃ c x,l = [c]∧Ty c x∧RelD W (ZC W) x v:=by
  obtain ⟨fuel,z⟩:=h;have m:=qfh f t l fuel _ _ o z
  have key : v.cells = #[v]→∃ c,l = [c]→∃ x,Ty c x∧RelD W (ZC W) x v:=by
    intro w;rw [w] at m;obtain ⟨h1,ds,h2,q⟩:=m
    match l,h1 with
    | [c],_=>
      obtain ⟨x,_,y,u⟩:=q 0 c v rfl rfl;exact ⟨c,fun _=>⟨x,y,u⟩⟩
  have fin : v.cells = #[v]→∃ c x,l = [c]∧Ty c x∧RelD W (ZC W) x v:=by
    intro w;have j:=m.1;rw [w] at j m
    match l,j,m with
    | [c],_,m=>
      obtain ⟨_,ds,h2,q⟩:=m;obtain ⟨x,_,y,u⟩:=q 0 c v rfl rfl;exact ⟨c,x,rfl,y,u⟩
  cases f with
  | zero=>simp [tyL] at o
  | succ f=>
    simp only [tyL] at o;split at o <;> try simp at o
    · rename_i a;obtain ⟨b,rfl⟩:=okWide_bool a g;exact fin rfl
    · rename_i k a;obtain ⟨n,rfl⟩:=okWide_int a g;exact fin rfl
    · rename_i a;obtain ⟨s,rfl⟩:=okWide_string a g;exact fin rfl
    · rename_i e a;obtain ⟨a0,len,cap,rfl⟩:=okWide_slice a g;exact fin rfl
    · rename_i fs a;simp [aggT,a] at r
theorem qqv {t : TypeId} {f : Nat} {l : List CT} {v : Value} {d : DataW H} {p : List MemPlace} (b : aggT P t = true) (w : tyL P f t = some l) (a : Value.okWide P W .any base t v) (h : DataW.Trod enc P W 0 (fun _=>true) true t v d p) :
    ∃ xs : List DV,xs.length = l.length∧(∀ (j : Nat) (c : CT) (d : DV),l[j]? = some c→xs[j]? = some d→Ty c d)∧RelD W (ZC W) (.agg xs) v:=by
  obtain ⟨fuel,u⟩:=h
  have q : ∃ cs,v = .agg cs:=by
    unfold aggT at b;unfold Value.okWide at a;split at b
    · rename_i n;simp only [n] at a;obtain ⟨cs,h,_⟩:=a;exact ⟨cs,h⟩
    · rename_i n;simp only [n] at a;obtain ⟨cs,h,_⟩:=a;exact ⟨cs,h⟩
    · simp at b
  obtain ⟨cs,rfl⟩:=q;obtain ⟨r,ds,m,o⟩:=qfh f t l fuel _ _ w u;simp only [Value.cells] at r o;refine ⟨ds,m,fun j c d k hd=>?_,.agg (by simpa [m] using r.symm) fun j d c hd k=>?_⟩
  · obtain ⟨v,q⟩:=J2 (xs:=cs.toList) (i:=j) (by rw [r];exact Kj k);obtain ⟨x,g,y,_⟩:=o j c v k q;rw [hd] at g;cases g;exact y
  · obtain ⟨z,s⟩:=J2 (xs:=l) (i:=j) (by rw [← m];exact Kj hd);obtain ⟨x,g,_,g3⟩:=o j z c s (by simpa using k);rw [hd] at g;cases g;exact g3
theorem qjk {f : Nat} : ∀ (o : List TypeId) (b : List (Bool × List CT)) (m : List Value) (ds : List (DataW H)) (p : List MemPlace),o.map (fun t=>(aggT P t,tyL P f t)) = b.map (fun x=>(x.1,some x.2))→
    (∀ (j : Nat) t v,o[j]? = some t→m[j]? = some v→Value.okWide P W .any base t v)→DataW.TrodAll enc P W 0 (fun _=>true) true o m ds p→
    ∃ xs : List DV,Uc b xs∧xs.length = m.length∧∀ (j : Nat) (x : DV) (v : Value),xs[j]? = some x→m[j]? = some v→RelD W (ZC W) x v
  | [],b,m,ds,p,hp,hok,h=>by
    obtain ⟨rfl,rfl,rfl⟩:=trodAll_nil h
    cases b with
    | nil=>exact ⟨[],.nil,rfl,qg⟩
    | cons _ _=>simp at hp
  | t::o,b,m,ds,p,hp,hok,h=>by
    obtain ⟨v,w,d,s,q,q',rfl,rfl,rfl,h1,h2⟩:=trodAll_cons h
    cases b with
    | nil=>simp at hp
    | cons pr b=>
      obtain ⟨ag,l⟩:=pr
      simp only [List.map_cons,List.cons.injEq,Prod.mk.injEq] at hp
      obtain ⟨⟨n,hl⟩,hp⟩:=hp
      obtain ⟨xs,g1,g2,g3⟩:=qjk o b w s q' hp (fun j t v ht hv=>hok (j + 1) t v (by simpa using ht) (by simpa using hv)) h2
      have a:=hok 0 t v rfl rfl
      cases ag with
      | false=>
        obtain ⟨c,x,rfl,r,z⟩:=qqw n hl a h1
        refine ⟨x::xs,.one r g1,by simp [g2],fun j y u g k=>?_⟩
        cases j with
        | zero=>simp at g k;subst g k;exact z
        | succ j=>exact g3 j y u (by simpa using g) (by simpa using k)
      | true=>
        obtain ⟨zs,k0,r,z⟩:=qqv n hl a h1
        refine ⟨.agg zs::xs,.agg k0 r g1,by simp [g2],fun j y u g k=>?_⟩
        cases j with
        | zero=>simp at g k;subst g k;exact z
        | succ j=>exact g3 j y u (by simpa using g) (by simpa using k)
theorem q171 {F : FuncId} {g : Array Value} {xs : List DV} (hT : Z9 P T) (hm : P.follows .mixedOrders = true) (hp : Pure P T F xs (.bool true)) (u : xs.length = g.size) (hr : ∀ (j : Nat) (x : DV) (v : Value),xs[j]? = some x→g[j]? = some v→RelD W (ZC W) x v) :
    Calls P F g W fun e l=>e = .returned (.bool true)∧Grown W l∧Below W.heap.size W l:=by
  obtain ⟨v,hp',nx',r',w,p,r⟩:=hp;have hg:=qrd hT hm w
  have h0 : RelH W (ZC W) (fun _=>none) [] 0:=⟨fun _ _ h=>by simp [find] at h,fun _ _ _ _ _ _ h=>by simp [find] at h,fun _ _ _ h=>by simp [find] at h,
    fun b ⟨c,e,f,h⟩=>Ua h,fun b h=>h⟩
  have z:=hg.2 W (ZC W) (fun _=>none) g h0 ⟨by simpa using u,fun j x v s q=>by
    simp only [List.getElem?_map,Yc] at s;obtain ⟨y,hy,rfl⟩:=s
    exact .d (hr j y v hy q)⟩
  refine (callsIn_wide (n:=0).1 z).mono ?_;rintro e l ⟨x,Z',inj',rfl,hh,a,q,hn⟩;have t:=(qd7 hh 8 p q).le r;cases t;have m : ∀ k,k < W.heap.size→l.heap[k]? = W.heap[k]?:=fun k m=>a.keep k m (by rintro ⟨n,blk,o,h1,_⟩;simp [find] at h1);refine ⟨rfl,⟨⟨a.os,a.output,fun i hi=>?_⟩,a.frz,a.size⟩,⟨a.os,a.tape,a.output,a.size,m⟩⟩;rw [m i hi]
  cases hw : W.heap[i]? with
  | none=>simp
  | some o=>cases o <;> simp
theorem qjl (a : laidOutB P = true) {l : World} {k : Nat→Bool} : ∀ (c : List TypeId) (f : List Value) (ds : List (DataW H)) (p : List MemPlace),(∀ t∈c,P.readableRec t = true∧t < P.types.size)→DataW.TrodAll enc P W 0 (fun _=>true) true c f ds p→
    Below W.heap.size W l→(∀ x∈p,x.block < W.heap.size∧k x.block = true)→DataW.TrodAll enc P l 0 k true c f ds p
  | [],f,ds,p,_,h,_,_=>by obtain ⟨rfl,rfl,rfl⟩:=trodAll_nil h;exact trodAll_mk0
  | t::c,f,ds,p,ht,h,hb,hp=>by
    obtain ⟨v,g,d,j,q,r,rfl,rfl,rfl,o,m⟩:=trodAll_cons h
    refine trodAll_cons_mk (WideElems.Trod_stays a (ht t qg).1 (ht t qg).2 o (fun x b=>hb.same (hp x (by simp [b])).1) (fun x b=>(hp x (by simp [b])).2))
      (qjl a c g j r (fun u n=>ht u (by simp [n])) m hb (fun x b=>hp x (by simp [b])))
theorem contract {f : Func} {F : FuncId} {s : ChangeSpec} {tb : TypeId} {fuel : Nat} {ps : List (Bool × List CT)} (hT : Z9 P T) (hm : P.follows .mixedOrders = true) (z : laidOutB P = true)
    (a : s.vars = []) (c : f.resultTypes = #[tb]) (o : P.underlying tb = some .bool) (k : ∀ t∈f.params.toList,P.readableRec t = true∧t < P.types.size)
    (af : f.params.toList.map (fun t=>(aggT P t,tyL P fuel t)) = ps.map (fun x=>(x.1,some x.2)))
    (hs : ∀ ds : List (DataW H),ds.length = f.params.size→s.fn H ds = {results:=[.lit (.bool true)],args:=ds})
    (m : ∀ xs,Uc ps xs→Pure P T F xs (.bool true))
    {args : Array Value} {ds gs : List (DataW H)} {before : List MemPlace} (r : ∀ (j : Nat) t v,f.params[j]? = some t→args[j]? = some v→Value.okWide P W .any base t v)
    (hW : DataW.Whole enc P f.params.toList s.vars false W args.toList ds gs before) :
    Calls P F args W fun e W'=>∃ v,e = .returned v∧s.post enc P f false true false false W args v W':=by
  have g:=hW;obtain ⟨p,q,hA,hV,rfl,ao,av⟩:=hW;rw [a] at hV;obtain ⟨rfl,rfl⟩:=trodVars_none hV;have n:=g.lt;simp only [List.append_nil] at g n;obtain ⟨xs,g1,g2,g3⟩:=qjk (base:=base) f.params.toList ps args.toList ds p af (fun j t v ht hv=>r j t v (by simpa using ht) (by simpa using hv)) hA;refine (q171 hT hm (m xs g1) (by simpa using g2) (fun j x v hx hv=>g3 j x v hx (by simpa using hv))).mono ?_;rintro e W' ⟨rfl,hg,hb⟩
  have u : ds.length = f.params.size:=by
    have : ∀ (y : List TypeId) (vs : List Value) (ds : List (DataW H)) (p : List MemPlace),DataW.TrodAll enc P W 0 (fun _=>true) true y vs ds p→ds.length = y.length:=by
      intro y
      induction y with
      | nil=>intro vs ds p h;obtain ⟨_,rfl,_⟩:=trodAll_nil h;rfl
      | cons t y ih=>intro vs ds p h;obtain ⟨v,aw,d,ar,q,q',rfl,rfl,rfl,_,h2⟩:=trodAll_cons h;simp [ih _ _ _ h2]
    simpa using this _ _ _ _ hA
  have l:=hs (ds ++ []) (by simpa using u);refine ⟨_,rfl,post_of_same (pa:=p) (pv:=[]) g ?_ ?_ ?_ qg (hg.frame _) hg.2.1 (ok_one c rfl (okWide_bool_mk o _))⟩
  · intro b sp hd;rw [c,l];exact trodAll_cons_mk (shut_bool o _) trodAll_mk0
  · intro sp w;rw [l];show DataW.TrodAll enc P W' 0 sp true f.params.toList args.toList (ds ++ []) p;rw [List.append_nil];exact qjl z _ _ _ _ k hA hb fun x hx=>⟨n x hx,w x hx⟩
  · intro sp w;rw [l,a];rfl
end
end Go.Am
namespace Go.Am
open Go
variable {P : Program} {T : Tab}
section
variable {base : Nat} {ops : Array Oper} {dr : Dr} {l : List Oper} {sl sl1 : List (Nat × V)} {hp hp1 : List (Nat × Blk)} {nx nx1 : Nat} {K : AS→Prop} {ty : TypeId} {pos : String} {af : Array Edge} {t : Tmp} {g : Option (Nat × Bool)} {v : V}
theorem qtt {st : AS} {op : Op} (h : touch op = 0) : fp st op = (some [],[]):=by
  unfold touch at h;split at h <;> first | rfl | (simp at h;done) | (exact absurd h qy)
theorem qx4 {dr : Dr} {k : Nat} {st st1 : AS} {t : TypeId} {p : Operand} (h : okF dr k (fp st (.load t p)) = true) : okO dr k st (.load t p) st1 = true:=by
  cases dr with
  | none=>rfl
  | some F=>simp only [okF] at h;simp only [okO,h,Bool.true_and,q49,touch]
theorem qne {dr : Dr} {k n es : Nat} {st st1 : AS} {op : Op} {xs : List (List DV)} {r : List (Nat × Blk)} (a : st1.hp = (n,.dat es xs)::r) (h : okF dr k (fp st op) = true) : okO dr k st op st1 = true:=by
  cases dr with
  | none=>rfl
  | some F=>
    simp only [okF] at h;simp only [okO,h,Bool.true_and,q49,a];split <;> rfl
theorem U4 {dr : Dr} {k : Nat} {st st1 : AS} {op : Op} (h : touch op = 0) : okO dr k st op st1 = true:=by
  cases dr with
  | none=>rfl
  | some F=>simp only [okO,qtt h,qlf,Bool.true_and,q49,h]
theorem fin {ex : Ex} {st : AS} {b : List ResultVar} {v : V} {r a : DV} (g : ex = .nor∨ex = .ret) (c : resV T st b = some v) (f : toD st.hp 8 v = some a) (d : a = r) : (ex = .nor∨ex = .ret)∧∃ v a,resV T st b = some v∧toD st.hp 8 v = some a∧DLe a r:=
  ⟨g,v,a,c,f,d ▸ .refl _⟩
theorem qx9 {x y : Operand} {a : TypeId} {i : TI} {k : IntKind} {n : Int} {m es off len : Nat} (f : K4 ops ⟨sl,hp,nx⟩ ⟨some t,.indexAddr a x y,ty,pos,af,g⟩ = some true) (q : T a = some i)
    (j : AS.ev ⟨sl,hp,nx⟩ x = some (.hs m es off len)) (b : AS.ev ⟨sl,hp,nx⟩ y = some (.d (.int k n))) (o : i.kind = .slice) (p : es = i.esize) (c : 0≤n) (hi : n < len)
    (h : OpsK P T base ops dr l ⟨(t,.ref m es (off + n.toNat) 0)::sl,hp,nx⟩ K) : OpsK P T base ops dr (⟨some t,.indexAddr a x y,ty,pos,af,g⟩::l) ⟨sl,hp,nx⟩ K:=
  Yr f (v:=.ref m es (off + n.toNat) 0) (st1:=⟨sl,hp,nx⟩) (by simp [opFn,j,b,q,q4g,o,p,c,hi]) h (U4 rfl)
theorem qee {p : Operand} {b : TypeId} {i : TI} {m es a j : Nat} {xs : List (List DV)} {cs r : List DV} {w : V} (f : K4 ops ⟨sl,hp,nx⟩ ⟨some t,.load b p,ty,pos,af,g⟩ = some true) (n : T b = some i)
    (k : AS.ev ⟨sl,hp,nx⟩ p = some (.ref m es a j)) (hb : find hp m = some (.dat es xs)) (hi : xs[a]? = some cs) (hs : sub cs j i.size = some r) (c : (q1n i.agg r).map .d = some w)
    (h : OpsK P T base ops dr l ⟨(t,w)::sl,hp,nx⟩ K) (o : okF dr l.length (fp ⟨sl,hp,nx⟩ (.load b p)) = true:=by rfl) : OpsK P T base ops dr (⟨some t,.load b p,ty,pos,af,g⟩::l) ⟨sl,hp,nx⟩ K:=
  Yr f (v:=w) (st1:=⟨sl,hp,nx⟩) (by simp only [opFn,k,n,Us,AS.blk,hb,Nat.beq_refl,hi,hs,c,Option.map_some]) h (qx4 o)
end
end Go.Am
namespace Go.Am
open Go
variable {P : Program} {T : Tab}
section
variable {base : Nat} {ops : Array Oper} {dr : Dr} {l : List Oper} {sl : List (Nat × V)} {hp : List (Nat × Blk)} {nx : Nat} {K : AS→Prop} {ty : TypeId} {pos : String} {af : Array Edge} {t : Tmp} {g : Option (Nat × Bool)} {v : V}
theorem Qu {a : TypeId} {i : TI} (b : K4 ops ⟨sl,hp,nx⟩ ⟨some t,.alloc a,ty,pos,af,g⟩ = some true) (d : T a = some i)
    (h : OpsK P T base ops dr l ⟨(t,.ref nx i.size 0 0)::sl,(nx,.dat i.size [i.zero])::hp,nx + 1⟩ K) (c : okF dr l.length (fp ⟨sl,hp,nx⟩ (.alloc a)) = true:=by rfl) : OpsK P T base ops dr (⟨some t,.alloc a,ty,pos,af,g⟩::l) ⟨sl,hp,nx⟩ K:=
  Yr b (v:=.ref nx i.size 0 0) (st1:=⟨sl,(nx,.dat i.size [i.zero])::hp,nx + 1⟩) (by simp only [opFn,d,Option.map_some];rfl) h (qne rfl c)
theorem q16g {cs : List DV} : sub cs 0 cs.length = some cs:=by simp [sub]
theorem qx5 {x y : Operand} {a b : TypeId} {i j : TI} {n es len : Nat} {xs ys : List (List DV)} {f : V} (q : K4 ops ⟨sl,hp,nx⟩ ⟨some t,.call {callee:=.builtin .append,args:=#[x,y],argTypes:=#[a,b]},ty,pos,af,g⟩ = some true)
    (w : T a = some i) (d : T b = some j) (r : AS.ev ⟨sl,hp,nx⟩ x = some (.hs n es 0 len)) (o : AS.ev ⟨sl,hp,nx⟩ y = some f) (hb : find hp n = some (.dat es xs)) (m : len = xs.length) (z : Z5 ⟨sl,hp,nx⟩ f = some ys)
    (s : i.kind = .slice) (c : j.kind = .slice) (u : es = i.esize) (k : Jg i.esize f = true) (p : (len + ys.length) * (i.ebytes * 4)≤4294967296)
    (h : OpsK P T base ops dr l ⟨(t,.hs nx es 0 (len + ys.length))::sl,(nx,.dat es (xs ++ ys))::repl hp n .dead,nx + 1⟩ K) (hF : okF dr l.length (fp ⟨sl,hp,nx⟩ (.call {callee:=.builtin .append,args:=#[x,y],argTypes:=#[a,b]})) = true:=by rfl) : OpsK P T base ops dr (⟨some t,.call {callee:=.builtin .append,args:=#[x,y],argTypes:=#[a,b]},ty,pos,af,g⟩::l) ⟨sl,hp,nx⟩ K:=by
  refine Yr q (v:=.hs nx es 0 (len + ys.length)) (st1:=⟨sl,(nx,.dat es (xs ++ ys))::repl hp n .dead,nx + 1⟩) ?_ h (qne rfl hF);subst m;have e : ((xs.drop 0).take xs.length ++ ys) = xs ++ ys:=by simp
  simp only [opFn,evL,r,o,Yj];simp only [List.getElem?_toArray,List.getElem?_cons_zero,List.getElem?_cons_succ,w,d];rw [Q1 ⟨s,c,k⟩];simp only [Zb,AS.blk,hb,z];rw [Q1 ⟨q6,trivial,p,u⟩,e];rfl
theorem qhs {x : Operand} (a : K4 ops ⟨sl,hp,nx⟩ ⟨some t,.move x,ty,pos,af,g⟩ = some true) (b : AS.ev ⟨sl,hp,nx⟩ x = some v)
    (h : OpsK P T base ops dr l ⟨(t,v)::sl,hp,nx⟩ K) : OpsK P T base ops dr (⟨some t,.move x,ty,pos,af,g⟩::l) ⟨sl,hp,nx⟩ K:=
  Yr a (v:=v) (st1:=⟨sl,hp,nx⟩) (by simp only [opFn,b,Option.map_some]) h (U4 rfl)
theorem qx6 {x : Operand} (a : K4 ops ⟨sl,hp,nx⟩ ⟨some t,.assign x,ty,pos,af,g⟩ = some true) (b : AS.ev ⟨sl,hp,nx⟩ x = some v)
    (h : OpsK P T base ops dr l ⟨(t,v)::sl,hp,nx⟩ K) : OpsK P T base ops dr (⟨some t,.assign x,ty,pos,af,g⟩::l) ⟨sl,hp,nx⟩ K:=
  Yr a (v:=v) (st1:=⟨sl,hp,nx⟩) (by simp only [opFn,b,Option.map_some]) h (U4 rfl)
theorem qc {op : Op} {j : Nat} {w : Bool} (a : K4 ops ⟨sl,hp,nx⟩ ⟨some t,op,ty,pos,af,some (j,w)⟩ = some false) (h : OpsK P T base ops dr l ⟨(t,.d (.tup []))::sl,hp,nx⟩ K) : OpsK P T base ops dr (⟨some t,op,ty,pos,af,some (j,w)⟩::l) ⟨sl,hp,nx⟩ K:=
  qxi a h
theorem qxd {x : Operand} {a : TypeId} {i : TI} {es : Nat} {xs : List (List DV)} {m : Nat} (j : K4 ops ⟨sl,hp,nx⟩ ⟨some t,.call {callee:=.builtin .len,args:=#[x],argTypes:=#[a]},ty,pos,af,g⟩ = some true) (f : T a = some i) (c : i.kind = .slice) (k : AS.ev ⟨sl,hp,nx⟩ x = some (.d (.sl es xs))) (b : xs.length = m)
    (h : OpsK P T base ops dr l ⟨(t,.d (.int .i64 m))::sl,hp,nx⟩ K) : OpsK P T base ops dr (⟨some t,.call {callee:=.builtin .len,args:=#[x],argTypes:=#[a]},ty,pos,af,g⟩::l) ⟨sl,hp,nx⟩ K:=by
  subst b;exact Yr j (v:=.d (.int .i64 xs.length)) (st1:=⟨sl,hp,nx⟩) (by simp only [opFn,evL,k,Yj];simp only [List.getElem?_toArray,List.getElem?_cons_zero,f,c]) h (U4 rfl)
end
end Go.Am
namespace Go.Am
open Go
def iter {α β : Type} (f : α→Option (α ⊕ β)) : Nat→α→Option β
  | 0,_=>none
  | n + 1,a=>match f a with
    | none=>none
    | some (.inl a')=>iter f n a'
    | some (.inr b)=>some b
theorem qh6 {α β : Type} {f : α→Option (α ⊕ β)} : ∀ {n : Nat} {a : α} {b : β},iter f n a = some b→∀ m,n≤m→iter f m a = some b
  | 0,_,_,h,_,_=>by simp [iter] at h
  | n + 1,a,b,h,m,hm=>by
    obtain ⟨k,rfl⟩ : ∃ k,m = k + 1:=⟨m - 1,q6⟩
    simp only [iter] at h ⊢
    split at h
    · simp at h
    · rename_i a' c;exact qh6 h k q6
    · exact h
theorem qum {α β : Type} {f : α→Option (α ⊕ β)} {n m : Nat} {a : α} {b c : β} (h : iter f n a = some b) (d : iter f m a = some c) : b = c:=by
  have j:=qh6 h (max n m) q6;have g:=qh6 d (max n m) q6;grind
open Classical in
noncomputable def loop {α β : Type} (f : α→Option (α ⊕ β)) (a : α) : Option β:=
  if h : ∃ b n,iter f n a = some b then some h.choose else none
theorem q9w {α β : Type} {f : α→Option (α ⊕ β)} {a : α} {b : β} : loop f a = some b↔∃ n,iter f n a = some b:=by
  unfold loop;split
  · rename_i h;constructor
    · grind
    · rintro ⟨n,d⟩;obtain ⟨m,c⟩:=h.choose_spec;rw [qum c d]
  grind
theorem Kn {α β : Type} {f : α→Option (α ⊕ β)} {a a' : α} (h : f a = some (.inl a')) : loop f a = loop f a':=by
  apply Option.ext;intro b;rw [q9w,q9w];constructor
  · rintro ⟨n,c⟩
    cases n with
    | zero=>simp [iter] at c
    | succ n=>simp only [iter,h] at c;exact ⟨n,c⟩
  · rintro ⟨n,c⟩;exact ⟨n + 1,by simp only [iter,h];exact c⟩
theorem Km {α β : Type} {f : α→Option (α ⊕ β)} {a : α} {b : β} (h : f a = some (.inr b)) : loop f a = some b:=
  q9w.2 ⟨1,by simp [iter,h]⟩
theorem qv4 {α β : Type} {f : α→Option (α ⊕ β)} (I : α→Prop) (μ : α→Nat) (Q : β→Prop) (step : ∀ a,I a→(∃ a',f a = some (.inl a')∧I a'∧μ a' < μ a)∨∃ b,f a = some (.inr b)∧Q b) {a : α} (h : I a) : ∃ b,loop f a = some b∧Q b:=by
  generalize j : μ a = n
  induction n using Nat.strongRecOn generalizing a with
  | _ n ih=>
    rcases step a h with ⟨a',d,c,g⟩ | ⟨b,d,c⟩
    · rw [Kn d];exact ih _ (j ▸ g) c rfl
    · exact ⟨b,Km d,c⟩
def w64 (x : Int) : Int:=IntKind.i64.wrap x
theorem Qm {x : Int} (h : -9223372036854775808≤x∧x≤9223372036854775807) : w64 x = x:=qj1 h
def idx {α : Type} (xs : List α) (i : Int) : Option α:=if 0≤i then xs[i.toNat]? else none
def app {α : Type} (c : Nat) (xs ys : List α) : Option (List α):=if (xs.length + ys.length) * (c * 4)≤4294967296 then some (xs ++ ys) else none
def sub2 (n : Nat) (a b : Int) : Option (Nat × Nat):=if 0≤a∧a≤b∧b≤n then some (a.toNat,b.toNat - a.toNat) else none
def cpyw {α : Type} (xs : List α) (w : Nat × Nat) (ys : List α) : List α:=splice xs w.1 (ys.take (min ys.length w.2))
theorem leb {n m : Nat} (h : Nat.ble n m = true) : n≤m:=by simpa using h
theorem qkn {α : Type} {xs ys : List α} {w : Nat × Nat} (h : w.1 + w.2≤xs.length) : (cpyw xs w ys).length = xs.length:=by
  simp [cpyw,splice];omega
theorem ltd {n m : Nat} (h : Nat.blt n m = true) : n < m:=by simpa [Nat.blt_eq] using h
def eI (k : IntKind) (x : Int) : List DV:=[.int k x]
def eB (b : Bool) : List DV:=[.bool b]
theorem qe0 {α : Type} {xs : List α} {i : Int} {v : α} (h : idx xs i = some v) : 0≤i∧xs[i.toNat]? = some v∧i.toNat < xs.length:=by
  unfold idx at h;grind
theorem q17j {α β : Type} {o : Option α} {f : α→Option β} {x : β} (h : o.bind f = some x) : ∃ v,o = some v∧f v = some x:=by
  cases o with
  | none=>cases h
  | some v=>exact ⟨v,rfl,h⟩
theorem qr {α : Type} {a b : α} (h : some a = some b) : a = b:=qd9 h
section
variable {P : Program} {T : Tab} {base : Nat} {cs : List Code} {st : AS} {K : Ex→AS→Prop}
theorem RunK.mono {a : Ex→AS→Prop} : ∀ {cs : List Code} {st : AS},RunK P T base cs st K→(∀ ex st,K ex st→a ex st)→RunK P T base cs st a
  | [],_,h,hk=>hk _ _ h
  | c::cs,st,h,hk=>q40.mono h fun ex st h=>by
    cases ex with
    | nor=>exact RunK.mono (cs:=cs) h hk
    | exit i=>exact hk _ _ h
    | ret=>exact hk _ _ h
theorem qo {α : Type} {c : Operand} {a b : Code} {t : Bool} {X Y : Option α} {x : α} (f : st.ev c = some (.d (.bool t))) (h : cond t X Y = some x) (j : t = true→X = some x→RunK P T base (a::cs) st K) (g : t = false→Y = some x→RunK P T base (b::cs) st K) :
    RunK P T base (.cond c a b::cs) st K:=by
  cases t with
  | true=>exact Zk f (j rfl h)
  | false=>exact Zg f (g rfl h)
theorem Qg {α β : Type} {body : Code} (f : α→Option (α ⊕ β)) (S : α→AS) (g : α) (m : β) (q : loop f g = some m) (o : WkE base st (S g))
    (round : ∀ a y,f a = some y→RunK P T base [body] (S a) (fun ex st'=>match ex with
      | .nor=>∃ a',y = .inl a'∧WkE base st' (S a')
      | ex=>∃ b,y = .inr b∧(b = m→K ex st'))) : RunK P T base (.loop body::cs) st K:=by
  obtain ⟨n,p⟩:=q9w.1 q;refine q10g (fun x : Nat × α=>S x.2) (fun x=>iter f x.1 x.2 = some m) (fun x=>x.1) (n,g) o p ?_;rintro ⟨k,a⟩ c
  cases k with
  | zero=>simp [iter] at c
  | succ k=>
    simp only [iter] at c;split at c
    · cases c
    · rename_i a' j;refine (round a _ j).mono ?_;intro ex st' h
      cases ex with
      | nor=>
        obtain ⟨a'',d,l⟩:=h;cases d;exact ⟨(k,a'),c,qg,l⟩
      | exit i=>obtain ⟨b,d,_⟩:=h;cases d
      | ret=>obtain ⟨b,d,_⟩:=h;cases d
    · rename_i b j;cases c;refine (round a _ j).mono ?_;grind
theorem Jc {id : Nat} {N : AS→Prop} (h : N st) : q46 id N K (.exit id) st:=by simpa [q46] using h
theorem Qp {id : Nat} {N : AS→Prop} (h : N st) : q46 id N K .nor st:=h
theorem Ya {β : Type} {c : Code} (E : β→Prop) (S : β→AS) (f : cs≠[]) (j : RunK P T base [c] st (qd5 (fun st'=>∃ b,E b∧WkE base st' (S b)) K)) (a : ∀ b,E b→RunK P T base cs (S b) K) : RunK P T base (c::cs) st K:=by
  obtain ⟨ex,st1,h,d⟩:=q6b j;refine ⟨ex,st1,h,?_⟩
  cases ex with
  | nor=>obtain ⟨b,hb,g⟩:=d;exact Yb g (a b hb) f
  | exit i=>exact d
  | ret=>exact d
theorem Qq {β : Type} {id : Nat} {a : Code} (E : β→Prop) (S : β→AS) (d : cs≠[]) (g : RunK P T base [a] st (q46 id (fun st'=>∃ b,E b∧WkE base st' (S b)) K)) (c : ∀ b,E b→RunK P T base cs (S b) K) : RunK P T base (.block id a::cs) st K:=by
  refine Q6 (g.mono ?_);intro ex st' h
  cases ex with
  | nor=>obtain ⟨b,hb,f⟩:=h;exact Yb f (c b hb) d
  | ret=>exact h
  | exit i=>
    simp only [q46] at h ⊢;split
    · rename_i hi;rw [Q1 hi] at h;obtain ⟨b,hb,f⟩:=h;exact Yb f (c b hb) d
    grind
theorem q5i {β : Type} {c : Code} (E : β→Prop) (S : β→AS) (f : RunK P T base [c] st (qd5 (fun st'=>∃ b,E b∧WkE base st' (S b)) K)) (a : ∀ b st',E b→WkE base st' (S b)→K .nor st') : RunK P T base [c] st K:=by
  refine f.mono ?_;intro ex st' h
  cases ex with
  | nor=>obtain ⟨b,hb,d⟩:=h;exact a b st' hb d
  | exit i=>exact h
  | ret=>exact h
end
section
variable {P : Program} {T : Tab} {base : Nat} {ops : Array Oper} {dr : Dr} {l : List Oper} {sl : List (Nat × V)} {hp : List (Nat × Blk)} {nx : Nat} {K : AS→Prop} {ty : TypeId} {pos : String} {af : Array Edge} {t : Tmp} {g : Option (Nat × Bool)}
theorem qxk {op : Op} (v : V) (b : K4 ops ⟨sl,hp,nx⟩ ⟨some t,op,ty,pos,af,g⟩ = some true) (a : opFn T ⟨sl,hp,nx⟩ op = some (v,⟨sl,hp,nx⟩)) (h : OpsK P T base ops dr l ⟨(t,v)::sl,hp,nx⟩ K) (c : okO dr l.length ⟨sl,hp,nx⟩ (op) ⟨sl,hp,nx⟩ = true:=by rfl) : OpsK P T base ops dr (⟨some t,op,ty,pos,af,g⟩::l) ⟨sl,hp,nx⟩ K:=
  Yr b a h c
theorem qxf {op : Op} (v : V) (b : Blk) (c : K4 ops ⟨sl,hp,nx⟩ ⟨some t,op,ty,pos,af,g⟩ = some true) (a : opFn T ⟨sl,hp,nx⟩ op = some (v,⟨sl,(nx,b)::hp,nx + 1⟩)) (h : OpsK P T base ops dr l ⟨(t,v)::sl,(nx,b)::hp,nx + 1⟩ K) (d : okO dr l.length ⟨sl,hp,nx⟩ (op) ⟨sl,(nx,b)::hp,nx + 1⟩ = true:=by rfl) : OpsK P T base ops dr (⟨some t,op,ty,pos,af,g⟩::l) ⟨sl,hp,nx⟩ K:=
  Yr c a h d
theorem qed {op : Op} {es len : Nat} (xs : List (List DV)) (j : K4 ops ⟨sl,hp,nx⟩ ⟨some t,op,ty,pos,af,g⟩ = some true) (b : opFn T ⟨sl,hp,nx⟩ op = some (.hs nx es 0 len,⟨sl,(nx,.dat es xs)::hp,nx + 1⟩)) (c : len = xs.length) (f : touch op = 2) (a : find hp nx = none) (h : OpsK P T base ops dr l ⟨(t,.d (.sl es xs))::sl,hp,nx + 1⟩ K) (k : okF dr l.length (fp ⟨sl,hp,nx⟩ op) = true:=by rfl) : OpsK P T base ops dr (⟨some t,op,ty,pos,af,g⟩::l) ⟨sl,hp,nx⟩ K:=by
  subst c;exact qxg (n:=nx) (hp2:=hp) (st1:=⟨sl,(nx,.dat es xs)::hp,nx + 1⟩) j b f ⟨rfl,rfl⟩ rfl a h k
theorem qxj {op : Op} (n : Nat) (b : Blk) (c : K4 ops ⟨sl,hp,nx⟩ ⟨none,op,ty,pos,af,g⟩ = some true) (a : opFn T ⟨sl,hp,nx⟩ op = some (.dead,⟨sl,repl hp n b,nx⟩)) (h : OpsK P T base ops dr l ⟨sl,repl hp n b,nx⟩ K) (d : okO dr l.length ⟨sl,hp,nx⟩ (op) ⟨sl,repl hp n b,nx⟩ = true:=by rfl) : OpsK P T base ops dr (⟨none,op,ty,pos,af,g⟩::l) ⟨sl,hp,nx⟩ K:=
  Yr c a h d
theorem Qc {α : Type} {x : Operand} {b : Bool} {X Y : Option α} {m : α} (a : K4 ops ⟨sl,hp,nx⟩ ⟨some t,.move x,ty,pos,af,g⟩ = some true) (c : AS.ev ⟨sl,hp,nx⟩ x = some (.d (.bool b))) (h : cond b X Y = some m)
    (j : X = some m→OpsK P T base ops dr l ⟨(t,.d (.bool true))::sl,hp,nx⟩ K) (f : Y = some m→OpsK P T base ops dr l ⟨(t,.d (.bool false))::sl,hp,nx⟩ K) : OpsK P T base ops dr (⟨some t,.move x,ty,pos,af,g⟩::l) ⟨sl,hp,nx⟩ K:=by
  cases b with
  | true=>exact qhs a c (j h)
  | false=>exact qhs a c (f h)
theorem q1t {dr : Dr} (hd : dr = none) {m n : List Oper} {st st1 st2 : AS} : Ku P T base ops dr m st st1→Ku P T base ops dr n st1 st2→Ku P T base ops dr (m ++ n) st st2
  | .nil,h2=>h2
  | .skip a b,h2=>.skip a (q1t hd b h2)
  | .op a b _ c,h2=>.op a b (by subst hd;rfl) (q1t hd c h2)
  | .opF a b c d e f _ g,h2=>.opF a b c d e f (by subst hd;rfl) (q1t hd g h2)
  | .callP a b c d e f g h _ i,h2=>.callP a b c d e f g h (by subst hd;rfl) (q1t hd i h2)
  | .callS a b c d e,h2=>.callS a b c d (q1t hd e h2)
  | .callF a b c d e f g h i,h2=>.callF a b c d e f g h (q1t hd i h2)
  | .callW a b c d e f g h _ i,h2=>.callW a b c d e f g h (by subst hd;rfl) (q1t hd i h2)
  | .callY a b c d e f g h i j k l,h2=>.callY a b c d e f g h i j k (q1t hd l h2)
  | .wk a b,h2=>.wk a (q1t hd b h2)
  | .piv _ _ _,_=>by cases hd
theorem qgq {F : List Fp} {m k : Nat} : fpAt (F.drop m) k = fpAt F (k + m):=by
  unfold fpAt;grind
theorem qx3 {F : List Fp} {l a : List Oper} {dr : Dr} (hd : dr = some (F.drop a.length)) {st st1 : AS} {op : Op} (h : okO dr l.length st op st1 = true) : okO (some F) (l ++ a).length st op st1 = true:=by
  subst hd;simp only [okO,qgq] at h;simpa only [okO,List.length_append] using h
theorem qhq {F : List Fp} {l a : List Oper} {dr : Dr} (hd : dr = some (F.drop a.length)) {x : Fp} (h : okF dr l.length x = true) : okF (some F) (l ++ a).length x = true:=by
  subst hd;simp only [okF,qgq] at h;simpa only [okF,List.length_append] using h
theorem qte {F : List Fp} {m : List Oper} {dr : Dr} {k : Dr} (q : k = some F) (hd : dr = some (F.drop m.length)) {n : List Oper} {st st1 st2 : AS} (p : Ku P T base ops dr n st st1) (r : Ku P T base ops k m st1 st2) : Ku P T base ops k (n ++ m) st st2:=by
  subst q
  induction n generalizing st with
  | nil=>cases p with
    | nil=>exact r
    | wk _ _=>cases hd
  | cons o l ih=>
    cases p with
    | skip a b=>exact .skip a (ih b)
    | op a b c d=>exact .op a b (qx3 hd c) (ih d)
    | opF a b c d e f g h=>exact .opF a b c d e f (qhq hd g) (ih h)
    | callP a b c d e f g h i j=>exact .callP a b c d e f g h (qhq hd i) (ih j)
    | callS _ _ _ _ _=>cases hd
    | callF _ _ _ _ _ _ _ _ _=>cases hd
    | callW a b c d e f g h i j=>exact .callW a b c d e f g h (qhq hd i) (ih j)
    | callY _ _ _ _ _ _ _ _ _ _ _ _=>cases hd
    | wk _ _=>cases hd
    | piv a b c=>
      cases hd;rw [qgq] at a;exact .piv (by show q1l (fpAt F (l ++ m).length) = true;rw [List.length_append];exact a) b (ih c)
def qko (dr : Dr) (k : Nat) : Dr:=match dr with
  | none=>none
  | some F=>some (F.drop k)
theorem qtd {dr : Dr} {d a : List Oper} {st st1 st2 : AS} (b : Ku P T base ops (qko dr a.length) d st st1) (c : Ku P T base ops dr a st1 st2) : Ku P T base ops dr (d ++ a) st st2:=by
  cases dr with
  | none=>exact q1t rfl b c
  | some F=>exact qte rfl rfl b c
theorem Qd (n : Nat) (Q : (List (Nat × V)→AS)→AS→Prop) (f : OpsK P T base ops (qko dr (l.drop n).length) (l.take n) ⟨sl,hp,nx⟩ (Q fun p=>⟨p ++ sl,hp,nx⟩)) (d : ∀ st',Q (fun p=>⟨p ++ sl,hp,nx⟩) st'→OpsK P T base ops dr (l.drop n) st' K) : OpsK P T base ops dr l ⟨sl,hp,nx⟩ K:=by
  obtain ⟨st1,c,a⟩:=f;obtain ⟨st2,g,b⟩:=d st1 a;refine ⟨st2,?_,b⟩;have:=qtd c g;simp_all
theorem qxb {α : Type} {x y : Operand} {a : TypeId} {i : TI} {k : IntKind} {n : Int} {es : Nat} {xs : List α} {enc : α→List DV} {v : α} (o : idx xs n = some v) (f : K4 ops ⟨sl,hp,nx⟩ ⟨some t,.indexAddr a x y,ty,pos,af,g⟩ = some true) (q : T a = some i)
    (j : AS.ev ⟨sl,hp,nx⟩ x = some (.d (.sl es (xs.map enc)))) (b : AS.ev ⟨sl,hp,nx⟩ y = some (.d (.int k n))) (m : i.kind = .slice) (p : es = i.esize)
    (h : OpsK P T base ops dr l ⟨(t,.dref (enc v) 0)::sl,hp,nx⟩ K) : OpsK P T base ops dr (⟨some t,.indexAddr a x y,ty,pos,af,g⟩::l) ⟨sl,hp,nx⟩ K:=by
  obtain ⟨c,r,_⟩:=qe0 o;exact Yr f (v:=.dref (enc v) 0) (st1:=⟨sl,hp,nx⟩) (by simp [opFn,j,b,q,q4g,m,p,c,r]) h (U4 rfl)
theorem qxa {α : Type} {x y : Operand} {a : TypeId} {i : TI} {k : IntKind} {n : Int} {m es len : Nat} {xs : List α} {v : α} (q : idx xs n = some v) (b : len = xs.length) (j : K4 ops ⟨sl,hp,nx⟩ ⟨some t,.indexAddr a x y,ty,pos,af,g⟩ = some true) (s : T a = some i)
    (o : AS.ev ⟨sl,hp,nx⟩ x = some (.hs m es 0 len)) (c : AS.ev ⟨sl,hp,nx⟩ y = some (.d (.int k n))) (p : i.kind = .slice) (r : es = i.esize)
    (h : OpsK P T base ops dr l ⟨(t,.ref m es n.toNat 0)::sl,hp,nx⟩ K) : OpsK P T base ops dr (⟨some t,.indexAddr a x y,ty,pos,af,g⟩::l) ⟨sl,hp,nx⟩ K:=by
  subst b;obtain ⟨f,_,u⟩:=qe0 q;exact Yr j (v:=.ref m es n.toNat 0) (st1:=⟨sl,hp,nx⟩) (by simp [opFn,o,c,s,q4g,p,r,f];omega) h (U4 rfl)
theorem qxe {α : Type} {p : Operand} {a : TypeId} {i : TI} {m es j : Nat} {n : Int} {xs : List α} {enc : α→List DV} {r : List DV} {v : α} (w : V) (k : idx xs n = some v) (c : K4 ops ⟨sl,hp,nx⟩ ⟨some t,.load a p,ty,pos,af,g⟩ = some true) (o : T a = some i)
    (f : AS.ev ⟨sl,hp,nx⟩ p = some (.ref m es n.toNat j)) (hb : find hp m = some (.dat es (xs.map enc))) (hs : sub (enc v) j i.size = some r) (b : (q1n i.agg r).map .d = some w)
    (h : OpsK P T base ops dr l ⟨(t,w)::sl,hp,nx⟩ K) (q : okF dr l.length (fp ⟨sl,hp,nx⟩ (.load a p)) = true:=by rfl) : OpsK P T base ops dr (⟨some t,.load a p,ty,pos,af,g⟩::l) ⟨sl,hp,nx⟩ K:=
  qee c o f hb (by rw [List.getElem?_map,(qe0 k).2.1];rfl) hs b h q
theorem Qx {α : Type} {p x : Operand} {k : TypeId} {i : TI} {m es j : Nat} {n : Int} {xs : List α} {enc : α→List DV} {v : α} (f : α) {u : V} {ds : List DV} (w : idx xs n = some v) (r : K4 ops ⟨sl,hp,nx⟩ ⟨none,.store k p x,ty,pos,af,g⟩ = some true) (z : T k = some i)
    (hp' : AS.ev ⟨sl,hp,nx⟩ p = some (.ref m es n.toNat j)) (s : AS.ev ⟨sl,hp,nx⟩ x = some u) (hb : find hp m = some (.dat es (xs.map enc))) (o : cellsOf u = ds.map .d) (q : ds.length = i.size) (t : ds.all Zv = true) (y : j + i.size≤(enc v).length) (hs : splice (enc v) j ds = enc f)
    (h : OpsK P T base ops dr l ⟨sl,repl hp m (.dat es ((xs.set n.toNat f).map enc)),nx⟩ K) (hF : okO dr l.length ⟨sl,hp,nx⟩ (.store k p x) ⟨sl,repl hp m (.dat es ((xs.set n.toNat f).map enc)),nx⟩ = true:=by rfl) : OpsK P T base ops dr (⟨none,.store k p x,ty,pos,af,g⟩::l) ⟨sl,hp,nx⟩ K:=by
  refine Yr r (v:=.dead) (st1:=⟨sl,repl hp m (.dat es ((xs.set n.toNat f).map enc)),nx⟩) ?_ h hF;have a : (cellsOf u).all Kt = true:=by rw [o,List.all_map];exact t
  have c : (cellsOf u).length = i.size:=by rw [o];simpa using q
  have b : (xs.map enc)[n.toNat]? = some (enc v):=by rw [List.getElem?_map,(qe0 w).2.1];rfl
  simp only [opFn,z,hp',s,Ub,AS.blk,hb,Nat.beq_refl,b];rw [Q2 (by simp [a,c]),Q1 y,o,qft];simp only [hs,List.map_set,AS.setBlk];rfl
theorem qnj {α : Type} {x : Operand} {a : TypeId} {i : TI} {es : Nat} {xs : List α} {enc : α→List DV} (f : K4 ops ⟨sl,hp,nx⟩ ⟨some t,.call {callee:=.builtin .len,args:=#[x],argTypes:=#[a]},ty,pos,af,g⟩ = some true) (c : T a = some i) (b : i.kind = .slice) (j : AS.ev ⟨sl,hp,nx⟩ x = some (.d (.sl es (xs.map enc))))
    (h : OpsK P T base ops dr l ⟨(t,.d (.int .i64 (xs.length : Int)))::sl,hp,nx⟩ K) : OpsK P T base ops dr (⟨some t,.call {callee:=.builtin .len,args:=#[x],argTypes:=#[a]},ty,pos,af,g⟩::l) ⟨sl,hp,nx⟩ K:=
  qxd f c b j qg h
theorem Kq {α : Type} {x y : Operand} {a c : TypeId} {i j : TI} {n es len : Nat} {xs ys zs : List α} {enc : α→List DV} (m : V) (d : app i.ebytes xs ys = some zs) (b : len = xs.length) (r : K4 ops ⟨sl,hp,nx⟩ ⟨some t,.call {callee:=.builtin .append,args:=#[x,y],argTypes:=#[a,c]},ty,pos,af,g⟩ = some true)
    (w : T a = some i) (k : T c = some j) (s : AS.ev ⟨sl,hp,nx⟩ x = some (.hs n es 0 len)) (p : AS.ev ⟨sl,hp,nx⟩ y = some m) (hb : find hp n = some (.dat es (xs.map enc))) (z : Z5 ⟨sl,hp,nx⟩ m = some (ys.map enc))
    (u : i.kind = .slice) (f : j.kind = .slice) (v : es = i.esize) (o : Jg i.esize m = true)
    (h : OpsK P T base ops dr l ⟨(t,.hs nx es 0 zs.length)::sl,(nx,.dat es (zs.map enc))::repl hp n .dead,nx + 1⟩ K) (hF : okF dr l.length (fp ⟨sl,hp,nx⟩ (.call {callee:=.builtin .append,args:=#[x,y],argTypes:=#[a,c]})) = true:=by rfl) : OpsK P T base ops dr (⟨some t,.call {callee:=.builtin .append,args:=#[x,y],argTypes:=#[a,c]},ty,pos,af,g⟩::l) ⟨sl,hp,nx⟩ K:=by
  subst b;unfold app at d;split at d
  · rename_i q;cases d;refine qx5 r w k s p hb qg z u f v o (by simpa [Nat.mul_assoc] using q) ?_ hF;grind
  · cases d
theorem Ko {α : Type} {n es len : Nat} {ys : List α} {enc : α→List DV} (a : len = ys.length) (hb : find hp n = some (.dat es (ys.map enc))) : Z5 ⟨sl,hp,nx⟩ (.hs n es 0 len) = some (ys.map enc):=by
  subst a;simp only [Z5,AS.blk,hb];grind
theorem q47 {o : Operand} {k : IntKind} {a : Int} {d : Nat} {st : AS} (h : st.ev o = some (.d (.int k a))) (b : 0≤a) : bound st d (some o) = some a.toNat:=by
  simp [bound,h,b]
theorem q4t {x : Operand} {f : TypeId} {lo hi : Option Operand} {i : TI} {n es len : Nat} {a b : Int} {w : Nat × Nat} (c : sub2 len a b = some w) (m : K4 ops ⟨sl,hp,nx⟩ ⟨some t,.slice f x lo hi none,ty,pos,af,g⟩ = some true) (q : T f = some i) (p : i.kind = .slice) (r : es = i.esize)
    (o : AS.ev ⟨sl,hp,nx⟩ x = some (.hs n es 0 len)) (j : 0≤a→bound ⟨sl,hp,nx⟩ 0 lo = some a.toNat) (d : 0≤b→bound ⟨sl,hp,nx⟩ len hi = some b.toNat)
    (h : OpsK P T base ops dr l ⟨(t,.hs n es w.1 w.2)::sl,hp,nx⟩ K) : OpsK P T base ops dr (⟨some t,.slice f x lo hi none,ty,pos,af,g⟩::l) ⟨sl,hp,nx⟩ K:=by
  unfold sub2 at c;split at c
  · rename_i k;cases c;refine Yr m (v:=.hs n es a.toNat (b.toNat - a.toNat)) (st1:=⟨sl,hp,nx⟩) ?_ h (U4 rfl);simp only [opFn,q,o,p,lenV,j k.1,d q6,qf0];grind
  · cases c
theorem q66 {n : Nat} {a b : Int} {w : Nat × Nat} (h : sub2 n a b = some w) : w.1 + w.2≤n:=by
  unfold sub2 at h;grind
theorem q15y {α β : Type} (f : α→β) (xs ys : List α) (j : Nat) : splice (xs.map f) j (ys.map f) = (splice xs j ys).map f:=by
  simp [splice,List.map_take,List.map_drop]
theorem qx8 {α : Type} {x y : Operand} {a b : TypeId} {i j : TI} {n es : Nat} {w : Nat × Nat} {xs ys : List α} {enc : α→List DV} (k : V) (m : w.1 + w.2≤xs.length) (q : K4 ops ⟨sl,hp,nx⟩ ⟨some t,.call {callee:=.builtin .copy,args:=#[x,y],argTypes:=#[a,b]},ty,pos,af,g⟩ = some true)
    (z : T a = some i) (f : T b = some j) (r : AS.ev ⟨sl,hp,nx⟩ x = some (.hs n es w.1 w.2)) (p : AS.ev ⟨sl,hp,nx⟩ y = some k) (hb : find hp n = some (.dat es (xs.map enc))) (hc : Z5 ⟨sl,hp,nx⟩ k = some (ys.map enc))
    (s : i.kind = .slice) (c : j.kind = .slice) (u : es = i.esize) (o : Jg i.esize k = true)
    (h : OpsK P T base ops dr l ⟨(t,.d (.int .i64 (min ys.length w.2 : Nat)))::sl,repl hp n (.dat es ((cpyw xs w ys).map enc)),nx⟩ K) (hF : okO dr l.length ⟨sl,hp,nx⟩ (.call {callee:=.builtin .copy,args:=#[x,y],argTypes:=#[a,b]}) ⟨sl,repl hp n (.dat es ((cpyw xs w ys).map enc)),nx⟩ = true:=by rfl) : OpsK P T base ops dr (⟨some t,.call {callee:=.builtin .copy,args:=#[x,y],argTypes:=#[a,b]},ty,pos,af,g⟩::l) ⟨sl,hp,nx⟩ K:=by
  refine Yr q (v:=.d (.int .i64 (min ys.length w.2 : Nat))) (st1:=⟨sl,repl hp n (.dat es ((cpyw xs w ys).map enc)),nx⟩) ?_ h hF;simp only [opFn,evL,r,p,Yj];simp only [List.getElem?_toArray,List.getElem?_cons_zero,List.getElem?_cons_succ,z,f];rw [Q1 ⟨s,c,by simp [Jg,u],o⟩];simp only [copyV,AS.blk,hb,hc];rw [Q1 ⟨by simpa using m,trivial⟩];simp only [List.length_map,cpyw,← List.map_take,q15y,AS.setBlk]
theorem qst {α : Type} {n es : Nat} {w : Nat × Nat} {ys : List α} {enc : α→List DV} (a : w.1 + w.2≤ys.length) (hb : find hp n = some (.dat es (ys.map enc))) : Z5 ⟨sl,hp,nx⟩ (.hs n es w.1 w.2) = some (((ys.drop w.1).take w.2).map enc):=by
  simp only [Z5,AS.blk,hb];simp_all
theorem qa1 {k c : IntKind} {a b : Int} {r : List V} : minI false (.d (.int k a)) (.d (.int c b)::r) = minI false (.d (.int k (min a b))) r:=by
  simp only [minI];grind
theorem qa0 {k c : IntKind} {a b : Int} {r : List V} : minI true (.d (.int k a)) (.d (.int c b)::r) = minI true (.d (.int k (max a b))) r:=by
  simp only [minI];grind
theorem qa8 {xs : Array Operand} {ats : Array TypeId} {b : List V} {k : IntKind} {a : Int} {r : Int} (f : K4 ops ⟨sl,hp,nx⟩ ⟨some t,.call {callee:=.builtin .min,args:=xs,argTypes:=ats},ty,pos,af,g⟩ = some true) (j : evL (AS.ev ⟨sl,hp,nx⟩) xs.toList = some (.d (.int k a)::b)) (c : minI false (.d (.int k a)) b = some (.d (.int k r)))
    (h : OpsK P T base ops dr l ⟨(t,.d (.int k r))::sl,hp,nx⟩ K) : OpsK P T base ops dr (⟨some t,.call {callee:=.builtin .min,args:=xs,argTypes:=ats},ty,pos,af,g⟩::l) ⟨sl,hp,nx⟩ K:=
  Yr f (v:=.d (.int k r)) (st1:=⟨sl,hp,nx⟩) (by simp [opFn,j,Yj,c]) h (U4 rfl)
theorem qa7 {xs : Array Operand} {ats : Array TypeId} {b : List V} {k : IntKind} {a : Int} {r : Int} (f : K4 ops ⟨sl,hp,nx⟩ ⟨some t,.call {callee:=.builtin .max,args:=xs,argTypes:=ats},ty,pos,af,g⟩ = some true) (j : evL (AS.ev ⟨sl,hp,nx⟩) xs.toList = some (.d (.int k a)::b)) (c : minI true (.d (.int k a)) b = some (.d (.int k r)))
    (h : OpsK P T base ops dr l ⟨(t,.d (.int k r))::sl,hp,nx⟩ K) : OpsK P T base ops dr (⟨some t,.call {callee:=.builtin .max,args:=xs,argTypes:=ats},ty,pos,af,g⟩::l) ⟨sl,hp,nx⟩ K:=
  Yr f (v:=.d (.int k r)) (st1:=⟨sl,hp,nx⟩) (by simp [opFn,j,Yj,c]) h (U4 rfl)
theorem q2t {c : Call} {f : FuncId} {ds : List DV} {r : DV} (a : List V) (b : Pure P T f ds r) (j : K4 ops ⟨sl,hp,nx⟩ ⟨some t,.call c,ty,pos,af,g⟩ = some true) (k : callee ⟨sl,hp,nx⟩ c = some (f,a)) (hd : Kz hp a = some ds)
    (hs : (a.all V.isD = true∨r.scalar = true)) (h : OpsK P T base ops dr l ⟨(t,.d r)::sl,hp,nx⟩ K) (m : okF dr l.length (fpC a) = true:=by rfl) : OpsK P T base ops dr (⟨some t,.call c,ty,pos,af,g⟩::l) ⟨sl,hp,nx⟩ K:=
  qnf j rfl k hd hs b h m
theorem Za {hp : List (Nat × Blk)} {v : V} {d : DV} {a : List V} {ds : List DV} (h : toD hp 8 v = some d) (b : Kz hp a = some ds) : Kz hp (v::a) = some (d::ds):=by
  simp [Kz,h,b]
theorem Yz {α : Type} {k n es len : Nat} {ys : List α} {enc : α→List DV} (a : len = ys.length) (hb : find hp n = some (.dat es (ys.map enc))) : toD hp (k + 1) (.hs n es 0 len) = some (.sl es (ys.map enc)):=by
  subst a;simp only [toD,hb];grind
theorem q2i {k : Nat} {a : List V} {ds : List DV} (h : Zo (toD hp k) a = some ds) : toD hp (k + 1) (.tup a) = some (.tup ds):=by simp [toD,h]
theorem qix {k : Nat} {f : FuncId} {a : List V} {ds : List DV} (h : Zo (toD hp k) a = some ds) : toD hp (k + 1) (.fn f a) = some (.fn f ds):=by simp [toD,h]
theorem Ym {k : Nat} {v : V} {d : DV} {a : List V} {ds : List DV} (h : toD hp k v = some d) (b : Zo (toD hp k) a = some ds) : Zo (toD hp k) (v::a) = some (d::ds):=by simp [Zo,h,b]
inductive DLeL : List DV→List DV→Prop
  | nil : DLeL [] []
  | cons {x y : DV} {xs ys : List DV} : DLe x y→DLeL xs ys→DLeL (x::xs) (y::ys)
theorem DLeL.len {xs ys : List DV} (h : DLeL xs ys) : xs.length = ys.length:=by
  induction h with
  | nil=>rfl
  | cons _ _ ih=>simp [ih]
theorem DLeL.get {xs ys : List DV} (h : DLeL xs ys) : ∀ (i : Nat) (x y : DV),xs[i]? = some x→ys[i]? = some y→DLe x y:=by
  induction h with
  | nil=>intro i x y h;simp at h
  | cons h1 _ ih=>grind
theorem Y8 {xs ys : List DV} (h : DLeL xs ys) : DLe (.tup xs) (.tup ys):=.tup h.len h.get
theorem finD {ex : Ex} {st : AS} {b : List ResultVar} {v : V} {r a : DV} (g : ex = .nor∨ex = .ret) (c : resV T st b = some v) (f : toD st.hp 8 v = some a) (d : DLe a r) : (ex = .nor∨ex = .ret)∧∃ v a,resV T st b = some v∧toD st.hp 8 v = some a∧DLe a r:=
  ⟨g,v,a,c,f,d⟩
end
theorem qj2 {α : Type} {st : AS} {ρ : Nat→Nat} {fz ph : List Nat} {nx n es len : Nat} {ys : List α} {enc : α→List DV} (a : len = ys.length) (hb : st.blk n = some (.dat es (ys.map enc))) (b : n∈fz) : Wv st ρ fz ph nx (.hs n es 0 len) (.d (.sl es (ys.map enc))):=by
  subst a;exact .frz hb b qg (by rw [List.drop_zero,List.take_of_length_le qg]) rfl
theorem K2 {st : AS} {ρ : Nat→Nat} {fz ph : List Nat} {nx n m es o l l' : Nat} (a : l = l') (c : ρ m = n) (b : m ∉ ph) (d : m < nx) : Wv st ρ fz ph nx (.hs n es o l) (.hs m es o l'):=a ▸ .hs c b d
inductive WvC (st : AS) (ρ : Nat→Nat) (fz ph : List Nat) (nx : Nat) : List V→List V→Prop
  | nil : WvC st ρ fz ph nx [] []
  | cons {c d : V} {cs ds : List V} : Wv st ρ fz ph nx c d→Kt d = true→WvC st ρ fz ph nx cs ds→WvC st ρ fz ph nx (c::cs) (d::ds)
theorem WvC.len {st : AS} {ρ : Nat→Nat} {fz ph : List Nat} {nx : Nat} {cs ds : List V} (h : WvC st ρ fz ph nx cs ds) : cs.length = ds.length:=by
  induction h with
  | nil=>rfl
  | cons _ _ _ ih=>simp [ih]
theorem WvC.get {st : AS} {ρ : Nat→Nat} {fz ph : List Nat} {nx : Nat} {cs ds : List V} (h : WvC st ρ fz ph nx cs ds) : ∀ (j : Nat) (c d : V),cs[j]? = some c→ds[j]? = some d→Wv st ρ fz ph nx c d∧Kt d = true:=by
  induction h with
  | nil=>intro i x y h;simp at h
  | cons h1 h2 _ ih=>grind
theorem Zl {st : AS} {ρ : Nat→Nat} {fz ph : List Nat} {nx es : Nat} {cs ds : List V} (h : WvC st ρ fz ph nx cs ds) : Wb st ρ fz ph nx (.cel es [cs]) (.cel es [ds]):=by
  refine .cel rfl fun i x y a b=>?_
  cases i with
  | zero=>simp at a b;subst a b;exact ⟨h.len,h.get⟩
  | succ i=>simp at a
theorem qj0 {st : AS} {ρ : Nat→Nat} {fz ph : List Nat} {nx es : Nat} {cs : List DV} {ds : List V} (h : WvC st ρ fz ph nx (cs.map .d) ds) : Wb st ρ fz ph nx (.dat es [cs]) (.cel es [ds]):=by
  refine .datcel rfl fun i x y a b=>?_
  cases i with
  | zero=>
    simp at a b;subst a b;exact ⟨by simpa using h.len,fun j c d f hd=>h.get j (.d c) d (by simp [f]) hd⟩
  | succ i=>simp at a
inductive WvL (st : AS) (ρ : Nat→Nat) (fz ph : List Nat) (nx : Nat) : List V→List V→Prop
  | nil : WvL st ρ fz ph nx [] []
  | cons {c d : V} {cs ds : List V} : Wv st ρ fz ph nx c d→WvL st ρ fz ph nx cs ds→WvL st ρ fz ph nx (c::cs) (d::ds)
theorem WvL.len {st : AS} {ρ : Nat→Nat} {fz ph : List Nat} {nx : Nat} {cs ds : List V} (h : WvL st ρ fz ph nx cs ds) : cs.length = ds.length:=by
  induction h with
  | nil=>rfl
  | cons _ _ ih=>simp [ih]
theorem WvL.get {st : AS} {ρ : Nat→Nat} {fz ph : List Nat} {nx : Nat} {cs ds : List V} (h : WvL st ρ fz ph nx cs ds) : ∀ (j : Nat) (c d : V),cs[j]? = some c→ds[j]? = some d→Wv st ρ fz ph nx c d:=by
  induction h with
  | nil=>intro i x y h;simp at h
  | cons h1 _ ih=>grind
theorem q13 {st : AS} {ρ : Nat→Nat} {fz ph : List Nat} {nx : Nat} {f : FuncId} {cs ds : List V} (h : WvL st ρ fz ph nx cs ds) : Wv st ρ fz ph nx (.fn f cs) (.fn f ds):=.fn h.len h.get
theorem qj4 {st : AS} {ρ : Nat→Nat} {fz ph : List Nat} {nx : Nat} {cs ds : List V} (h : WvL st ρ fz ph nx cs ds) : Wv st ρ fz ph nx (.tup cs) (.tup ds):=.tup h.len h.get
theorem q17b {st : AS} {ρ : Nat→Nat} {fz ph : List Nat} {nx : Nat} {cs : List DV} {ds : List V} (h : WvL st ρ fz ph nx (cs.map .d) ds) : Wv st ρ fz ph nx (.d (.tup cs)) (.tup ds):=
  .dtup (by have:=h.len;simpa using this) fun i c d a hd=>h.get i _ d (by simp [a]) hd
theorem q17a {st : AS} {ρ : Nat→Nat} {fz ph : List Nat} {nx : Nat} {cs : List DV} {ds : List V} (h : WvL st ρ fz ph nx (cs.map .d) ds) : Wv st ρ fz ph nx (.d (.agg cs)) (.agg ds):=
  .dagg (by have:=h.len;simpa using this) fun i c d a hd=>h.get i _ d (by simp [a]) hd
theorem qfi {st : AS} {ρ : Nat→Nat} {fz ph : List Nat} {nx : Nat} {cs ds : List V} (h : WvL st ρ fz ph nx cs ds) : Wv st ρ fz ph nx (.agg cs) (.agg ds):=.agg h.len h.get
theorem ql1 {P : Program} {T : Tab} {f : FuncId} {ds g : List DV} (j : DLeL g ds) {o : List V} {hp hp' : List (Nat × Blk)} {nx nx' : Nat} {v : V} : K8 P T f o hp nx v hp' nx'→o = ds.map .d→hp = []→nx = 0→K8 P T f (g.map .d) [] 0 v hp' nx'
  | .wk e w,a,hh,hn=>by
    have h:=ql1 j e a hh hn
    subst hh hn
    exact .wk h w
  | .mk h1 h2 h3 h4 h5 h6 h7 h8,a,hh,hn=>by
    subst a hh hn
    refine .mk h1 h2 h3 h4 (by simpa [j.len] using h5) (.wk (ρ:=fun n=>n) (fz:=[]) (ph:=[]) ⟨?_,?_,?_,?_,?_,?_,?_,?_⟩ h6) h7 h8
    · intro t p a
      simp only [AS.get,q6a] at a ⊢
      simp only [Nat.zero_le,if_true,Nat.sub_zero,List.getElem?_map,Yc] at a ⊢
      obtain ⟨y,k,rfl⟩:=a
      obtain ⟨x,l⟩:=J2 (xs:=g) (i:=t) (by rw [j.len];exact Kj k)
      exact ⟨_,⟨x,l,rfl⟩,.d (j.get t x y l k)⟩
    · intro n b h;simp [AS.blk,find] at h
    · intro n m b c h;simp [AS.blk,find] at h
    · intro n b h;simp [AS.blk,find] at h
    · intro n h;rfl
    · exact Nat.le_refl _
    · intro n h;cases h
    · intro n h;cases h
theorem qa9 {P : Program} {T : Tab} {f : FuncId} {ds a : List DV} {r : DV} (d : DLeL a ds) (h : Pure P T f ds r) : Pure P T f a r:=by
  obtain ⟨v,hp,nx,c,e,g,b⟩:=h;exact ⟨v,hp,nx,c,ql1 d e rfl rfl rfl,g,b⟩
end Go.Am
namespace Go.Am
open Go
theorem q17r {k : IntKind} {d : DV} (h : Ty (.int k) d) : ∃ n : Int,d = .int k n∧(Lit.int k n).wf = true:=by
  cases h with | int hw=>exact ⟨_,rfl,hw⟩
def q67 (l : List CT) (x : List DV) : Prop:=x.length = l.length∧∀ (j : Nat) (c : CT) (d : DV),l[j]? = some c→x[j]? = some d→Ty c d
theorem q17o {x : List DV} (h : q67 [] x) : x = []:=List.length_eq_zero_iff.1 h.1
theorem q17n {c : CT} {l : List CT} {x : List DV} (h : q67 (c::l) x) : ∃ d r,x = d::r∧Ty c d∧q67 l r:=by
  obtain ⟨b,a⟩:=h
  cases x with
  | nil=>simp at b
  | cons d r=>exact ⟨d,r,rfl,a 0 c d rfl rfl,by simpa using b,fun j g f k hd=>a (j + 1) g f (by simpa using k) (by simpa using hd)⟩
theorem q17s {α : Type} {l : List CT} {enc : α→List DV} {wf : α→Prop} (row : ∀ x,q67 l x→∃ a,x = enc a∧wf a) {d : DV} (h : Ty (.sl l) d) : ∃ xs : List α,DLe d (.sl l.length (xs.map enc))∧(∀ x∈xs,wf x)∧xs.length≤maxLen:=by
  cases h with
  | nil=>exact ⟨[],.nil _,qg,qg⟩
  | @sl _ xs hl h1 h2=>
    have key : ∀ ys : List (List DV),(∀ y∈ys,q67 l y)→∃ zs : List α,ys = zs.map enc∧∀ z∈zs,wf z:=by
      intro ys
      induction ys with
      | nil=>intro _;exact ⟨[],rfl,qg⟩
      | cons y ys ih=>
        intro f;obtain ⟨a,rfl,g⟩:=row y (f y qg);obtain ⟨zs,rfl,b⟩:=ih fun z b=>f z (by simp [b]);exact ⟨a::zs,rfl,by simpa using ⟨g,b⟩⟩
    obtain ⟨zs,rfl,b⟩:=key xs fun y f=>by
      obtain ⟨i,hi⟩:=List.getElem?_of_mem f;exact ⟨h1 i y hi,fun j c d k hd=>h2 i y j c d hi k hd⟩
    exact ⟨zs,.refl _,b,by simpa using hl⟩
theorem q17t {n : Int} (h : (Lit.int .i64 n).wf = true) : -9223372036854775808≤n∧n≤9223372036854775807:=by
  simp [Lit.wf,IntKind.min,IntKind.max,IntKind.signed,IntKind.bits] at h;omega
theorem q17h {xs : List DV} (h : Uc [] xs) : xs = []:=by cases h;rfl
theorem q17i {c : CT} {a : List (Bool × List CT)} {xs : List DV} (h : Uc ((false,[c])::a) xs) : ∃ d r,xs = d::r∧Ty c d∧Uc a r:=by
  cases h with | one h1 h2=>exact ⟨_,_,rfl,h1,h2⟩
theorem q17g {l : List CT} {a : List (Bool × List CT)} {xs : List DV} (h : Uc ((true,l)::a) xs) : ∃ x r,xs = .agg x::r∧q67 l x∧Uc a r:=by
  cases h with | agg h1 h2 h3=>exact ⟨_,_,rfl,⟨h1,h2⟩,h3⟩
end Go.Am
