/- Am23 Am24 Am25 -/
import Derived.Test.YtlchefooafpdlaaGreatK4
namespace Go.Am
open Go
variable {P : Program} {T : Tab}
section
variable {base : Nat} {w : World} {Z : Nat→Prop} {inj : Inj} {st st1 st2 : AS} {a : Act} {Ds : List Nat} {ops : Array Oper} {o : Oper}
structure U8 (ops : Array Oper) (o : Oper) (x : Fp) (st st2 : AS) : Prop where
  blk : qcl x st st2
  sl : ∀ t∈reads ops o,st2.get t = st.get t
theorem U8.ev {x : Fp} (h : U8 ops o x st st2) {y : Operand} (hx : y∈o.op.operands) : st2.ev y = st.ev y:=by
  cases y with
  | tmp t=>exact h.sl t (List.mem_append_left _ (by unfold slotsOf;rw [List.mem_filterMap];exact ⟨.tmp t,by simpa using hx,rfl⟩))
  | const v=>rfl
  | func f=>rfl
  | global g=>rfl
theorem U8.guard {x : Fp} (h : U8 ops o x st st2) : Qk ops st2 o = Qk ops st o:=by
  have hs:=h.sl
  unfold reads at hs
  unfold Qk
  cases hg : o.guard with
  | none=>rfl
  | some jw=>
    obtain ⟨j,want⟩:=jw
    simp only [hg] at hs
    simp only
    cases hd : (ops[j]?).bind (·.dst) with
    | none=>rfl
    | some t=>
      simp only [hd] at hs
      simp only
      rw [hs t qf]
theorem U8.callee {x : Fp} (h : U8 ops o x st st2) {c : Call} (ho : o.op = .call c) : callee st2 c = callee st c:=by
  obtain ⟨cal,args,argTypes⟩:=c
  unfold Am.callee
  cases cal with
  | builtin b=>rfl
  | invoke r n=>rfl
  | value f=>
    simp only
    rw [h.ev (y:=f) (by rw [ho];simp [Op.operands,Call.operands]),q7c (fun x hx=>h.ev (y:=x) (by rw [ho];simp [Op.operands,Call.operands];exact .inr (by simpa using hx)))]
theorem Yp {st : AS} {d : Option Tmp} {v : V} {t : Tmp} : (st.putD d v).get t = if d = some t then some v else st.get t:=by
  cases d with
  | none=>simp [AS.putD]
  | some d=>simp only [AS.putD,AS.put,AS.get,Ki,Option.some.injEq]
theorem qfz {w : World} {Z : Nat→Prop} {inj : Inj} {nx : Nat} {fz : List Nat} {st0 : AS} {v : V} {x : Value} (h : RelV w Z inj nx v x) : Wv st0 (fun n=>n) fz [] nx v v:=by
  induction h with
  | d h=>exact .d (.refl _)
  | @agg ds cs hl _ ih=>
    exact .agg rfl fun i c d hc hd=>by
      rw [hc] at hd;cases hd
      obtain ⟨y,hy⟩:=Y3 (xs:=cs) (i:=i) (by rw [← hl];exact K5 hc)
      exact ih i c y hc hy
  | @tup ds cs hl _ ih=>
    exact .tup rfl fun i c d hc hd=>by
      rw [hc] at hd;cases hd
      obtain ⟨y,hy⟩:=Y3 (xs:=cs) (i:=i) (by rw [← hl];exact K5 hc)
      exact ih i c y hc hy
  | @fn f ds cs hl _ ih=>
    exact .fn rfl fun i c d hc hd=>by
      rw [hc] at hd;cases hd
      obtain ⟨y,hy⟩:=Y3 (xs:=cs) (i:=i) (by rw [← hl];exact K5 hc)
      exact ih i c y hc hy
  | ref h1 h2=>exact .ref rfl qf h1
  | @dref cs j _ _ _ _ _=>exact .dref cs j
  | hsnil h1=>exact .hs rfl qf h1
  | hs h1 _ _ _=>exact .hs rfl qf h1
  | yld h1 _=>exact .yld rfl qf h1
  | dead v=>exact .dead _
theorem q10x {w : World} {Z : Nat→Prop} {inj : Inj} {nx n : Nat} {fz : List Nat} {st0 : AS} {b : Blk} (h : RelB w Z inj nx n b) : Wb st0 (fun n=>n) fz [] nx b b:=by
  cases b with
  | dead=>exact .dead _
  | dat es xs=>exact .dat _ _
  | cel es xs=>
    obtain ⟨_,_,h3⟩:=h
    refine .cel rfl fun i x y hx hy=>?_
    rw [hx] at hy;cases hy
    refine ⟨rfl,fun j c d hc hd=>?_⟩
    rw [hc] at hd;cases hd
    rcases h3 with ⟨rfl,_⟩ | ⟨b,o,arr,ty,_,_,h5⟩
    · simp at hx
    · obtain ⟨h6,c',_,h8⟩:=h5 i x j c hx hc
      exact ⟨qfz h8,h6⟩
  | loop s ps assign body dn pe=>
    obtain ⟨b,tmps,D,fn,_,_,_,h4⟩:=h
    refine .loop fun t v' hv=>?_
    obtain ⟨x,_,hr⟩:=h4 t v' hv
    exact ⟨v',hv,qfz hr⟩
theorem qij {w' : World} {Z' : Nat→Prop} {inj' : Inj} {a' : Act} {Ds' : List Nat} {dst : Option Tmp} {n es : Nat} {xs : List (List DV)} {hp2 : List (Nat × Blk)} (h1 : RelS w' Z' inj' (st1.putD dst (.hs n es 0 xs.length)) a' Ds') (hh : st1.hp = (n,.dat es xs)::hp2) (hf : find hp2 n = none) (hn : base≤n) (h4 : base≤st1.nx) :
    Wk base (fun n=>n) [n] [] (st1.putD dst (.hs n es 0 xs.length)) (({sl:=st1.sl,hp:=hp2,nx:=st1.nx} : AS).putD dst (.d (.sl es xs))):=by
  have hnx : (({sl:=st1.sl,hp:=hp2,nx:=st1.nx} : AS).putD dst (.d (.sl es xs))).nx = st1.nx:=Y9 _ _ _
  have hhp : (({sl:=st1.sl,hp:=hp2,nx:=st1.nx} : AS).putD dst (.d (.sl es xs))).hp = hp2:=Y8 _ _ _
  have hblk : ∀ m b,find hp2 m = some b→m≠n∧find (st1.putD dst (.hs n es 0 xs.length)).hp m = some b:=by
    intro m b hm
    have hne : m≠n:=by rintro rfl;rw [hf] at hm;cases hm
    refine ⟨hne,?_⟩
    rw [Y8,hh,Ki,if_neg (by intro e;exact hne e.symm)];exact hm
  refine ⟨?_,?_,?_,?_,fun _ _=>rfl,by rw [hnx];exact h4,fun m hm=>by simp at hm;omega,fun m hm=>by cases hm⟩
  · intro t v' hv
    rw [hnx]
    rw [Yp] at hv
    by_cases ht : dst = some t
    · rw [if_pos ht] at hv;cases hv
      refine ⟨_,by rw [Yp,if_pos ht],.frz (k:=es) (xs:=xs) ?_ qf q7 qf rfl⟩
      show find (st1.putD dst _).hp n = _
      rw [Y8,hh,Ki,if_pos rfl]
    · rw [if_neg ht] at hv
      have hg : (st1.putD dst (.hs n es 0 xs.length)).get t = some v':=by rw [Yp,if_neg ht];exact hv
      obtain ⟨x,_,hr⟩:=h1.slots t v' hg
      rw [Y9] at hr
      exact ⟨v',hg,qfz hr⟩
  · intro m b' hm
    rw [hnx]
    unfold AS.blk at hm
    rw [hhp] at hm
    obtain ⟨hne,hm'⟩:=hblk m b' hm
    obtain ⟨k1,k2⟩:=h1.heap.blk m b' hm'
    rw [Y9] at k1 k2
    exact ⟨k1,.inr ⟨qf,b',hm',q10x k2⟩⟩
  · intro m k b c _ _ _ _ e;exact e
  · intro m b hm _ hc
    unfold AS.blk at hm
    rw [hhp] at hm
    simp at hc
    exact (hblk m b hm).1 hc
theorem qt4 {w : World} {Z : Nat→Prop} {inj : Inj} {a a' : Act} {Ds : List Nat} {w' : World} {dst : Option Tmp} {n es : Nat} {xs : List (List DV)} {hp2 : List (Nat × Blk)}
    (h : Kv base w Z inj st a Ds (st1.putD dst (.hs n es 0 xs.length)) a' w') (hh : st1.hp = (n,.dat es xs)::hp2) (hf : find hp2 n = none) (hn : base≤n) :
    Kv base w Z inj st a Ds (({sl:=st1.sl,hp:=hp2,nx:=st1.nx} : AS).putD dst (.d (.sl es xs))) a' w':=by
  obtain ⟨Z',inj',Ds',h1,h2,h3,h4,h5⟩:=h
  obtain ⟨hrel,hext⟩:=q46 h1 (qij h1 hh hf hn (by rw [Y9] at h4;exact h4))
  exact ⟨_,_,Ds',hrel,h2.trans hext (Nat.le_refl _),h3,by rw [Y9];rw [Y9] at h4;exact h4,h5⟩
theorem qqd {n es : Nat} {xs : List (List DV)} {hp2 : List (Nat × Blk)} (hT : Ym P T) (hg : Qk ops st o = some true) (ho : opFn T st o.op = some (.hs n es 0 xs.length,st1)) (hn : st.nx≤n) (hh : st1.hp = (n,.dat es xs)::hp2) (hf : find hp2 n = none) :
    Jf P base ops o st (({sl:=st1.sl,hp:=hp2,nx:=st1.nx} : AS).putD o.dst (.d (.sl es xs))):=by
  intro ro Q w Z inj a Ds K h hd hb hro hK
  exact qdr hT hg ho ro Q w Z inj a Ds K h hd hb hro fun a' w' hp=>hK a' w' (qt4 hp hh hf (Nat.le_trans hb hn))
theorem q87 {w : World} {Z : Nat→Prop} {inj inj' : Inj} {nx : Nat} {v : V} {x : Value} (h : RelV w Z inj nx v x) (hi : ∀ n p,n < nx→inj n = some p→inj' n = some p) : RelV w Z inj' nx v x:=by
  induction h with
  | d h=>exact .d h
  | agg hl _ ih=>exact .agg hl ih
  | tup hl _ ih=>exact .tup hl ih
  | fn hl _ ih=>exact .fn hl ih
  | ref h1 h2=>exact .ref h1 (hi _ _ h1 h2)
  | dref h1 h2 h3=>exact .dref h1 h2 h3
  | hsnil h1=>exact .hsnil h1
  | hs h1 h2 hsp h3=>
    refine .hs h1 h2 hsp fun hc=>?_
    obtain ⟨b,o,e1,e2,e3⟩:=h3 hc
    exact ⟨b,o,hi _ _ h1 e1,e2,e3⟩
  | yld h1 h2=>exact .yld h1 (hi _ _ h1 h2)
  | dead v=>exact .dead v
theorem ql1 {w : World} {Z : Nat→Prop} {inj inj' : Inj} {nx n : Nat} {b : Blk} (h : RelB w Z inj nx n b) (hi : ∀ n p,n < nx→inj n = some p→inj' n = some p) (hn : n < nx) (hnone : inj n = none→inj' n = none) : RelB w Z inj' nx n b:=by
  cases b with
  | dead=>trivial
  | dat es xs=>
    obtain ⟨h1,h2,h3⟩:=h
    refine ⟨h1,h2,?_⟩
    rcases h3 with ⟨h3,h4⟩ | ⟨b,o,arr,ty,h3,h4,h5⟩
    · exact .inl ⟨h3,hnone h4⟩
    · exact .inr ⟨b,o,arr,ty,hi _ _ hn h3,h4,h5⟩
  | cel es xs=>
    obtain ⟨h1,h2,h3⟩:=h
    refine ⟨h1,h2,?_⟩
    rcases h3 with ⟨h3,h4⟩ | ⟨b,o,arr,ty,h3,h4,h5⟩
    · exact .inl ⟨h3,hnone h4⟩
    · refine .inr ⟨b,o,arr,ty,hi _ _ hn h3,h4,fun i x j d hx hd=>?_⟩
      obtain ⟨h6,c,h7,h8⟩:=h5 i x j d hx hd
      exact ⟨h6,c,h7,q87 h8 hi⟩
  | loop s ps assign body dn pe=>
    obtain ⟨b,tmps,D,fn,h1,h2,h3,h4⟩:=h
    refine ⟨b,tmps,D,fn,hi _ _ hn h1,h2,h3,fun t v ht=>?_⟩
    obtain ⟨x,hx,hr⟩:=h4 t v ht
    exact ⟨x,hx,q87 hr hi⟩
def q9v (base lo hi : Nat) (w : World) (Z : Nat→Prop) (inj : Inj) (st : AS) (a : Act) (Ds : List Nat) (st' : AS) (a' : Act) (w' : World) : Prop:=
  ∃ Z' inj' Ds',RelS w' Z' inj' st' a' Ds'∧Ext w Z inj st.hp w' Z' inj' st'.hp base∧a'.tmps.size = a.tmps.size∧(∀ D∈Ds',D∈Ds∨w.heap.size≤D)∧∀ m,m < st.nx→(m < lo∨hi≤m)→inj' m = inj m
def qco (P : Program) (base : Nat) (ops : Array Oper) (o : Oper) (st st' : AS) (lo hi : Nat) : Prop:=
  ∀ (ro : Option Nat) (Q : Exit→Act→World→Prop) (w : World) (Z : Nat→Prop) (inj : Inj) (a : Act) (Ds : List Nat) (K : Act→World→Prop),RelS w Z inj st a Ds→Jx a.tmps.size o.dst = true→base≤lo→base≤st.nx→Yt ro w→(∀ m,lo≤m→m < hi→inj m = none)→
    (∀ a' w',q9v base lo hi w Z inj st a Ds st' a' w'→K a' w')→Uu P (Fw ro) ops Q o K a w
theorem qir {st' : AS} {lo hi : Nat} (h : Jf P st.nx ops o st st') : qco P base ops o st st' lo hi:=by
  intro ro Q w Z inj a Ds K hr hd _ hb hro _ hK
  refine h ro Q w Z inj a Ds K hr hd (Nat.le_refl _) hro fun a' w' hp=>hK a' w' ?_
  obtain ⟨Z',inj',Ds',h1,h2,h3,h4,h5⟩:=hp
  exact ⟨Z',inj',Ds',h1,h2.pin_le hb,h3,h5,fun m hm _=>h2.pinj m hm⟩
theorem ql6 {w : World} {Z : Nat→Prop} {inj : Inj} {w' : World} {Z' : Nat→Prop} {inj' inj2 : Inj} {N N' : Nat} {v : V} {x x' : Value} (h : RelV w Z inj N v x) (h' : RelV w' Z' inj' N' v x') (hi : ∀ m p,m < N→inj' m = some p→inj2 m = some p) : RelV w' Z' inj2 N v x':=by
  induction h' generalizing x with
  | d h'=>exact .d h'
  | @agg ds cs hl _ ih=>
    cases h with | @agg _ cs0 hl0 h0=>
    refine .agg hl fun i d c hd hc=>?_
    obtain ⟨y,hy⟩:=Y3 (xs:=cs0) (i:=i) (by rw [← hl0];exact K5 hd)
    exact ih i d c hd hc (h0 i d y hd hy)
  | @tup ds cs hl _ ih=>
    cases h with | @tup _ cs0 hl0 h0=>
    refine .tup hl fun i d c hd hc=>?_
    obtain ⟨y,hy⟩:=Y3 (xs:=cs0) (i:=i) (by rw [← hl0];exact K5 hd)
    exact ih i d c hd hc (h0 i d y hd hy)
  | @fn f ds cs hl _ ih=>
    cases h with | @fn _ _ cs0 hl0 h0=>
    refine .fn hl fun i d c hd hc=>?_
    obtain ⟨y,hy⟩:=Y3 (xs:=cs0) (i:=i) (by rw [← hl0];exact K5 hd)
    exact ih i d c hd hc (h0 i d y hd hy)
  | ref h1 h2=>
    have hn:=by cases h with | ref h1 _=>exact h1
    exact .ref hn (hi _ _ hn h2)
  | dref h1 h2 h3=>exact .dref h1 h2 h3
  | hsnil h1=>
    have hn:=by cases h with
      | hsnil h1=>exact h1
      | hs h1 _ _ _=>exact h1
    exact .hsnil hn
  | hs h1 h2 hsp h3=>
    have hn:=by cases h with
      | hsnil h1=>exact h1
      | hs h1 _ _ _=>exact h1
    refine .hs hn h2 hsp fun hc=>?_
    obtain ⟨b,o,e1,e2,e3⟩:=h3 hc
    exact ⟨b,o,hi _ _ hn e1,e2,e3⟩
  | yld h1 h2=>
    have hn:=by cases h with | yld h1 _=>exact h1
    exact .yld hn (hi _ _ hn h2)
  | dead v=>exact .dead v
theorem qu1 {w : World} {Z : Nat→Prop} {inj : Inj} {w' : World} {Z' : Nat→Prop} {inj' inj2 : Inj} {N N' n : Nat} {b : Blk} (h : RelB w Z inj N n b) (h' : RelB w' Z' inj' N' n b) (hi : ∀ m p,m < N→inj' m = some p→inj2 m = some p) (hn : inj2 n = inj' n) : RelB w' Z' inj2 N n b:=by
  cases b with
  | dead=>trivial
  | dat es xs=>
    obtain ⟨h1,h2,h3⟩:=h'
    refine ⟨h1,h2,?_⟩
    rw [hn];exact h3
  | cel es xs=>
    obtain ⟨h1,h2,h3⟩:=h'
    refine ⟨h1,h2,?_⟩
    rw [hn]
    rcases h3 with h3 | ⟨b,o,arr,ty,h3,h4,h5⟩
    · exact .inl h3
    · refine .inr ⟨b,o,arr,ty,h3,h4,fun i x j d hx hd=>?_⟩
      obtain ⟨h6,c,h7,h8⟩:=h5 i x j d hx hd
      obtain ⟨_,_,k3⟩:=h
      rcases k3 with ⟨rfl,_⟩ | ⟨_,_,_,_,_,_,k5⟩
      · simp at hx
      · obtain ⟨_,c0,_,k8⟩:=k5 i x j d hx hd
        exact ⟨h6,c,h7,ql6 k8 h8 hi⟩
  | loop s ps assign body dn pe=>
    obtain ⟨b,tmps,D,fn,h1,h2,h3,h4⟩:=h'
    obtain ⟨_,_,_,_,_,_,_,k4⟩:=h
    refine ⟨b,tmps,D,fn,hn.trans h1,h2,h3,fun t v ht=>?_⟩
    obtain ⟨x,hx,hr⟩:=h4 t v ht
    obtain ⟨x0,_,hr0⟩:=k4 t v ht
    exact ⟨x,hx,ql6 hr0 hr hi⟩
theorem qiq {mk : Nat→V} {es q : Nat} {xs : List (List DV)} {hp3 : List (Nat × Blk)} (hT : Ym P T) (hg : Qk ops st o = some true) (hk : (∃ es,mk = fun n=>.ref n es 0 0)∨(∃ es l,mk = fun n=>.hs n es 0 l))
    (ho : opFn T st o.op = some (mk st.nx,⟨st.sl,(st.nx,.dat es xs)::hp3,st.nx + 1⟩)) (hq : q < st.nx) (hfree : find st.hp q = none) (hold : ∀ m c,find hp3 m = some c→c = .dead∨find st.hp m = some c) (hnone : ∀ m,find st.hp m = none→find hp3 m = none) :
    qco P base ops o st (({sl:=st.sl,hp:=(q,.dat es xs)::hp3,nx:=st.nx} : AS).putD o.dst (mk q)) q (q + 1):=by
  intro ro Q w Z inj a Ds K h hd hlo hb _ hres hK
  have hiq : inj q = none:=hres q (Nat.le_refl _) q7
  unfold Uu
  rw [q3c h hg]
  simp only [if_true]
  refine ⟨fun _ _=>trivial,?_⟩
  rw [show (Fw ro).round = ro from rfl,Oper.semAt_eq ro _ o (qk8 ho)]
  obtain ⟨x,w',inj',hr,hv,hh,he,-,-⟩:=qk9 hT h ho
  simp only at hv hh he
  obtain ⟨inj2,hi2⟩ : ∃ inj2 : Inj,inj2 = fun m=>if m = q then inj' st.nx else inj' m:=⟨_,rfl⟩
  have h2q : inj2 q = inj' st.nx:=by rw [hi2];simp
  have h2n : ∀ m,m≠q→inj2 m = inj' m:=fun m hm=>by rw [hi2];simp [hm]
  have hi : ∀ m p,m < st.nx→inj' m = some p→inj2 m = some p:=fun m p hm hp=>by
    by_cases hmq : m = q
    · subst hmq;rw [he.pinj m hm,hiq] at hp;cases hp
    · rw [h2n m hmq];exact hp
  have hlt : ∀ m c,find hp3 m = some c→m < st.nx:=fun m c hm=>by
    cases hf : find st.hp m with
    | none=>rw [hnone m hf] at hm;cases hm
    | some b=>exact (h.heap.blk m b hf).1
  have hne : ∀ m c,find hp3 m = some c→m≠q:=fun m c hm e=>by
    subst e;rw [hnone m hfree] at hm;cases hm
  have up : ∀ m c,find hp3 m = some c→find ((st.nx,Blk.dat es xs)::hp3) m = some c:=fun m c hm=>by
    rw [Ki,if_neg (by have:=hlt m c hm;omega)];exact hm
  have htop : find ((st.nx,Blk.dat es xs)::hp3) st.nx = some (.dat es xs):=by rw [Ki,if_pos rfl]
  have back : ∀ m c,find ((q,Blk.dat es xs)::hp3) m = some c→∃ m',find ((st.nx,Blk.dat es xs)::hp3) m' = some c∧inj2 m = inj' m'∧((m = q∧m' = st.nx)∨(m≠q∧m' = m)):=by
    intro m c hm
    rw [Ki] at hm
    by_cases hmq : q = m
    · subst hmq
      rw [if_pos rfl] at hm;cases hm
      exact ⟨_,htop,h2q,.inl ⟨rfl,rfl⟩⟩
    · rw [if_neg hmq] at hm
      exact ⟨m,up m c hm,h2n m (Ne.symm hmq),.inr ⟨Ne.symm hmq,rfl⟩⟩
  have hH : RelH w' Z inj2 ((q,Blk.dat es xs)::hp3) st.nx:=by
    refine ⟨fun m c hm=>?_,fun m n b c p r h1 h2 h3 h4 h5 h6 hmn=>?_,fun m b p h1 h2 h3=>?_,hh.zs,hh.zc⟩
    · rw [Ki] at hm
      by_cases hmq : q = m
      · subst hmq
        rw [if_pos rfl] at hm;cases hm
        refine ⟨hq,?_⟩
        obtain ⟨_,k1,k2,k3⟩:=hh.blk st.nx _ htop
        exact ⟨k1,k2,by rw [h2q];exact k3⟩
      · rw [if_neg hmq] at hm
        refine ⟨hlt m c hm,?_⟩
        rcases hold m c hm with rfl | hm'
        · trivial
        · exact qu1 (h.heap.blk m c hm').2 (hh.blk m c (up m c hm)).2 hi (h2n m (Ne.symm hmq))
    · obtain ⟨m',a1,a2,a3⟩:=back m b h1
      obtain ⟨n',b1,b2,b3⟩:=back n c h2
      refine hh.sep m' n' b c p r a1 b1 h3 h4 (a2 ▸ h5) (b2 ▸ h6) ?_
      rcases a3 with ⟨rfl,rfl⟩ | ⟨a3,rfl⟩ <;> rcases b3 with ⟨rfl,rfl⟩ | ⟨b3,rfl⟩
      · exact absurd rfl hmn
      · intro e
        have : find hp3 n' = some c:=by rw [Ki,if_neg (Ne.symm b3)] at h2;exact h2
        have:=hlt _ _ this;omega
      · intro e
        have : find hp3 m' = some b:=by rw [Ki,if_neg (Ne.symm a3)] at h1;exact h1
        have:=hlt _ _ this;omega
      · exact hmn
    · obtain ⟨m',a1,a2,_⟩:=back m b h1
      exact hh.out m' b p a1 h2 (a2 ▸ h3)
  have hE : Ext w Z inj st.hp w' Z inj2 ((q,Blk.dat es xs)::hp3) base:=by
    refine ⟨he.size,he.keep,?_,he.big,he.loops,he.zin,he.zout,fun n hn=>?_,he.tape,he.os,he.output,he.frz⟩
    · rintro b ⟨m,c,off,g1,g2,g3⟩
      obtain ⟨m',a1,a2,_⟩:=back m c g1
      exact he.imm b ⟨m',c,off,a1,g2,a2 ▸ g3⟩
    · rw [h2n n q7];exact he.pinj n q7
  have hV : RelV w' Z inj2 st.nx (mk q) x:=by
    rcases hk with ⟨es,rfl⟩ | ⟨es,l,rfl⟩
    · cases hv with | ref h1 h2=>exact .ref hq (h2q.trans h2)
    · cases hv with
      | hsnil h1=>exact .hsnil hq
      | hs h1 h2 hsp h3=>
        refine .hs hq h2 hsp fun hc=>?_
        obtain ⟨b,o,e1,e2,e3⟩:=h3 hc
        exact ⟨b,o,h2q.trans e1,e2,e3⟩
  have hS : Yh w' Z inj2 st.nx st.sl a.tmps:=fun t v ht=>by
    obtain ⟨y,hy,hr⟩:=h.slots t v ht
    exact ⟨y,hy,q87 (hr.mono (he.zkeep h.heap) he.zin he.big he.pinj (Nat.le_refl _)) hi⟩
  have hpost : q9v base q (q + 1) w Z inj st a Ds (({sl:=st.sl,hp:=(q,.dat es xs)::hp3,nx:=st.nx} : AS).putD o.dst (mk q)) (a.put o.dst x) w':=by
    refine ⟨Z,inj2,Ds,?_,by rw [Y8];exact hE,qkk _ _ _,fun _ h=>.inl h,fun m hm hmq=>?_⟩
    · generalize hdst : o.dst = dst at hd
      cases dst with
      | none=>exact ⟨hS,hH,h.defs,h.nodup,fun D hD=>he.marks h.heap (h.marks D hD)⟩
      | some t=>exact ⟨hS.put hV (qhh hd),hH,h.defs,h.nodup,fun D hD=>he.marks h.heap (h.marks D hD)⟩
    · rw [h2n m q7];exact he.pinj m hm
  rcases hr with hr | ⟨hr,rfl⟩
  · rw [hr];exact hK _ _ hpost
  · rw [hr];exact hK _ _ hpost
theorem qt3 {w : World} {Z : Nat→Prop} {inj : Inj} {a a' : Act} {Ds : List Nat} {w' : World} {dst : Option Tmp} {n es lo hi : Nat} {xs : List (List DV)} {hp2 : List (Nat × Blk)} (hbn : base≤st1.nx)
    (h : q9v base lo hi w Z inj st a Ds (st1.putD dst (.hs n es 0 xs.length)) a' w') (hh : st1.hp = (n,.dat es xs)::hp2) (hf : find hp2 n = none) (hn : base≤n) :
    q9v base lo hi w Z inj st a Ds (({sl:=st1.sl,hp:=hp2,nx:=st1.nx} : AS).putD dst (.d (.sl es xs))) a' w':=by
  obtain ⟨Z',inj',Ds',h1,h2,h3,h4,h5⟩:=h
  have hp : Kv base w Z inj st a Ds (st1.putD dst (.hs n es 0 xs.length)) a' w':=⟨Z',inj',Ds',h1,h2,h3,by rw [Y9];exact hbn,h4⟩
  obtain ⟨hrel,hext⟩:=q46 h1 (qij h1 hh hf hn hbn)
  refine ⟨_,_,Ds',hrel,h2.trans hext (Nat.le_refl _),h3,h4,fun m hm hmq=>?_⟩
  rw [← h5 m hm hmq];simp [wkI]
structure Jt (P : Program) (ops : Array Oper) (o : Oper) (x : Fp) (st st1 : AS) : Prop where
  nx : st.nx≤st1.nx
  sl : ∀ t,o.dst≠some t→st1.get t = st.get t
  hp : ∀ m,m ∉ x.2→find st1.hp m = find st.hp m
  keys : ∀ m,st1.nx≤m→find st.hp m = none→find st1.hp m = none
  fresh : ∀ m,st.nx≤m→m < st1.nx→m∈x.2
  other : ∀ st2,st1.nx≤st2.nx→U8 ops o x st st2→(∀ m,st.nx≤m→m < st1.nx→find st2.hp m = none)→∃ st3,st3.nx = st2.nx∧(∀ base,qco P base ops o st2 st3 st.nx st1.nx)∧
    (∀ t,o.dst≠some t→st3.get t = st2.get t)∧(∀ t,o.dst = some t→st3.get t = st1.get t)∧(∀ m∈x.2,find st3.hp m = find st1.hp m)∧(∀ m,m ∉ x.2→find st3.hp m = find st2.hp m)
theorem qfl : ∀ {b : List Nat} {n : Nat},hasN b n = true→n∈b
  | a::r,n,h=>by
    simp only [hasN,Bool.or_eq_true] at h
    rcases h with h | h
    · rw [Nat.eq_of_beq_eq_true h];simp
    · exact List.mem_cons_of_mem _ (qfl h)
theorem qjp : ∀ {b : List Nat} {n : Nat},n∈b→hasN b n = true
  | a::r,n,h=>by
    simp only [hasN,Bool.or_eq_true]
    rcases List.mem_cons.1 h with rfl | h
    · left;exact Nat.beq_refl _
    · exact .inr (qjp h)
theorem qib (y : Fp) : fpLe (some [],[]) y = true:=by
  unfold fpLe
  cases y.1 <;> rfl
theorem Jt.mono {x y : Fp} (h : Jt P ops o x st st1) (hl : fpLe x y = true) : Jt P ops o y st st1:=by
  simp only [fpLe,Bool.and_eq_true,subN,List.all_eq_true] at hl
  obtain ⟨h2,h1⟩:=hl
  have hW : ∀ m∈x.2,m∈y.2:=fun m hm=>qfl (h2 m hm)
  refine ⟨h.nx,h.sl,fun m hm=>h.hp m fun e=>hm (hW m e),h.keys,fun m ha hb=>hW m (h.fresh m ha hb),fun st2 hn ha hf=>?_⟩
  have ha' : U8 ops o x st st2:=by
    refine ⟨⟨fun m hm=>ha.blk.1 m (hW m hm),?_⟩,ha.sl⟩
    have hb:=ha.blk.2
    revert h1 hb
    cases y.1 with
    | none=>
      intro _ hb
      cases x.1 with
      | none=>exact hb
      | some r=>exact fun m _=>hb m
    | some r=>
      cases x.1 with
      | none=>simp
      | some r'=>
        intro h1 hb m hm
        exact hb m (qfl (by simpa using List.all_eq_true.1 h1 m hm))
  obtain ⟨st3,e1,e2,e3,e4,e5,e6⟩:=h.other st2 hn ha' hf
  refine ⟨st3,e1,e2,e3,e4,fun m hm=>?_,fun m hm=>e6 m fun e=>hm (hW m e)⟩
  by_cases hx : m∈x.2
  · exact e5 m hx
  · rw [e6 m hx,h.hp m hx];exact ha.blk.1 m hm
theorem qmb {v : V} {x : Fp} (hx : x.2 = []) (h2 : ∀ st2,U8 ops o x st st2→Jf P st2.nx ops o st2 (st2.putD o.dst v)) : Jt P ops o x st (st.putD o.dst v):=by
  refine ⟨by rw [Y9];exact Nat.le_refl _,fun t h=>by rw [Yp,if_neg h],fun m _=>by rw [Y8],fun m _ h=>by rw [Y8];exact h,fun m h1 h2=>by rw [Y9] at h2;omega,fun st2 hn ha _=>?_⟩
  refine ⟨st2.putD o.dst v,Y9 _ _ _,fun base=>qir (h2 st2 ha),fun t h=>by rw [Yp,if_neg h],fun t h=>by rw [Yp,Yp,if_pos h,if_pos h],fun m hm=>(by rw [hx] at hm;cases hm),fun m _=>by rw [Y8]⟩
theorem qzu (hg : Qk ops st o = some false) : Jt P ops o (some [],[]) st (st.putD o.dst (.d (.tup []))):=
  qmb rfl fun _ ha=>qit (ha.guard.trans hg)
theorem qpd {b : Blk} {n : Nat} {sl : List (Nat × V)} {hp1 : List (Nat × Blk)} {v : V} {op : Op} (ho : opFn T st op = some (v,⟨sl,(st.nx,b)::hp1,n + 1⟩)) (hn : st.nx = n) (h : q36 st op ⟨sl,(st.nx,b)::hp1,n + 1⟩ = true) : ∃ es xs,b = .dat es xs:=by
  by_cases ht : touch op = 2
  · simp only [q36,ht] at h
    cases b with
    | dat es xs=>exact ⟨es,xs,rfl⟩
    | _=>simp at h
  · have hle : touch op≤1:=by
      have : touch op≤2:=by unfold touch;split <;> omega
      omega
    have h0:=(qei (st2:=st) ho hle (fun _=>rfl) (fun _ _=>rfl)).1
    have h1:=congrArg AS.nx h0
    simp only at h1
    omega
theorem qzs {v : V} (hT : Ym P T) (hg : Qk ops st o = some true) (ho : opFn T st o.op = some (v,st1)) (hd : q36 st o.op st1 = true) : Jt P ops o (fp st o.op) st (st1.putD o.dst v):=by
  cases qk4 ho with
  | calm hsl hnx hhp hnone hall=>
    have hget : ∀ t,st1.get t = st.get t:=fun t=>by unfold AS.get;rw [hsl]
    refine ⟨by rw [Y9];omega,fun t h=>by rw [Yp,if_neg h,hget],fun m hm=>by rw [Y8];exact hhp m hm,fun m _ h=>by rw [Y8];exact hnone m h,fun m h1 h2=>by rw [Y9] at h2;omega,fun st2 hn ha _=>?_⟩
    obtain ⟨hp3,k1,k2,k3⟩:=hall st2 (fun x hx=>ha.ev hx) ha.blk
    refine ⟨(⟨st2.sl,hp3,st2.nx⟩ : AS).putD o.dst v,Y9 _ _ _,fun base=>qir (qdr hT (ha.guard.trans hg) k1),fun t h=>by rw [Yp,if_neg h];rfl,fun t h=>by rw [Yp,Yp,if_pos h,if_pos h],fun m hm=>?_,fun m hm=>?_⟩
    · rw [Y8,Y8];exact k2 m hm
    · rw [Y8];exact k3 m hm
  | new mk b hp1 hk hv h1 hmem hhp hnone hall=>
    subst h1
    obtain ⟨es,xs,rfl⟩:=qpd ho rfl hd
    refine ⟨by rw [Y9];exact Nat.le_succ _,fun t h=>by rw [Yp,if_neg h];rfl,fun m hm=>?_,fun m hm h=>?_,fun m h1 h2=>?_,fun st2 hn ha hf=>?_⟩
    · rw [Y8,Ki,if_neg (by rintro rfl;exact hm hmem)];exact hhp m hm
    · rw [Y9] at hm
      rw [Y8,Ki,if_neg (by simp only at hm;omega)];exact hnone m h
    · rw [Y9] at h2
      have : m = st.nx:=by simp only at h2;omega
      subst this;exact hmem
    · rw [Y9] at hn hf ⊢
      simp only at hn hf
      obtain ⟨hp3,k1,k2,k3,k4⟩:=hall st2 (fun x hx=>ha.ev hx) ha.blk
      have hfree:=hf st.nx (Nat.le_refl _) q7
      refine ⟨(⟨st2.sl,(st.nx,.dat es xs)::hp3,st2.nx⟩ : AS).putD o.dst (mk st.nx),Y9 _ _ _,fun base=>qiq hT (ha.guard.trans hg) hk k1 q7 hfree k4 (fun m hm=>?_),fun t h=>by rw [Yp,if_neg h];rfl,fun t h=>by rw [Yp,Yp,if_pos h,if_pos h,hv],fun m hm=>?_,fun m hm=>?_⟩
      · by_cases hw : m∈(fp st o.op).2
        · rw [k2 m hw]
          refine hnone m ?_
          rw [← ha.blk.1 m hw];exact hm
        · rw [k3 m hw];exact hm
      · rw [Y8,Y8,Ki,Ki]
        split
        · rfl
        · exact k2 m hm
      · rw [Y8,Ki,if_neg (by rintro rfl;exact hm hmem)];exact k3 m hm
theorem qzt {n es : Nat} {xs : List (List DV)} {hp2 : List (Nat × Blk)} (hT : Ym P T) (hg : Qk ops st o = some true) (ho : opFn T st o.op = some (.hs n es 0 xs.length,st1)) (hn : n = st.nx∧st1.nx = n + 1) (hh : st1.hp = (n,.dat es xs)::hp2) (hf : find hp2 n = none) :
    Jt P ops o (fp st o.op) st (({sl:=st1.sl,hp:=hp2,nx:=st1.nx} : AS).putD o.dst (.d (.sl es xs))):=by
  obtain ⟨rfl,hn1⟩:=hn
  cases qk4 ho with
  | calm hsl hnx hhp hnone hall=>omega
  | new mk b hp1 hk hv h1 hmem hhp hnone hall=>
    subst h1
    simp only [List.cons.injEq,Prod.mk.injEq,true_and] at hh
    obtain ⟨rfl,rfl⟩:=hh
    refine ⟨by rw [Y9];exact Nat.le_succ _,fun t h=>by rw [Yp,if_neg h];rfl,fun m hm=>by rw [Y8];exact hhp m hm,fun m hm h=>by rw [Y8];exact hnone m h,fun m h1 h2=>?_,fun st2 hn ha hfr=>?_⟩
    · rw [Y9] at h2
      have : m = st.nx:=by simp only at h2;omega
      subst this;exact hmem
    · rw [Y9] at hn hfr ⊢
      simp only at hn hfr
      obtain ⟨hp3,k1,k2,k3,k4⟩:=hall st2 (fun x hx=>ha.ev hx) ha.blk
      have hfree:=hfr st.nx (Nat.le_refl _) q7
      have hkeep : ∀ m,find st2.hp m = none→find hp3 m = none:=fun m hm=>by
        by_cases hw : m∈(fp st o.op).2
        · rw [k2 m hw]
          refine hnone m ?_
          rw [← ha.blk.1 m hw];exact hm
        · rw [k3 m hw];exact hm
      refine ⟨(⟨st2.sl,hp3,st2.nx⟩ : AS).putD o.dst (.d (.sl es xs)),Y9 _ _ _,fun base=>?_,fun t h=>by rw [Yp,if_neg h];rfl,fun t h=>by rw [Yp,Yp,if_pos h,if_pos h],fun m hm=>by rw [Y8,Y8];exact k2 m hm,fun m hm=>by rw [Y8];exact k3 m hm⟩
      intro ro Q w Z inj a Ds K h hd hlo hb hro hres hK
      refine qiq (base:=base) hT (ha.guard.trans hg) hk k1 q7 hfree k4 hkeep ro Q w Z inj a Ds K h hd hlo hb hro hres fun a' w' hp=>hK a' w' ?_
      rw [← hv] at hp
      exact qt3 (st1:=⟨st2.sl,(st.nx,.dat es xs)::hp3,st2.nx⟩) hb hp rfl (hkeep _ hfree) hlo
theorem q10h {hp hp2 : List (Nat × Blk)} (h : ∀ m,find hp2 m = find hp m) : ∀ k,toD hp2 k = toD hp k:=by
  intro k
  induction k with
  | zero=>funext v;cases v <;> rfl
  | succ k ih=>funext v;cases v <;> simp only [toD,ih,h]
theorem qga {hp hp2 : List (Nat × Blk)} (h : ∀ m,find hp2 m = find hp m) : ∀ {vs : List V},Kg hp2 vs = Kg hp vs
  | []=>rfl
  | v::r=>by simp only [Kg,q10h h,qga h]
theorem qgb {hp hp2 : List (Nat × Blk)} : ∀ {vs : List V},vs.all V.isD = true→Kg hp2 vs = Kg hp vs
  | [],_=>rfl
  | v::r,h=>by
    simp only [List.all_cons,Bool.and_eq_true] at h
    have e : toD hp2 8 v = toD hp 8 v:=by
      cases v <;> first | rfl | (simp [V.isD] at h;done)
    rw [Kg,Kg,e,qgb (hp:=hp) (hp2:=hp2) h.2]
theorem qzr {c : Call} {f : FuncId} {vs : List V} {ds : List DV} {v : V} {hp' : List (Nat × Blk)} {nx' : Nat} {r' r : DV} (hg : Qk ops st o = some true) (ho : o.op = .call c) (hc : callee st c = some (f,vs))
    (hfz : Kg st.hp vs = some ds) (hgood : Jd P f (ds.map .d) [] 0 v hp' nx') (hto : toD hp' 8 v = some r') (hle : DLe r' r) (hs : vs.all V.isD = true∨r.scalar = true) : Jt P ops o (fpC vs) st (st.putD o.dst (.d r)):=by
  refine qmb (by unfold fpC;cases vs.all V.isD <;> rfl) fun st2 ha=>qis (ha.guard.trans hg) ho ((ha.callee ho).trans hc) ?_ hgood hto hle hs
  rw [← hfz]
  by_cases hd : vs.all V.isD = true
  · exact qgb hd
  · have h:=ha.blk.2
    simp only [fpC,hd,cond_false] at h
    exact qga h
theorem qqb {ops : Array Oper} {o : Oper} {c : Call} {f : FuncId} {vs vs' : List V} {hp0 hp' hpR hpN : List (Nat × Blk)} {k k' nxN : Nat} {v' vN : V} {ρ ρ3 : Nat→Nat} {fz3 ph3 : List Nat} (hg : Qk ops st o = some true) (ho : o.op = .call c) (hc : callee st c = some (f,vs)) (hlen : vs.length = vs'.length)
    (hw1 : Wk 0 ρ [] [] {sl:=Ks 0 vs,hp:=st.hp,nx:=st.nx} {sl:=Ks 0 vs',hp:=hp0,nx:=k}) (hgood : Jd P f vs' hp0 k v' hp' k') (hw3 : Wk 0 ρ3 fz3 ph3 {sl:=[(0,v')],hp:=hp',nx:=k'} {sl:=[(0,vN)],hp:=hpR,nx:=nxN})
    (hb : Back ρ ρ3 ph3 k k' st.nx nxN st.hp hpR hpN) : Jf P base ops o st ({sl:=st.sl,hp:=hpN,nx:=nxN : AS}.putD o.dst vN):=by
  intro ro Q w Z inj a Ds K h hd hbase _ hK
  unfold Uu
  rw [q3c h hg]
  simp only [if_true]
  refine ⟨fun _ _=>trivial,?_⟩
  obtain ⟨xs,hr,hl⟩:=qd2 h ho hc hgood.1
  rw [show (Fw ro).round = ro from rfl,Oper.semAt_eq ro _ o (by rintro c' h';rw [ho] at h';cases h'),hr,Oper.uponIn_enter]
  refine ⟨fun h=>by simp [Fw] at h,?_⟩
  have hrel0 : RelS w Z inj {sl:=Ks 0 vs,hp:=st.hp,nx:=st.nx} {a with tmps:=xs,defers:=[]} []:=by
    refine ⟨fun t v ht=>?_,h.heap,rfl,List.nodup_nil,qf⟩
    rw [qa0] at ht
    simp only [Nat.zero_le,if_true,Nat.sub_zero] at ht
    obtain ⟨y,hy⟩:=Y3 (xs:=xs) (i:=t) (by rw [← hl.1];exact K5 ht)
    exact ⟨y,hy,hl.2 t v y ht hy⟩
  obtain ⟨hr1,he1⟩:=q46 hrel0 hw1
  have hl1 : LRel w (wkZ Z inj {sl:=Ks 0 vs,hp:=st.hp,nx:=st.nx} []) (wkI inj ρ []) k vs' xs:=by
    refine ⟨by rw [← hlen];exact hl.1,fun i d y hdi hyi=>?_⟩
    obtain ⟨y',hy',hr⟩:=hr1.slots i d (by rw [qa0];simpa using hdi)
    rw [hyi] at hy';cases hy'
    exact hr
  refine CallsIn.mono (hgood.2 w _ _ xs hr1.heap hl1) ?_
  rintro e w' ⟨x,Z',inj',rfl,hh,he2,hv,hn⟩
  obtain ⟨inj2,hinj2⟩ : ∃ inj2 : Inj,inj2 = fun n=>if n < k' then inj' n else none:=⟨_,rfl⟩
  have hag : ∀ n,n < k'→inj2 n = inj' n:=fun n hn=>by rw [hinj2];simp [hn]
  have hh2 : RelH w' Z' inj2 hp' k':=by
    refine ⟨fun n b hb=>?_,fun n m b c p q h1 h2 h3 h4 h5 h6=>?_,fun n b p h1 h2 h3=>?_,hh.zs,hh.zc⟩
    · obtain ⟨k1,k2⟩:=hh.blk n b hb
      exact ⟨k1,ql1 k2 (fun m p hm hp=>(hag m hm).trans hp) k1 (fun hp=>(hag n k1).trans hp)⟩
    · rw [hag n (hh.blk n b h1).1] at h5;rw [hag m (hh.blk m c h2).1] at h6
      exact hh.sep n m b c p q h1 h2 h3 h4 h5 h6
    · rw [hag n (hh.blk n b h1).1] at h3
      exact hh.out n b p h1 h2 h3
  have hv2 : RelV w' Z' inj2 k' v' x:=q87 hv fun n p hn hp=>(hag n hn).trans hp
  have him : ∀ b,im hp' inj2 b→im hp' inj' b:=by
    rintro b ⟨n,blk,o,h1,h2,h3⟩
    exact ⟨n,blk,o,h1,h2,by rw [← hag n (hh.blk n blk h1).1];exact h3⟩
  have hrel3 : RelS w' Z' inj2 {sl:=[(0,v')],hp:=hp',nx:=k'} {a with tmps:=#[x],defers:=[]} []:=by
    refine ⟨fun t v ht=>?_,hh2,rfl,List.nodup_nil,qf⟩
    rw [Ki] at ht
    split at ht
    · rename_i e;subst e;cases ht;exact ⟨x,rfl,hv2⟩
    · simp [find] at ht
  obtain ⟨hr3,he3⟩:=q46 hrel3 hw3
  generalize hZ3 : wkZ Z' inj2 {sl:=[(0,v')],hp:=hp',nx:=k'} fz3 = Z3 at hr3 he3
  generalize hJ3 : wkI inj2 ρ3 ph3 = inj3 at hr3 he3
  have hvN : RelV w' Z3 inj3 nxN vN x:=by
    obtain ⟨y,hy,hr⟩:=hr3.slots 0 vN (by simp [find])
    simp at hy;subst hy;exact hr
  have hpin : ∀ i,i < k→inj' i = inj (ρ i):=fun i hi=>by rw [he2.pinj i hi];simp [wkI]
  have hlow : ∀ m,m < st.nx→∀ p,inj3 m = some p→inj m = some p:=by
    intro m hm p hp
    have hnp : m ∉ ph3:=fun hc=>by have:=hb.phn m hc;omega
    rw [← hJ3] at hp
    simp only [wkI,hnp,if_false] at hp
    rcases hb.snd m hm with ⟨h1,h2⟩ | h1
    · rw [hinj2] at hp
      simp only [show ρ3 m < k' by omega,if_true] at hp
      rw [hpin _ h1,h2] at hp;exact hp
    · rw [hinj2] at hp;simp [show ¬ ρ3 m < k' by omega] at hp
  obtain ⟨injN,hinjN⟩ : ∃ injN : Inj,injN = fun m=>if m < st.nx then inj m else inj3 m:=⟨_,rfl⟩
  have hN1 : ∀ m,m < st.nx→injN m = inj m:=fun m hm=>by rw [hinjN];simp [hm]
  have hN2 : ∀ m p,inj3 m = some p→injN m = some p:=fun m p hp=>by
    by_cases hm : m < st.nx
    · rw [hN1 m hm];exact hlow m hm p hp
    · rw [hinjN];simp [hm,hp]
  have hR : ∀ m b,find hpR m = some b→∀ p,injN m = some p→inj3 m = some p:=by
    intro m b hmb p hp
    by_cases hm : m < st.nx
    · rw [hN1 m hm] at hp
      have hnp : m ∉ ph3:=fun hc=>by have:=hb.phn m hc;omega
      obtain ⟨_,h2⟩:=hw3.blocks m b hmb
      rcases h2 with ⟨h2,_⟩ | ⟨_,b0,h3,_⟩
      · exact absurd h2 hnp
      · have hlt:=(hh.blk _ _ h3).1
        rcases hb.snd m hm with ⟨k1,k2⟩ | k1
        · rw [← hJ3]
          simp only [wkI,hnp,if_false]
          rw [hag _ q7,hpin _ k1,k2];exact hp
        · omega
    · rw [hinjN] at hp;simpa [hm] using hp
  have hE : Ext w (wkZ Z inj {sl:=Ks 0 vs,hp:=st.hp,nx:=st.nx} []) (wkI inj ρ []) hp0 w' Z' inj' hp' 0:=he2.pin_le (Nat.zero_le _)
  have imR : ∀ b,im hpR inj3 b→im st.hp inj b∨w.heap.size≤b:=by
    intro b hb'
    rcases he3.imm b hb' with h1 | h1
    · rcases hE.imm b (him b h1) with h2 | h2
      · exact he1.imm b h2
      · exact .inr h2
    · exact .inr (Nat.le_trans hE.size h1)
  have keep : ∀ b,b < w.heap.size→¬ im hp0 (wkI inj ρ []) b→w'.heap[b]? = w.heap[b]?:=fun b hb1 hb2=>hE.keep b hb1 hb2
  have hfar : ∀ m b p,find st.hp m = some b→live b = true→inj m = some p→(∀ i,i < k→ρ i≠m)→¬ im hp0 (wkI inj ρ []) p.1:=by
    rintro m b p h1 h2 h3 h4 ⟨i,blk,o,g1,g2,g3⟩
    obtain ⟨j1,j2⟩:=hw1.blocks i blk g1
    rcases j2 with ⟨j2,_⟩ | ⟨_,b0,j3,j4⟩
    · cases j2
    · have g3' : inj (ρ i) = some (p.1,o):=by simpa [wkI] using g3
      exact h.heap.sep (ρ i) m b0 b _ p j3 h1 (qmx j4 g2) h2 g3' h3 (h4 i j1) rfl
  have hZ : ∀ b,Z b→Z3 b:=fun b hz=>he3.zin b (hE.zin b (he1.zin b hz))
  have hZo : ∀ b,Z3 b→Z b∨im hp0 (wkI inj ρ []) b∨w.heap.size≤b:=by
    intro b hz
    rcases he3.zout b hz with h1 | h1 | h1
    · rcases hE.zout b h1 with h2 | h2 | h2
      · rcases he1.zout b h2 with h3 | h3 | h3
        · exact .inl h3
        · rcases h2 with h2 | ⟨n,hn,_⟩
          · exact .inl h2
          · cases hn
        · exact .inr (.inr h3)
      · exact .inr (.inl h2)
      · exact .inr (.inr h2)
    · rcases hE.imm b (him b h1) with h2 | h2
      · exact .inr (.inl h2)
      · exact .inr (.inr h2)
    · exact .inr (.inr (Nat.le_trans hE.size h1))
  have hbig : Zu w w':=hE.big
  have hloops : q9u w w':=hE.loops
  have hExt : Ext w Z inj st.hp w' Z3 injN hpN st.nx:=by
    refine ⟨hE.size,fun b h1 h2=>keep b h1 (fun h3=>(he1.imm b h3).elim h2 (fun h4=>q7)),?_,hbig,hloops,hZ,?_,hN1,hE.tape,hE.os,hE.output,hE.frz⟩
    · rintro b ⟨m,blk,o,g1,g2,g3⟩
      rcases hb.old m blk g1 with g4 | ⟨g4,_⟩
      · exact imR b ⟨m,blk,o,g4,g2,hR m blk g4 _ g3⟩
      · exact .inl ⟨m,blk,o,g4,g2,by rw [← hN1 m (h.heap.blk m blk g4).1];exact g3⟩
    · intro b hz
      rcases hZo b hz with h1 | h1 | h1
      · exact .inl h1
      · exact .inr ((he1.imm b h1).imp (fun x=>x) (fun x=>x))
      · exact .inr (.inr h1)
  have hH : RelH w' Z3 injN hpN nxN:=by
    refine ⟨fun m b hmb=>?_,fun m n b c p q h1 h2 h3 h4 h5 h6 hne=>?_,fun m b p h1 h2 h3 hz=>?_,hr3.heap.zs,hr3.heap.zc⟩
    · rcases hb.old m b hmb with g | ⟨g,gi⟩
      · obtain ⟨k1,k2⟩:=hr3.heap.blk m b g
        refine ⟨k1,ql1 k2 (fun n p _ hp=>hN2 n p hp) k1 fun hp=>?_⟩
        cases hq : injN m with
        | none=>rfl
        | some p=>rw [hR m b g p hq] at hp;cases hp
      · obtain ⟨k1,k2⟩:=h.heap.blk m b g
        refine ⟨Nat.lt_of_lt_of_le k1 hb.nxs,k2.mono (fun b' hz=>?_) hZ hbig (fun n hn=>hN1 n hn) hb.nxs k1 fun p hp hlv=>?_⟩
        · refine keep b' (h.heap.zs b' hz) fun hi=>?_
          rcases he1.imm b' hi with h1 | h1
          · exact h.heap.z_im hz h1
          · have:=h.heap.zs b' hz;omega
        · exact keep _ (h.heap.im_lt ⟨m,b,p.2,g,hlv,hp⟩) (hfar m b p g hlv hp gi)
    · have cross : ∀ (m n : Nat) (b c : Blk) (p q : Nat × Nat),find hpR m = some b→live b = true→injN m = some p→find st.hp n = some c→live c = true→injN n = some q→(∀ i,i < k→ρ i≠n)→p.1≠q.1:=by
        intro m n b c p q h1 h3 h5 h2 h4 h6 hn e
        have hq : inj n = some q:=by rw [← hN1 n (h.heap.blk n c h2).1];exact h6
        have hlt:=h.heap.im_lt (b:=q.1) ⟨n,c,q.2,h2,h4,hq⟩
        rcases he3.imm p.1 ⟨m,b,p.2,h1,h3,hR m b h1 p h5⟩ with g1 | g1
        · rcases hE.imm p.1 (him _ g1) with g2 | g2
          · exact hfar n c q h2 h4 hq hn (e ▸ g2)
          · omega
        · have:=hE.size;omega
      rcases hb.old m b h1 with g | ⟨g,gi⟩ <;> rcases hb.old n c h2 with g' | ⟨g',gi'⟩
      · exact hr3.heap.sep m n b c p q g g' h3 h4 (hR m b g p h5) (hR n c g' q h6) hne
      · exact cross m n b c p q g h3 h5 g' h4 h6 gi'
      · exact fun e=>cross n m c b q p g' h4 h6 g h3 h5 gi e.symm
      · exact h.heap.sep m n b c p q g g' h3 h4 (by rw [← hN1 m (h.heap.blk m b g).1];exact h5) (by rw [← hN1 n (h.heap.blk n c g').1];exact h6) hne
    · rcases hb.old m b h1 with g | ⟨g,gi⟩
      · exact hr3.heap.out m b p g h2 (hR m b g p h3) hz
      · have hq : inj m = some p:=by rw [← hN1 m (h.heap.blk m b g).1];exact h3
        rcases hZo p.1 hz with h4 | h4 | h4
        · exact h.heap.out m b p g h2 hq h4
        · exact hfar m b p g h2 hq gi h4
        · have:=h.heap.im_lt (b:=p.1) ⟨m,b,p.2,g,h2,hq⟩;omega
  exact hK _ _ (q3i h hbase hExt hH hb.nxs (q87 hvN fun n p _ hp=>hN2 n p hp) hd)
theorem qzv {c : Call} {f : FuncId} {vs : List V} {v : V} {hp' : List (Nat × Blk)} {nx' : Nat} (hg : Qk ops st o = some true) (ho : o.op = .call c) (hc : callee st c = some (f,vs)) (hgood : Jd P f vs st.hp st.nx v hp' nx') :
    Jf P base ops o st ({sl:=st.sl,hp:=hp',nx:=nx' : AS}.putD o.dst v):=qqc hg ho hc hgood
inductive Je (P : Program) (base : Nat) (ops : Array Oper) : List Oper→AS→AS→Prop
  | nil {st : AS} : Je P base ops [] st st
  | cons {o : Oper} {l : List Oper} {st st1 st2 : AS} : Jf P base ops o st st1→Je P base ops l st1 st2→Je P base ops (o::l) st st2
  | wk {ρ : Nat→Nat} {fz ph : List Nat} {l : List Oper} {st st1 st2 : AS} : Wk base ρ fz ph st st1→Je P base ops l st1 st2→Je P base ops l st st2
inductive q30 (P : Program) (ops : Array Oper) (F : List Fp) : List Oper→AS→AS→Prop
  | nil {st : AS} : q30 P ops F [] st st
  | cons {o : Oper} {l : List Oper} {st st1 st2 : AS} : Jt P ops o (fpAt F l.length) st st1→q30 P ops F l st1 st2→q30 P ops F (o::l) st st2
def Ux (P : Program) (base : Nat) (ops : Array Oper) (dr : Dr) (l : List Oper) (st st' : AS) : Prop:=match dr with
  | none=>Je P base ops l st st'
  | some F=>q30 P ops F l st st'
theorem qgs {F : List Fp} : ∀ {l : List Oper} {st st' : AS},q30 P ops F l st st'→∃ S : Nat→AS,S 0 = st∧S l.length = st'∧∀ i o,l[i]? = some o→Jt P ops o (fpAt F (l.length - (i + 1))) (S i) (S (i + 1))
  | [],st,st',h=>by cases h;exact ⟨fun _=>st,rfl,rfl,fun i o h=>by simp at h⟩
  | o::l,st,st',h=>by
    cases h with | @cons _ _ _ st1 _ h1 h2=>
    obtain ⟨S,e0,e1,hs⟩:=qgs h2
    refine ⟨fun i=>match i with | 0=>st | i + 1=>S i,rfl,e1,fun i o' ho=>?_⟩
    cases i with
    | zero=>simp at ho;subst ho;simp only [e0,List.length_cons,Nat.zero_add,Nat.add_sub_cancel];exact h1
    | succ i=>
      have:=hs i o' (by simpa using ho)
      simp only [List.length_cons]
      rw [show l.length + 1 - (i + 1 + 1) = l.length - (i + 1) by omega]
      exact this
theorem qo8 {dr : Dr} {l : List Oper} {st2 : AS} (hg : Qk ops st o = some false) (h : Ux P base ops dr l (st.putD o.dst (.d (.tup []))) st2) : Ux P base ops dr (o::l) st st2:=by
  cases dr with
  | none=>exact .cons (qit hg) h
  | some F=>exact .cons ((qzu hg).mono (qib _)) h
theorem qo6 {dr : Dr} {l : List Oper} {st2 : AS} {v : V} (hT : Ym P T) (hg : Qk ops st o = some true) (ho : opFn T st o.op = some (v,st1)) (hf : okO dr l.length st o.op st1 = true) (h : Ux P base ops dr l (st1.putD o.dst v) st2) : Ux P base ops dr (o::l) st st2:=by
  cases dr with
  | none=>exact .cons (qdr hT hg ho) h
  | some F=>
    simp only [okO,Bool.and_eq_true] at hf
    exact .cons ((qzs hT hg ho hf.2).mono hf.1) h
theorem qo7 {dr : Dr} {l : List Oper} {st2 : AS} {n es : Nat} {xs : List (List DV)} {hp2 : List (Nat × Blk)} (hT : Ym P T) (hg : Qk ops st o = some true) (ho : opFn T st o.op = some (.hs n es 0 xs.length,st1)) (hn : n = st.nx∧st1.nx = n + 1) (hh : st1.hp = (n,.dat es xs)::hp2) (hf : find hp2 n = none) (hF : okF dr l.length (fp st o.op) = true)
    (h : Ux P base ops dr l (({sl:=st1.sl,hp:=hp2,nx:=st1.nx} : AS).putD o.dst (.d (.sl es xs))) st2) : Ux P base ops dr (o::l) st st2:=by
  cases dr with
  | none=>exact .cons (qqd hT hg ho (Nat.le_of_eq hn.1.symm) hh hf) h
  | some F=>exact .cons ((qzt hT hg ho hn hh hf).mono hF) h
theorem qo5 {dr : Dr} {l : List Oper} {st2 : AS} {c : Call} {f : FuncId} {vs : List V} {ds : List DV} {v : V} {hp' : List (Nat × Blk)} {nx' : Nat} {r' r : DV} (hg : Qk ops st o = some true) (ho : o.op = .call c) (hc : callee st c = some (f,vs))
    (hfz : Kg st.hp vs = some ds) (hgood : Jd P f (ds.map .d) [] 0 v hp' nx') (hto : toD hp' 8 v = some r') (hle : DLe r' r) (hs : vs.all V.isD = true∨r.scalar = true) (hF : okF dr l.length (fpC vs) = true) (h : Ux P base ops dr l (st.putD o.dst (.d r)) st2) : Ux P base ops dr (o::l) st st2:=by
  cases dr with
  | none=>exact .cons (qis hg ho hc hfz hgood hto hle hs) h
  | some F=>exact .cons ((qzr hg ho hc hfz hgood hto hle hs).mono hF) h
def Adm (ops : Array Oper) (S : Nat→Prop) : Prop:=∀ j o,S j→ops[j]? = some o→∀ e∈o.after,Region.binds .any e = true→S e.on
def Behind (ops : Array Oper) (o : Oper) (j : Nat) : Prop:=∀ S : Nat→Prop,Adm ops S→(∀ e∈o.after,Region.binds .any e = true→S e.on)→S j
theorem qjm (acc : List Nat) (j : Nat) : ∀ (l : List Edge) (s : Nat),(l.foldl (fun s e=>if Region.binds .any e then s ||| 2 ^ e.on ||| acc.getD e.on 0 else s) s).testBit j = true→
    s.testBit j = true∨∃ e∈l,Region.binds .any e = true∧(e.on = j∨(acc.getD e.on 0).testBit j = true)
  | [],s,h=>.inl h
  | e::l,s,h=>by
    simp only [List.foldl_cons] at h
    rcases qjm acc j l _ h with h | ⟨e',h1,h2,h3⟩
    · by_cases hb : Region.binds .any e = true
      · simp only [hb,if_true,Nat.testBit_or,Bool.or_eq_true,Nat.testBit_two_pow] at h
        rcases h with (h | h) | h
        · exact .inl h
        · exact .inr ⟨e,qf,hb,.inl (by simpa using h)⟩
        · exact .inr ⟨e,qf,hb,.inr h⟩
      · simp only [hb] at h;exact .inl (by simpa using h)
    · exact .inr ⟨e',List.mem_cons_of_mem _ h1,h2,h3⟩
theorem qjn : ∀ (r : List Oper) (pre : List Oper) (acc : List Nat),ops.toList = pre ++ r→acc.length = pre.length→
    (∀ (i m : Nat),acc[i]? = some m→∃ o,ops[i]? = some o∧∀ j,m.testBit j = true→Behind ops o j)→
    (masks acc r).length = ops.size∧∀ (i m : Nat),(masks acc r)[i]? = some m→∃ o,ops[i]? = some o∧∀ j,m.testBit j = true→Behind ops o j
  | [],pre,acc,h,hl,ha=>by
    refine ⟨?_,ha⟩
    have:=congrArg List.length h
    simp at this
    simp [masks,hl,this]
  | o::r,pre,acc,h,hl,ha=>by
    refine qjn r (pre ++ [o]) (acc ++ [qjl acc o]) (by rw [h];simp) (by simp [hl]) ?_
    intro i m hm
    by_cases hi : i < acc.length
    · rw [List.getElem?_append_left hi] at hm;exact ha i m hm
    · rw [List.getElem?_append_right q7] at hm
      have hi' : i = acc.length:=by
        have:=K5 hm
        simp at this;omega
      subst hi'
      simp at hm;subst hm
      refine ⟨o,by rw [← Array.getElem?_toList,h,hl];simp,fun j hj S hS he=>?_⟩
      rcases qjm acc j _ _ hj with h0 | ⟨e,h1,h2,h3⟩
      · simp at h0
      · have hse:=he e (by simpa using h1) h2
        rcases h3 with h3 | h3
        · exact h3 ▸ hse
        · rw [List.getD_eq_getElem?_getD] at h3
          cases hc : acc[e.on]? with
          | none=>rw [hc] at h3;simp at h3
          | some m'=>
            rw [hc] at h3
            obtain ⟨o',ho',hb⟩:=ha _ _ hc
            exact hb j h3 S hS (fun e' he' hb'=>hS _ _ hse ho' e' he' hb')
theorem qhi : ∀ (l : List Oper) (n : Nat),qaa n l = true→∀ i o,l[i]? = some o→∀ e∈o.after,Region.binds .any e = true→e.on < n + i
  | [],_,_,i,o,h=>by simp at h
  | x::l,n,h,i,o,ho=>by
    simp only [qaa,Bool.and_eq_true,List.all_eq_true] at h
    cases i with
    | zero=>
      simp at ho;subst ho
      intro e he hb
      have:=h.1 e (by simpa using he)
      simp [hb] at this
      exact this
    | succ i=>
      intro e he hb
      have:=qhi l (n + 1) h.2 i o (by simpa using ho) e he hb
      omega
structure q9t (x y : Fp) : Prop where
  ww : ∀ m∈x.2,m ∉ y.2
  rw : ∀ m∈y.2,match x.1 with | none=>False | some r=>m ∉ r
  wr : ∀ m∈x.2,match y.1 with | none=>False | some r=>m ∉ r
theorem qcv {a b : List Nat} (h : q70 a b = true) : ∀ m∈a,m ∉ b:=fun m hm hb=>by
  simp only [q70,List.all_eq_true] at h
  have:=h m hm
  rw [qjp hb] at this;cases this
theorem qnj {x y : Fp} (h : qcu x y = true) : q9t x y:=by
  simp only [qcu,Bool.and_eq_true] at h
  obtain ⟨⟨h1,h2⟩,h3⟩:=h
  refine ⟨qcv h1,fun m hm=>?_,fun m hm=>?_⟩
  · revert h2
    cases x.1 with
    | none=>intro h2;rw [List.isEmpty_iff] at h2;rw [h2] at hm;cases hm
    | some r=>intro h2 hr;exact qcv h2 m hr hm
  · revert h3
    cases y.1 with
    | none=>intro h3;rw [List.isEmpty_iff] at h3;rw [h3] at hm;cases hm
    | some r=>intro h3 hr;exact qcv h3 m hr hm
structure qcn (F : List Fp) (ops : Array Oper) : Prop where
  edges : ∀ j o,ops[j]? = some o→∀ e∈o.after,Region.binds .any e = true→e.on < j
  pairs : ∀ i j a b,i < j→ops[i]? = some a→ops[j]? = some b→Behind ops b i∨(q9t (fpAt F (ops.size - (i + 1))) (fpAt F (ops.size - (j + 1)))∧(∀ t∈reads ops a,b.dst≠some t)∧(∀ t∈reads ops b,a.dst≠some t)∧∀ t,a.dst = some t→b.dst≠some t)
theorem qn2 {α : Type} {l : List α} {i : Nat} {x : α} (h : l[i]? = some x) : (x,i)∈l.zipIdx:=by
  refine List.mem_of_getElem? (i:=i) ?_
  simp [h]
theorem qde {o : Oper} {t : Tmp} : q79 o t = true↔o.dst = some t:=by
  unfold q79
  cases o.dst with
  | none=>simp
  | some d=>simp
theorem qpg {F : List Fp} (h : q78 F ops = true) : qcn F ops:=by
  simp only [q78,Bool.and_eq_true,List.all_eq_true] at h
  obtain ⟨h2,h5⟩:=h
  obtain ⟨ml,ms⟩:=qjn (ops:=ops) ops.toList [] [] rfl rfl qf
  have toL : ∀ (i : Nat) (o : Oper),ops[i]? = some o→ops.toList[i]? = some o:=fun i o ho=>by rw [Array.getElem?_toList];exact ho
  refine ⟨fun j o ho e he hb=>?_,fun i j a b hij ha hb=>?_⟩
  · have:=qhi _ 0 h2 j o (toL j o ho) e he hb
    omega
  · have:=h5 _ (qn2 (toL j b hb)) _ (qn2 (toL i a ha))
    simp only [Bool.or_eq_true] at this
    rcases this with (h | h) | h
    · have hb' : Nat.blt i j = true:=by rw [Nat.blt_eq];exact hij
      simp only [hb'] at h;cases h
    · left
      obtain ⟨m,hm⟩:=Zc (xs:=masks [] ops.toList) (i:=j) (by rw [ml];exact Yq hb)
      obtain ⟨o',ho',hbm⟩:=ms j m hm
      rw [hb] at ho';cases ho'
      rw [List.getD_eq_getElem?_getD,hm] at h
      exact hbm i h
    · right
      simp only [Bool.and_eq_true] at h
      obtain ⟨h,hF⟩:=h
      simp only [qgd,Bool.and_eq_true,List.all_eq_true,Bool.not_eq_true'] at h
      obtain ⟨⟨h4,h6⟩,h7⟩:=h
      refine ⟨qnj hF,fun t ht hd=>?_,fun t ht hd=>?_,fun t ht hd=>?_⟩
      · have:=h4 t ht;rw [qde.2 hd] at this;cases this
      · have:=h6 t ht;rw [qde.2 hd] at this;cases this
      · rw [ht] at h7;simp only at h7;rw [qde.2 hd] at h7;simp at h7
end
end Go.Am
namespace Go.Am
open Go
variable {P : Program}
section
variable {base : Nat} {ops : Array Oper}
theorem qip {l : Array Bool} {i : Nat} : l.getD i false = true↔l[i]? = some true:=by
  rw [Array.getD_eq_getD_getElem?]
  cases l[i]? <;> simp
theorem qdq {l : Array Bool} {i : Nat} : l.getD i true = false↔l[i]? = some false:=by
  rw [Array.getD_eq_getD_getElem?]
  cases l[i]? <;> simp
theorem qu2 {w : World} {Z : Nat→Prop} {inj : Inj} {hp hp2 : List (Nat × Blk)} {nx : Nat} (h : RelH w Z inj hp nx) (hs : ∀ m,find hp2 m = find hp m) : RelH w Z inj hp2 nx:=by
  refine ⟨fun n b hb=>h.blk n b (by rw [← hs];exact hb),fun n m b c p q h1 h2=>h.sep n m b c p q (by rw [← hs];exact h1) (by rw [← hs];exact h2),fun n b p h1=>h.out n b p (by rw [← hs];exact h1),h.zs,h.zc⟩
theorem qpr {w w' : World} {Z Z' : Nat→Prop} {inj inj' : Inj} {hp hp' hp2 : List (Nat × Blk)} {pin : Nat} (h : Ext w Z inj hp w' Z' inj' hp' pin) (hs : ∀ m,find hp2 m = find hp' m) : Ext w Z inj hp w' Z' inj' hp2 pin:=
  {h with imm:=fun b hb=>h.imm b (by
      obtain ⟨n,c,o,h1,h2,h3⟩:=hb
      exact ⟨n,c,o,by rw [← hs];exact h1,h2,h3⟩)}
abbrev fpO (F : List Fp) (ops : Array Oper) (i : Nat) : Fp:=fpAt F (ops.size - (i + 1))
def CutS (ops : Array Oper) (listed : Array Bool) (t : Tmp) (m : Nat) : Prop:=∀ (i : Nat) (o : Oper),ops[i]? = some o→o.dst = some t→(listed[i]? = some true↔i < m)
def CutB (F : List Fp) (ops : Array Oper) (listed : Array Bool) (q m : Nat) : Prop:=∀ (i : Nat) (o : Oper),ops[i]? = some o→q∈(fpO F ops i).2→(listed[i]? = some true↔i < m)
structure Mid (F : List Fp) (ops : Array Oper) (S : Nat→AS) (listed : Array Bool) (st : AS) : Prop where
  nx : st.nx = (S ops.size).nx
  sl : ∀ t m,m≤ops.size→CutS ops listed t m→st.get t = (S m).get t
  hp : ∀ q m,m≤ops.size→CutB F ops listed q m→find st.hp q = find (S m).hp q
abbrev Steps (P : Program) (F : List Fp) (ops : Array Oper) (S : Nat→AS) : Prop:=∀ (i : Nat) (o : Oper),ops[i]? = some o→Jt P ops o (fpO F ops i) (S i) (S (i + 1))
theorem qcz {F : List Fp} {S : Nat→AS} (hS : Steps P F ops S) {t : Tmp} {j : Nat} : ∀ m,j≤m→m≤ops.size→(∀ (i : Nat) (o : Oper),j≤i→i < m→ops[i]? = some o→o.dst≠some t)→(S m).get t = (S j).get t
  | 0,h,_,_=>by have : j = 0:=q7;subst this;rfl
  | m + 1,h,hm,hno=>by
    by_cases hj : j = m + 1
    · subst hj;rfl
    · obtain ⟨o,ho⟩:=Y3 (xs:=ops) (i:=m) q7
      rw [(hS m o ho).sl t (hno m o q7 q7 ho)]
      exact qcz hS m q7 q7 fun i o h1 h2=>hno i o h1 q7
theorem qcy {F : List Fp} {S : Nat→AS} (hS : Steps P F ops S) {q j : Nat} : ∀ m,j≤m→m≤ops.size→(∀ (i : Nat) (o : Oper),j≤i→i < m→ops[i]? = some o→q ∉ (fpO F ops i).2)→find (S m).hp q = find (S j).hp q
  | 0,h,_,_=>by have : j = 0:=q7;subst this;rfl
  | m + 1,h,hm,hno=>by
    by_cases hj : j = m + 1
    · subst hj;rfl
    · obtain ⟨o,ho⟩:=Y3 (xs:=ops) (i:=m) q7
      rw [(hS m o ho).hp q (hno m o q7 q7 ho)]
      exact qcy hS m q7 q7 fun i o h1 h2=>hno i o h1 q7
theorem q1e {F : List Fp} {S : Nat→AS} (hS : Steps P F ops S) {j : Nat} : ∀ m,j≤m→m≤ops.size→(S j).nx≤(S m).nx
  | 0,h,_=>by have : j = 0:=q7;subst this;exact Nat.le_refl _
  | m + 1,h,hm=>by
    by_cases hj : j = m + 1
    · subst hj;exact Nat.le_refl _
    · obtain ⟨o,ho⟩:=Y3 (xs:=ops) (i:=m) q7
      exact Nat.le_trans (q1e hS m q7 q7) (hS m o ho).nx
theorem qja {F : List Fp} {S : Nat→AS} (hS : Steps P F ops S) (h0 : ∀ q,(S 0).nx≤q→find (S 0).hp q = none) : ∀ m,m≤ops.size→∀ q,(S m).nx≤q→find (S m).hp q = none
  | 0,_,q,hq=>h0 q hq
  | m + 1,hm,q,hq=>by
    obtain ⟨o,ho⟩:=Y3 (xs:=ops) (i:=m) q7
    exact (hS m o ho).keys q hq (qja hS h0 m q7 q (Nat.le_trans (hS m o ho).nx hq))
def Keep (ops : Array Oper) (S : Nat→AS) (base : Nat) (w0 : World) (Z0 : Nat→Prop) (inj0 : Inj) (a0 : Act) (Ds0 : List Nat) (listed : Array Bool) (st : AS) (a : Act) (w : World) : Prop:=
  ∃ Z inj Ds,RelS w Z inj st a Ds∧Ext w0 Z0 inj0 (S 0).hp w Z inj st.hp base∧a.tmps.size = a0.tmps.size∧(∀ D∈Ds,D∈Ds0∨w0.heap.size≤D)∧
    ∀ (i : Nat) (o : Oper),ops[i]? = some o→listed[i]?≠some true→∀ m,(S i).nx≤m→m < (S (i + 1)).nx→inj m = none
theorem qp9 {l : Array Bool} {i : Nat} {n : Nat} (hi : l[i]? = some false) (hn : l.toList.count false = n + 1) : (l.setIfInBounds i true).toList.count false = n:=by
  have hlt : i < l.toList.length:=by simpa using Yq hi
  rw [Array.toList_setIfInBounds,List.count_set hlt]
  have : l.toList[i] = false:=by
    have:=hi
    rw [← Array.getElem?_toList,List.getElem?_eq_getElem hlt] at this
    simpa using this
  simp [this,hn]
theorem qpf {F : List Fp} {S : Nat→AS} (hD : qcn F ops) (hS : Steps P F ops S) (h0 : ∀ q,(S 0).nx≤q→find (S 0).hp q = none) {w0 : World} {Z0 : Nat→Prop} {inj0 : Inj} {a0 : Act} {Ds0 : List Nat} {ro : Option Nat} {Q : Exit→Act→World→Prop} (hb0 : base≤(S 0).nx)
    (hd : ∀ (i : Nat) (o : Oper),ops[i]? = some o→Jx a0.tmps.size o.dst = true)
    (hQ : ∀ a' w',Kv base w0 Z0 inj0 (S 0) a0 Ds0 (S ops.size) a' w'→Q .normal a' w') : ∀ (fuel : Nat) (listed : Array Bool) (a : Act) (w : World) (st : AS),
      listed.size = ops.size→listed.toList.count false = fuel→Adm ops (fun i=>listed[i]? = some true)→Keep ops S base w0 Z0 inj0 a0 Ds0 listed st a w→Yt ro w→Mid F ops S listed st→
      wpAnyIn (Fw ro) 0 P .any ops Q fuel listed a w:=by
  intro fuel
  induction fuel with
  | zero=>
    intro listed a w st hsz hc _ hp _ hph
    have hall : ∀ (i : Nat),i < ops.size→listed[i]? = some true:=by
      intro i hi
      have h:=List.count_eq_zero.1 hc
      obtain ⟨b,hb⟩:=Y3 (xs:=listed) (i:=i) q7
      cases b with
      | true=>exact hb
      | false=>exact absurd (by simpa using Array.mem_of_getElem? hb) h
    refine ⟨?_,?_⟩
    · rw [List.eq_nil_iff_forall_not_mem]
      intro j hj
      obtain ⟨h1,o,ho,_⟩:=mem_ready.1 hj
      rw [qdq,hall j (Yq ho)] at h1
      cases h1
    · obtain ⟨Z,inj,Ds,h1,h2,h3,h4,_⟩:=hp
      have hhp : ∀ q,find (S ops.size).hp q = find st.hp q:=fun q=>(hph.hp q ops.size (Nat.le_refl _) fun i o ho _=>⟨fun _=>Yq ho,fun h=>hall i h⟩).symm
      refine hQ _ _ ⟨Z,inj,Ds,⟨fun t v ht=>?_,?_,h1.defs,h1.nodup,h1.marks⟩,qpr h2 hhp,h3,Nat.le_trans hb0 (q1e hS _ (Nat.zero_le _) (Nat.le_refl _)),h4⟩
      · rw [← hph.nx]
        refine h1.slots t v ?_
        have:=hph.sl t ops.size (Nat.le_refl _) fun i o ho _=>⟨fun _=>Yq ho,fun h=>hall i h⟩
        exact this.trans ht
      · rw [← hph.nx];exact qu2 h1.heap hhp
  | succ fuel ih=>
    intro listed a w st hsz hc hadm hp hro hph
    have hopen : ∃ i : Nat,listed[i]? = some false:=by
      have : false∈listed.toList:=List.count_pos_iff.1 q7
      obtain ⟨i,hi⟩:=List.getElem?_of_mem this
      exact ⟨i,by simpa using hi⟩
    have hready : ∀ (n i : Nat),i = n→listed[i]? = some false→Region.ready .any ops listed≠[]:=by
      intro n
      induction n using Nat.strongRecOn with
      | _ n ihn=>
        intro i hin hi
        subst hin
        obtain ⟨o,ho⟩:=Y3 (xs:=ops) (i:=i) (by rw [← hsz];exact Yq hi)
        by_cases hall : ∀ e∈o.after,Region.binds .any e = true→listed.getD e.on false = true
        · intro hnil
          have : i∈Region.ready .any ops listed:=mem_ready.2 ⟨qdq.2 hi,o,ho,hall⟩
          rw [hnil] at this;cases this
        · simp only [Classical.not_forall] at hall
          obtain ⟨e,he,hb,hno⟩:=hall
          have hlt:=hD.edges i o ho e he hb
          obtain ⟨b,hbb⟩:=Y3 (xs:=listed) (i:=e.on) (by have:=Yq hi;omega)
          cases b with
          | true=>exact absurd (qip.2 hbb) hno
          | false=>exact ihn e.on hlt e.on rfl hbb
    refine ⟨fun hnil=>?_,fun i hi=>?_⟩
    · obtain ⟨i,hi⟩:=hopen
      exact absurd hnil (hready i i rfl hi)
    · obtain ⟨h1,o,ho,hall⟩:=mem_ready.1 hi
      rw [qdq] at h1
      have hedge : ∀ e∈o.after,Region.binds .any e = true→(fun i=>listed[i]? = some true) e.on:=fun e he hb=>qip.1 (hall e he hb)
      have hbeh : ∀ j,Behind ops o j→listed[j]? = some true:=fun j hb=>hb _ hadm hedge
      have hlater : ∀ (j : Nat) (oj : Oper),ops[j]? = some oj→Behind ops oj i→listed[j]?≠some true:=by
        intro j oj hoj hb hj
        have:=hb (fun i=>listed[i]? = some true) hadm (fun e he hbd=>hadm j oj hj hoj e he hbd)
        rw [h1] at this;cases this
      have hset : ∀ (j : Nat),(listed.setIfInBounds i true)[j]? = some true↔(j = i∨listed[j]? = some true):=by
        intro j
        by_cases hji : j = i
        · subst hji;simp [Yq h1]
        · rw [Array.getElem?_setIfInBounds_ne (Ne.symm hji)];simp [hji]
      have hadm' : Adm ops (fun j=>(listed.setIfInBounds i true)[j]? = some true):=by
        intro j oj hj hoj e he hb
        rw [hset] at hj ⊢
        rcases hj with rfl | hj
        · rw [ho] at hoj;cases hoj
          exact .inr (hedge e he hb)
        · exact .inr (hadm j oj hj hoj e he hb)
      have hsz' : (listed.setIfInBounds i true).size = ops.size:=by simp [hsz]
      have hc':=qp9 h1 hc
      have hin : i < ops.size:=Yq ho
      have hnl : listed[i]?≠some true:=by rw [h1];simp
      have hpair : ∀ (j : Nat) (oj : Oper),ops[j]? = some oj→j≠i→(listed[j]? = some true↔j < i)∨(q9t (fpO F ops i) (fpO F ops j)∧(∀ t∈reads ops o,oj.dst≠some t)∧∀ t,o.dst = some t→oj.dst≠some t):=by
        intro j oj hoj hji
        rcases Nat.lt_or_gt_of_ne hji with h | h
        · rcases hD.pairs j i oj o h hoj ho with hb | ⟨ha,h2,h3,h4⟩
          · exact .inl ⟨fun _=>h,fun _=>hbeh j hb⟩
          · exact .inr ⟨⟨fun m h5 h6=>ha.ww m h6 h5,ha.wr,ha.rw⟩,h3,fun t h5 h6=>h4 t h6 h5⟩
        · rcases hD.pairs i j o oj h ho hoj with hb | ⟨ha,h2,h3,h4⟩
          · exact .inl ⟨fun hl=>absurd hl (hlater j oj hoj hb),fun hl=>q7⟩
          · exact .inr ⟨ha,h2,h4⟩
      have hagW : ∀ m∈(fpO F ops i).2,find st.hp m = find (S i).hp m:=fun m hm=>by
        refine hph.hp m i q7 fun j oj hoj hmj=>?_
        by_cases hji : j = i
        · subst hji;exact ⟨fun hl=>absurd hl hnl,fun hl=>absurd hl (Nat.lt_irrefl _)⟩
        · rcases hpair j oj hoj hji with h | ⟨ha,_⟩
          · exact h
          · exact absurd hmj (ha.ww m hm)
      have hag : U8 ops o (fpO F ops i) (S i) st:=by
        refine ⟨⟨hagW,?_⟩,fun t ht=>?_⟩
        · have key : ∀ m,(∀ (j : Nat) (oj : Oper),ops[j]? = some oj→j≠i→q9t (fpO F ops i) (fpO F ops j)→m ∉ (fpO F ops j).2)→find st.hp m = find (S i).hp m:=fun m hm=>by
            by_cases hmi : m∈(fpO F ops i).2
            · exact hagW m hmi
            refine hph.hp m i q7 fun j oj hoj hmj=>?_
            by_cases hji : j = i
            · subst hji;exact absurd hmj hmi
            · rcases hpair j oj hoj hji with h | ⟨ha,_⟩
              · exact h
              · exact absurd hmj (hm j oj hoj hji ha)
          cases hR : (fpO F ops i).1 with
          | none=>exact fun m=>key m fun j oj _ _ ha hmj=>by have:=ha.rw m hmj;rw [hR] at this;exact this
          | some r=>exact fun m hmr=>key m fun j oj _ _ ha hmj=>by have:=ha.rw m hmj;rw [hR] at this;exact this hmr
        · refine hph.sl t i q7 fun j oj hoj hdj=>?_
          by_cases hji : j = i
          · subst hji;exact ⟨fun hl=>absurd hl hnl,fun hl=>absurd hl (Nat.lt_irrefl _)⟩
          · rcases hpair j oj hoj hji with h | ⟨_,hr,_⟩
            · exact h
            · exact absurd hdj (hr t ht)
      have hstep:=hS i o ho
      have hlow : (S (i + 1)).nx≤st.nx:=by rw [hph.nx];exact q1e hS _ q7 (Nat.le_refl _)
      have hfree : ∀ m,(S i).nx≤m→m < (S (i + 1)).nx→find st.hp m = none:=fun m h2 h3=>by
        rw [hagW m (hstep.fresh m h2 h3)]
        exact qja hS h0 i q7 m h2
      obtain ⟨st3,hnx3,hgood,hs1,hs2,hh1,hh2⟩:=hstep.other st hlow hag hfree
      refine qmc ho ?_
      obtain ⟨Z,inj,Ds,k1,k2,k3,k4,k5⟩:=hp
      have hbi : base≤(S i).nx:=Nat.le_trans hb0 (q1e hS _ (Nat.zero_le _) q7)
      refine hgood base ro Q w Z inj a Ds _ k1 (by rw [k3];exact hd i o ho) hbi (by have:=hstep.nx;omega) hro (k5 i o ho hnl) fun a' w' hp'=>?_
      obtain ⟨Z',inj',Ds',g1,g2,g3,g4,g5⟩:=hp'
      refine ih _ a' w' st3 hsz' hc' hadm' ⟨Z',inj',Ds',g1,k2.trans g2 (Nat.le_refl _),g3.trans k3,fun D hD=>?_,fun j oj hoj hlj m h2 h3=>?_⟩ (hro.ext g2) ⟨hnx3.trans hph.nx,fun t m hm hcut=>?_,fun q m hm hcut=>?_⟩
      · rcases g4 D hD with h | h
        · exact k4 D h
        · exact .inr (Nat.le_trans k2.size h)
      · have hji : j≠i:=by rintro rfl;exact hlj ((hset j).2 (.inl rfl))
        have hlj' : listed[j]?≠some true:=fun e=>hlj ((hset j).2 (.inr e))
        rw [g5 m (by
          have:=q1e hS (j:=j + 1) ops.size (by have:=Yq hoj;omega) (Nat.le_refl _)
          have:=hph.nx;omega) (by
          rcases Nat.lt_or_gt_of_ne hji with h | h
          · left;have:=q1e hS (j:=j + 1) i q7 q7;omega
          · right;have:=q1e hS (j:=i + 1) j q7 (by have:=Yq hoj;omega);omega)]
        exact k5 j oj hoj hlj' m h2 h3
      · by_cases hdt : o.dst = some t
        · have him : i < m:=(hcut i o ho hdt).1 ((hset i).2 (.inl rfl))
          rw [hs2 t hdt]
          refine (qcz hS m q7 hm fun j oj hj1 hj2 hoj hdj=>?_).symm
          have hl:=(hset j).1 ((hcut j oj hoj hdj).2 hj2)
          rcases hl with hl | hl
          · omega
          · rcases hpair j oj hoj q7 with h | ⟨_,_,hw⟩
            · have:=h.1 hl;omega
            · exact hw t hdt hdj
        · rw [hs1 t hdt]
          refine hph.sl t m hm fun j oj hoj hdj=>?_
          have hji : j≠i:=by rintro rfl;rw [ho] at hoj;cases hoj;exact hdt hdj
          rw [← hcut j oj hoj hdj,hset]
          simp [hji]
      · by_cases hq : q∈(fpO F ops i).2
        · have him : i < m:=(hcut i o ho hq).1 ((hset i).2 (.inl rfl))
          rw [hh1 q hq]
          refine (qcy hS m q7 hm fun j oj hj1 hj2 hoj hqj=>?_).symm
          have hl:=(hset j).1 ((hcut j oj hoj hqj).2 hj2)
          rcases hl with hl | hl
          · omega
          · rcases hpair j oj hoj q7 with h | ⟨ha,_⟩
            · have:=h.1 hl;omega
            · exact ha.ww q hq hqj
        · rw [hh2 q hq]
          refine hph.hp q m hm fun j oj hoj hqj=>?_
          have hji : j≠i:=by rintro rfl;exact hq hqj
          rw [← hcut j oj hoj hqj,hset]
          simp [hji]
theorem qu4 {w : World} {Z : Nat→Prop} {inj : Inj} {st : AS} {a : Act} {Ds : List Nat} {N : Nat} (h : RelS w Z inj st a Ds) (hN : st.nx≤N) : RelS w Z (fun m=>if m < st.nx then inj m else none) {st with nx:=N} a Ds:=by
  have hi : ∀ n,n < st.nx→(fun m=>if m < st.nx then inj m else none) n = inj n:=fun n hn=>by simp [hn]
  have hkb : Zu w w:=fun _ c e f h=>⟨c,e,f,h,rfl⟩
  refine ⟨h.slots.mono (fun _ _=>rfl) (fun _ h=>h) hkb hi hN,⟨fun n b hb=>?_,fun n m b c p q h1 h2 h3 h4 h5 h6=>?_,fun n b p h1 h2 h3=>?_,h.heap.zs,h.heap.zc⟩,h.defs,h.nodup,h.marks⟩
  · obtain ⟨k1,k2⟩:=h.heap.blk n b hb
    exact ⟨Nat.lt_of_lt_of_le k1 hN,k2.mono (fun _ _=>rfl) (fun _ h=>h) hkb hi hN k1 (fun _ _ _=>rfl)⟩
  · rw [if_pos (h.heap.blk n b h1).1] at h5
    rw [if_pos (h.heap.blk m c h2).1] at h6
    exact h.heap.sep n m b c p q h1 h2 h3 h4 h5 h6
  · rw [if_pos (h.heap.blk n b h1).1] at h3
    exact h.heap.out n b p h1 h2 h3
theorem qu0 {F : List Fp} {id : Nat} {w : World} {Z : Nat→Prop} {inj : Inj} {st st' : AS} {a : Act} {Ds : List Nat} {ro : Option Nat} {Q : Exit→Act→World→Prop} (hm : P.follows .mixedOrders = true) (hD : qcn F ops) (hc : q30 P ops F ops.toList st st')
    (h : RelS w Z inj st a Ds) (hok : codeOk a.tmps.size (.region id ops true) = true) (hb : base≤st.nx) (hro : Yt ro w) (hQ : ∀ a' w',Kv base w Z inj st a Ds st' a' w'→Q .normal a' w') : (Code.region id ops true).wpIn (Fw ro) 0 P Q a w:=by
  refine wpIn_region_any hm ?_
  obtain ⟨S,e0,e1,hS⟩:=qgs hc
  subst e0
  rw [Array.length_toList] at e1
  subst e1
  have hS' : Steps P F ops S:=fun i o ho=>by
    have:=hS i o (by rw [Array.getElem?_toList];exact ho)
    rw [Array.length_toList] at this
    exact this
  have hN : (S 0).nx≤(S ops.size).nx:=q1e hS' _ (Nat.zero_le _) (Nat.le_refl _)
  have hs : RelS {w with drawn:=w.drawn + 1} Z inj (S 0) a Ds:=⟨h.slots.mono (fun _ _=>rfl) (fun _ h=>h) (fun b c e f hb=>⟨c,e,f,hb,rfl⟩) (fun _ _=>rfl) (Nat.le_refl _),h.heap.same rfl,h.defs,h.nodup,h.marks⟩
  have h0 : ∀ q,(S 0).nx≤q→find (S 0).hp q = none:=fun q hq=>by
    cases hf : find (S 0).hp q with
    | none=>rfl
    | some b=>have:=(h.heap.blk q b hf).1;omega
  have hdst : ∀ (i : Nat) (o : Oper),ops[i]? = some o→Jx a.tmps.size o.dst = true:=by
    intro i o ho
    simp only [codeOk,List.all_eq_true] at hok
    exact hok o (by simpa using Array.mem_of_getElem? ho)
  have hno : ∀ (i : Nat),(Array.replicate ops.size false)[i]?≠some true:=by
    intro i hi
    rw [Array.getElem?_replicate] at hi
    split at hi <;> simp at hi
  have hext : Ext w Z inj (S 0).hp {w with drawn:=w.drawn + 1} Z (fun m=>if m < (S 0).nx then inj m else none) (S 0).hp base:=by
    have e : Ext w Z inj (S 0).hp {w with drawn:=w.drawn + 1} Z inj (S 0).hp base:=.same rfl rfl rfl rfl
    refine {e with imm:=fun b hb'=>e.imm b ?_,pinj:=fun n hn=>by simp;omega}
    obtain ⟨n,c,o,g1,g2,g3⟩:=hb'
    refine ⟨n,c,o,g1,g2,?_⟩
    have:=(h.heap.blk n c g1).1
    simpa [this] using g3
  refine qpf hD hS' h0 hb hdst hQ ops.size _ a _ {S 0 with nx:=(S ops.size).nx} qf qf ?_ ⟨Z,_,Ds,qu4 hs hN,hext,rfl,fun _ h=>.inl h,fun i o ho _ m h2 h3=>?_⟩ (fun l hl=>hro l hl) ⟨rfl,fun t m hm hcut=>?_,fun q m hm hcut=>?_⟩
  · intro j o hj ho
    exact absurd hj (hno j)
  · have:=q1e hS' (j:=0) i (Nat.zero_le _) (by have:=Yq ho;omega)
    simp;omega
  · refine (qcz hS' m (Nat.zero_le _) hm fun i o _ hi ho hd=>?_).symm
    exact hno i ((hcut i o ho hd).2 hi)
  · refine (qcy hS' m (Nat.zero_le _) hm fun i o _ hi ho hd=>?_).symm
    exact hno i ((hcut i o ho hd).2 hi)
end
end Go.Am
namespace Go.Am
open Go
variable {P : Program} {T : Tab}
section
variable {w w' : World} {Z Z' : Nat→Prop} {inj inj' : Inj} {hp hp' : List (Nat × Blk)} {nx nx' pin : Nat}
theorem RelH.grow (h : RelH w Z inj hp nx) (hk : ∀ b,b < w.heap.size→w'.heap[b]? = w.heap[b]?) : RelH w' Z inj hp nx:=by
  have hb : Zu w w':=fun b c e f hh=>⟨c,e,f,(hk b (J9 hh)).trans hh,rfl⟩
  refine ⟨fun n b hn=>?_,h.sep,h.out,?_,?_⟩
  · obtain ⟨h1,h2⟩:=h.blk n b hn
    exact ⟨h1,h2.mono (fun b hz=>hk b (h.zs b hz)) (fun _ h=>h) hb (fun _ _=>rfl) (Nat.le_refl _) h1 fun p hp hl=>hk _ (h.im_lt ⟨n,b,p.2,hn,hl,hp⟩)⟩
  · intro b hz
    obtain ⟨c,e,f,hc⟩:=h.zc b hz
    have:=hk b (h.zs b hz)
    exact J9 (this.trans hc)
  · intro b hz
    obtain ⟨c,e,f,hc⟩:=h.zc b hz
    exact ⟨c,e,f,(hk b (h.zs b hz)).trans hc⟩
theorem Ext.alloc (o : Obj) (ho : Unfr o:=by first | exact rfl | exact trivial) : Ext w Z inj hp (w.alloc o) Z inj hp pin:=
  ⟨qf,fun b hb _=>Zl w o hb,fun _ h=>.inl h,q2e w o,qj8 w o,fun _ h=>h,fun _ h=>.inl h,fun _ _=>rfl,rfl,rfl,rfl,qik w ho⟩
theorem qil {w : World} {a : Addr} (h : ∀ c e f,w.heap[a.block]?≠some (.cells c e f)) : w.frozen? a = false:=by
  unfold World.frozen?
  split
  · rename_i hh;exact absurd hh (h _ _ _)
  · rfl
theorem qim {b : Nat} {o : Obj} (h : ∀ c e f,w.heap[b]?≠some (.cells c e f)) (ho : ∀ c e f,o≠.cells c e f) (a : Addr) : (w.putObj b o).frozen? a = w.frozen? a:=by
  by_cases hb : a.block = b
  · subst hb
    rw [qil h,qil]
    intro c e f
    by_cases hlt : a.block < w.heap.size
    · rw [World.putObj_heap_same hlt];intro he;exact ho _ _ _ (Option.some.inj he)
    · have e2 : (w.putObj a.block o).heap[a.block]? = none:=by simp;omega
      rw [e2];simp
  · simp only [World.frozen?,World.putObj_heap_other hb]
theorem ql3 (h : RelH w Z inj hp nx) {n : Nat} {b0 blk : Blk} (hn : find hp n = some b0) (hl : live b0 = true) {b off : Nat} (hi : inj n = some (b,off)) {r r' : Loop} (hb : w.heap[b]? = some (.loop r)) (hd : r'.defers = r.defers)
    (hnew : RelB (w.putObj b (.loop r')) Z inj nx n blk) (hlv : live blk = true→True) : RelH (w.putObj b (.loop r')) Z inj (repl hp n blk) nx∧Ext w Z inj hp (w.putObj b (.loop r')) Z inj (repl hp n blk) pin:=by
  have hother : ∀ k,k≠b→(w.putObj b (.loop r')).heap[k]? = w.heap[k]?:=fun k hk=>World.putObj_heap_other hk
  have hzb : ¬ Z b:=fun hz=>by
    obtain ⟨c,e,f,hc⟩:=h.zc b hz
    rw [hb] at hc;cases hc
  have hkb : Zu w (w.putObj b (.loop r')):=fun k c e f hk=>by
    by_cases hkb : k = b
    · subst hkb;rw [hb] at hk;cases hk
    · exact ⟨c,e,f,(hother k hkb).trans hk,rfl⟩
  have hz : ∀ k,Z k→(w.putObj b (.loop r')).heap[k]? = w.heap[k]?:=fun k hk=>hother k (fun e=>hzb (e ▸ hk))
  have hfind : ∀ m c,find (repl hp n blk) m = some c→(m = n∧c = blk)∨(m≠n∧find hp m = some c):=by
    intro m c hm
    rw [Yx] at hm
    split at hm
    · rename_i e;subst e;rw [hn] at hm;simp at hm;exact .inl ⟨rfl,hm.symm⟩
    · rename_i e;exact .inr ⟨fun h=>e h.symm,hm⟩
  have himm : ∀ k,im (repl hp n blk) inj k→im hp inj k:=by
    rintro k ⟨m,c,o,h1,h2,h3⟩
    rcases hfind m c h1 with ⟨rfl,rfl⟩ | ⟨_,h4⟩
    · exact ⟨m,b0,o,hn,hl,h3⟩
    · exact ⟨m,c,o,h4,h2,h3⟩
  refine ⟨⟨?_,?_,?_,?_,?_⟩,⟨qf,?_,fun k hk=>.inl (himm k hk),hkb,?_,fun _ h=>h,fun _ h=>.inl h,fun _ _=>rfl,rfl,rfl,rfl,qim (fun _ _ _=>by rw [hb];simp) (fun _ _ _=>qf)⟩⟩
  · intro m c hm
    rcases hfind m c hm with ⟨rfl,rfl⟩ | ⟨hne,h4⟩
    · exact ⟨(h.blk _ _ hn).1,hnew⟩
    · obtain ⟨h5,h6⟩:=h.blk m c h4
      exact ⟨h5,h6.mono hz (fun _ h=>h) hkb (fun _ _=>rfl) (Nat.le_refl _) h5 fun p hp hlv=>hother _ fun e=>h.sep m n c b0 p (b,off) h4 hn hlv hl hp hi hne e⟩
  · intro m m' c c' p q h1 h2 h3 h4 h5 h6 hne
    rcases hfind m c h1 with ⟨rfl,rfl⟩ | ⟨e1,k1⟩ <;> rcases hfind m' c' h2 with ⟨rfl,rfl⟩ | ⟨e2,k2⟩
    · exact absurd rfl hne
    · exact h.sep _ _ _ _ p q hn k2 hl h4 h5 h6 hne
    · exact h.sep _ _ _ _ p q k1 hn h3 hl h5 h6 hne
    · exact h.sep _ _ _ _ p q k1 k2 h3 h4 h5 h6 hne
  · intro m c p h1 h2 h3
    rcases hfind m c h1 with ⟨rfl,rfl⟩ | ⟨e1,k1⟩
    · exact h.out _ _ p hn hl h3
    · exact h.out _ _ p k1 h2 h3
  · intro k hk;simpa using h.zs k hk
  · intro k hk
    obtain ⟨c,e,f,hc⟩:=h.zc k hk
    exact ⟨c,e,f,(hz k hk).trans hc⟩
  · intro k _ hk
    exact hother k fun e=>hk ⟨n,b0,off,hn,hl,e ▸ hi⟩
  · intro k x hk
    by_cases hkb : k = b
    · subst hkb
      rw [hb] at hk;cases hk
      exact ⟨r',World.putObj_heap_same (J9 hb),hd⟩
    · exact ⟨x,(hother k hkb).trans hk,rfl⟩
theorem qev (h : RelH w Z inj hp nx) {n : Nat} {s : List (Nat × V)} {ps : List Tmp} {as bo : Code} {ls ls' : LoopState} {pe pe' : Option Code} (hn : find hp n = some (.loop s ps as bo ls pe)) : ∃ b r,inj n = some (b,0)∧w.heap[b]? = some (.loop r)∧
    r.state = ls∧r.pending = pe∧r.params = ps.toArray∧r.assign = as∧r.body = bo∧(codeOk r.tmps.size as = true∧codeOk r.tmps.size bo = true∧∀ p∈ps,p < r.tmps.size)∧Yh w Z inj nx s r.tmps∧
    RelH (w.putObj b (.loop {r with state:=ls',pending:=pe'})) Z inj (repl hp n (.loop s ps as bo ls' pe')) nx∧Ext w Z inj hp (w.putObj b (.loop {r with state:=ls',pending:=pe'})) Z inj (repl hp n (.loop s ps as bo ls' pe')) pin:=by
  obtain ⟨hnx,b,tmps,D,fn,h1,h2,h3,h4⟩:=h.blk n _ hn
  refine ⟨b,_,h1,h2,rfl,rfl,rfl,rfl,rfl,h3,h4,?_⟩
  refine ql3 h hn rfl h1 h2 rfl ?_ (fun _=>trivial)
  refine ⟨b,tmps,D,fn,h1,World.putObj_heap_same (J9 h2),h3,?_⟩
  have hzb : ¬ Z b:=fun hz=>by
    obtain ⟨c,e,f,hc⟩:=h.zc b hz
    rw [h2] at hc;cases hc
  refine h4.mono (fun k hk=>World.putObj_heap_other (fun e=>hzb (e ▸ hk))) (fun _ h=>h) ?_ (fun _ _=>rfl) (Nat.le_refl _)
  intro k c e f hk
  by_cases hkb : k = b
  · subst hkb;rw [h2] at hk;cases hk
  · exact ⟨c,e,f,(World.putObj_heap_other hkb).trans hk,rfl⟩
theorem qu3 (h : RelH w Z inj hp nx) {n : Nat} {s : List (Nat × V)} {ps : List Tmp} {as bo : Code} {ls : LoopState} {pe : Option Code} (hn : find hp n = some (.loop s ps as bo ls pe)) : ∃ b r,inj n = some (b,0)∧w.heap[b]? = some (.loop r)∧
    r.state = ls∧r.pending = pe∧∀ r' : Loop,r'.defers = r.defers→RelH (w.putObj b (.loop r')) Z inj (repl hp n .dead) nx∧Ext w Z inj hp (w.putObj b (.loop r')) Z inj (repl hp n .dead) pin:=by
  obtain ⟨hnx,b,tmps,D,fn,h1,h2,h3,h4⟩:=h.blk n _ hn
  exact ⟨b,_,h1,h2,rfl,rfl,fun r' hr=>ql3 h hn rfl h1 h2 hr trivial (fun _=>trivial)⟩
theorem qi1 : ∀ (vs : List V) (k t : Nat) (v : V),find (Ks k vs) t = some v→k≤t∧vs[t - k]? = some v
  | [],k,t,v,h=>by simp [Ks,find] at h
  | x::r,k,t,v,h=>by
    simp only [Ks,Ki] at h
    split at h
    · rename_i e;subst e;cases h;simp
    · rename_i e
      obtain ⟨h1,h2⟩:=qi1 r (k + 1) t v h
      refine ⟨q7,?_⟩
      obtain ⟨m,hm⟩ : ∃ m,t - k = m + 1:=⟨t - k - 1,q7⟩
      have : t - (k + 1) = m:=by omega
      rw [this] at h2
      rw [hm];simpa using h2
theorem qu6 {vs : List V} {xs : Array Value} (n : Nat) (h : LRel w Z inj nx vs xs) : Yh w Z inj nx (Ks 0 vs) (xs ++ Array.replicate (n - xs.size) undef):=by
  intro t v ht
  obtain ⟨_,h2⟩:=qi1 vs 0 t v ht
  simp at h2
  have hlt : t < xs.size:=by rw [← h.1];exact K5 h2
  obtain ⟨x,hx⟩:=Y3 hlt
  exact ⟨x,by rw [Array.getElem?_append_left hlt];exact hx,h.2 t v x h2 hx⟩
theorem ql4 : ∀ (ps : List Tmp) (vs : List V) (xs : List Value) (s : List (Nat × V)) (tmps : Array Value),vs.length = xs.length→(∀ (i : Nat) (d : V) (c : Value),vs[i]? = some d→xs[i]? = some c→RelV w Z inj nx d c)→(∀ p∈ps,p < tmps.size)→
    Yh w Z inj nx s tmps→Yh w Z inj nx (q1i s ps vs) ((ps.zip xs).foldl (fun tmps (x : Tmp × Value)=>tmps.setIfInBounds x.1 x.2) tmps)∧((ps.zip xs).foldl (fun tmps (x : Tmp × Value)=>tmps.setIfInBounds x.1 x.2) tmps).size = tmps.size
  | [],vs,xs,s,tmps,hl,hr,hp,h=>by simpa [q1i] using h
  | p::ps,[],[],s,tmps,hl,hr,hp,h=>by simpa [q1i] using h
  | p::ps,v::vs,x::xs,s,tmps,hl,hr,hp,h=>by
    have hv:=hr 0 v x rfl rfl
    have h1:=h.put hv (hp p qf)
    obtain ⟨a,b⟩:=ql4 ps vs xs _ _ (by simpa using hl) (fun i d c hd hc=>hr (i + 1) d c (by simpa using hd) (by simpa using hc)) (fun q hq=>by simpa using hp q (by simp [hq])) h1
    refine ⟨by simpa [q1i] using a,by simpa using b⟩
  | p::ps,[],x::xs,s,tmps,hl,hr,hp,h=>by simp at hl
  | p::ps,v::vs,[],s,tmps,hl,hr,hp,h=>by simp at hl
theorem qjb {fn : Func} {st : AS} {v : V} (hT : Ym P T) {w0 : World} {Z0 : Nat→Prop} {inj0 : Inj} {hp0 : List (Nat × Blk)} {R : Ending→World→Prop} (hres : resV T st fn.results.toList = some v)
    (hR : ∀ x w' Z' inj',RelH w' Z' inj' st.hp st.nx→Ext w0 Z0 inj0 hp0 w' Z' inj' st.hp pin→RelV w' Z' inj' st.nx v x→R (.returned x) w') : ∀ (Ds : List Nat) (w : World) (Z : Nat→Prop) (inj : Inj) (a : Act),
      Yh w Z inj st.nx st.sl a.tmps→RelH w Z inj st.hp st.nx→Ext w0 Z0 inj0 hp0 w Z inj st.hp pin→Ds.Nodup→(∀ D∈Ds,w.heap[D]? = some (.deferred (some []))∧w0.heap.size≤D)→
      LeavesInM (Fw none) 0 P fn a.tmps R (Ds.map fun D=>{target:=.collected D,args:=#[]}) .returning w
  | [],w,Z,inj,a,hs,hh,he,_,_=>by
    obtain ⟨x,hx,hv⟩:=qua (a:=a) hT hh hs hres
    exact ⟨x,hx,hR x w Z inj hh he hv⟩
  | D::Ds,w,Z,inj,a,hs,hh,he,hnd,hm=>by
    obtain ⟨hD,hlt⟩:=hm D qf
    have hnd':=List.nodup_cons.1 hnd
    refine ⟨qf,.inl ⟨D,_,rfl,run_takeDeferred hD,?_⟩⟩
    have hother : ∀ k,k≠D→(w.putObj D (.deferred none)).heap[k]? = w.heap[k]?:=fun k hk=>World.putObj_heap_other hk
    have hzD : ¬ Z D:=fun hz=>by obtain ⟨c,e,f,hc⟩:=hh.zc D hz;rw [hD] at hc;cases hc
    have himD : ¬ im st.hp inj D:=fun hi=>by rcases hh.im_obj hi with ⟨_,_,e⟩ | ⟨_,e⟩ <;> rw [hD] at e <;> cases e
    have hz : ∀ k,Z k→(w.putObj D (.deferred none)).heap[k]? = w.heap[k]?:=fun k hk=>hother k fun e=>hzD (e ▸ hk)
    have hkb : Zu w (w.putObj D (.deferred none)):=fun k c e f hk=>by
      by_cases hkD : k = D
      · subst hkD;rw [hD] at hk;cases hk
      · exact ⟨c,e,f,(hother k hkD).trans hk,rfl⟩
    refine qjb hT hres hR Ds _ Z inj a (hs.mono hz (fun _ h=>h) hkb (fun _ _=>rfl) (Nat.le_refl _)) ⟨?_,hh.sep,hh.out,fun k hk=>by simpa using hh.zs k hk,?_⟩ ?_ hnd'.2 ?_
    · intro n b hn
      obtain ⟨h1,h2⟩:=hh.blk n b hn
      exact ⟨h1,h2.mono hz (fun _ h=>h) hkb (fun _ _=>rfl) (Nat.le_refl _) h1 fun p hp hl=>hother _ fun e=>himD ⟨n,b,p.2,hn,hl,by rw [← e];exact hp⟩⟩
    · intro k hk
      obtain ⟨c,e,f,hc⟩:=hh.zc k hk
      exact ⟨c,e,f,(hz k hk).trans hc⟩
    · refine ⟨by simpa using he.size,fun b hb hi=>(hother b q7).trans (he.keep b hb hi),he.imm,?_,?_,he.zin,he.zout,he.pinj,he.tape,he.os,he.output,fun x=>(qim (fun _ _ _=>by rw [hD];simp) (fun _ _ _=>qf) x).trans (he.frz x)⟩
      · intro b c e f hb
        obtain ⟨c1,e1,f1,h1,s1⟩:=he.big b c e f hb
        obtain ⟨c2,e2,f2,h2,s2⟩:=hkb b c1 e1 f1 h1
        exact ⟨c2,e2,f2,h2,s2.trans s1⟩
      · intro b r hb
        obtain ⟨r1,h1,s1⟩:=he.loops b r hb
        exact ⟨r1,(hother b (by have:=J9 hb;omega)).trans h1,s1⟩
    · intro D' hD'
      obtain ⟨h1,h2⟩:=hm D' (by simp [hD'])
      exact ⟨(hother D' (fun e=>hnd'.1 (e ▸ hD'))).trans h1,h2⟩
end
end Go.Am
