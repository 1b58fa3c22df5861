/- Am23 Am24 Am25 -/
import Derived.Test.YtbknppciefodiaaGreatK4
namespace Go.Am
open Go
variable {P : Program} {T : Tab}
section
variable {base : Nat} {w : World} {Z : Nat→Prop} {inj : Inj} {st st1 st2 : AS} {a : Act} {Ds : List Nat} {ops : Array Oper} {o : Oper}
structure Uq (ops : Array Oper) (o : Oper) (x : Fp) (st st2 : AS) : Prop where
  blk : qdz x st st2
  sl : ∀ t∈reads ops o,st2.get t = st.get t
theorem Uq.ev {x : Fp} (h : Uq ops o x st st2) {y : Operand} (a : y∈o.op.operands) : st2.ev y = st.ev y:=by
  cases y with
  | tmp t=>exact h.sl t (List.mem_append_left _ (by unfold slotsOf;rw [List.mem_filterMap];exact ⟨.tmp t,by simpa using a,rfl⟩))
  | const v=>rfl
  | func f=>rfl
  | global g=>rfl
theorem Uq.guard {x : Fp} (h : Uq ops o x st st2) : Qw ops st2 o = Qw ops st o:=by
  have hs:=h.sl
  unfold reads at hs
  unfold Qw
  grind
theorem Uq.callee {x : Fp} (h : Uq ops o x st st2) {c : Call} (d : o.op = .call c) : callee st2 c = callee st c:=by
  obtain ⟨a,args,argTypes⟩:=c
  unfold Am.callee
  cases a with
  | builtin b=>rfl
  | invoke r n=>rfl
  | value f=>
    simp only
    rw [h.ev (y:=f) (by rw [d];simp [Op.operands,Call.operands]),q8v (fun x g=>h.ev (y:=x) (by rw [d];simp [Op.operands,Call.operands];exact .inr (by simpa using g)))]
theorem Za {st : AS} {d : Option Tmp} {v : V} {t : Tmp} : (st.putD d v).get t = if d = some t then some v else st.get t:=by
  cases d with
  | none=>simp [AS.putD]
  | some d=>simp only [AS.putD,AS.put,AS.get,Kt,Option.some.injEq]
theorem qhh {w : World} {Z : Nat→Prop} {inj : Inj} {nx : Nat} {fz : List Nat} {b : AS} {v : V} {x : Value} (h : RelV w Z inj nx v x) : Wv b (fun n=>n) fz [] nx v v:=by
  induction h with
  | d h=>exact .d (.refl _)
  | @agg ds cs hl _ ih=>
    exact .agg rfl fun i c d a hd=>by
      rw [a] at hd;cases hd
      obtain ⟨y,g⟩:=Yg (xs:=cs) (i:=i) (by rw [← hl];exact Ke a)
      grind
  | @tup ds cs hl _ ih=>
    exact .tup rfl fun i c d a hd=>by
      rw [a] at hd;cases hd
      obtain ⟨y,g⟩:=Yg (xs:=cs) (i:=i) (by rw [← hl];exact Ke a)
      grind
  | @fn f ds cs hl _ ih=>
    exact .fn rfl fun i c d a hd=>by
      rw [a] at hd;cases hd
      obtain ⟨y,g⟩:=Yg (xs:=cs) (i:=i) (by rw [← hl];exact Ke a)
      grind
  | ref h1 h2=>exact .ref rfl qe h1
  | @dref cs j _ _ _ _ _=>exact .dref cs j
  | hsnil h1=>exact .hs rfl qe h1
  | hs h1 _ _ _=>exact .hs rfl qe h1
  | yld h1 _=>exact .yld rfl qe h1
  | mp h1 _=>exact .mp rfl qe h1
  | dead v=>exact .dead _
theorem q13u {w : World} {Z : Nat→Prop} {inj : Inj} {nx n : Nat} {fz : List Nat} {a : AS} {b : Blk} (h : RelB w Z inj nx n b) : Wb a (fun n=>n) fz [] nx b b:=by
  cases b with
  | dead=>exact .dead _
  | dat es xs=>exact .dat _ _
  | mp es=>exact .mp _
  | cel es xs=>
    obtain ⟨_,_,r⟩:=h
    refine .cel rfl fun i x y f m=>?_
    rw [f] at m;cases m
    refine ⟨rfl,fun j c d k hd=>?_⟩
    rw [k] at hd;cases hd
    rcases r with ⟨rfl,_⟩ | ⟨b,o,arr,ty,_,_,q⟩
    · simp at f
    · obtain ⟨z,c',_,p⟩:=q i x j c f k
      exact ⟨qhh p,z⟩
  | loop s ps assign body dn pe=>
    obtain ⟨b,tmps,D,fn,_,_,_,v⟩:=h
    refine .loop fun t l g=>?_
    obtain ⟨x,_,u⟩:=v t l g
    exact ⟨l,g,qhh u⟩
theorem qk2 {w' : World} {Z' : Nat→Prop} {inj' : Inj} {a' : Act} {r : List Nat} {dst : Option Tmp} {n es : Nat} {xs : List (List DV)} {hp2 : List (Nat × Blk)} (w : RelS w' Z' inj' (st1.putD dst (.hs n es 0 xs.length)) a' r) (u : st1.hp = (n,.dat es xs)::hp2) (hf : find hp2 n = none) (hn : base≤n) (h4 : base≤st1.nx) :
    Wk base (fun n=>n) [n] [] (st1.putD dst (.hs n es 0 xs.length)) (({sl:=st1.sl,hp:=hp2,nx:=st1.nx} : AS).putD dst (.d (.sl es xs))):=by
  have c : (({sl:=st1.sl,hp:=hp2,nx:=st1.nx} : AS).putD dst (.d (.sl es xs))).nx = st1.nx:=Yr _ _ _
  have q : (({sl:=st1.sl,hp:=hp2,nx:=st1.nx} : AS).putD dst (.d (.sl es xs))).hp = hp2:=Yq _ _ _
  have j : ∀ m b,find hp2 m = some b→m≠n∧find (st1.putD dst (.hs n es 0 xs.length)).hp m = some b:=by
    intro m b a
    have f : m≠n:=by rintro rfl;rw [hf] at a;cases a
    refine ⟨f,?_⟩
    rw [Yq,u,Kt,qp (by intro e;exact f e.symm)];exact a
  refine ⟨?_,?_,?_,?_,fun _ _=>rfl,by rw [c];exact h4,fun m a=>by simp at a;omega,fun m a=>by cases a⟩
  · intro t p h
    rw [c]
    rw [Za] at h
    by_cases l : dst = some t
    · rw [qq l] at h;cases h
      refine ⟨_,by rw [Za,qq l],.frz (k:=es) (xs:=xs) ?_ qe q0 qe rfl⟩
      show find (st1.putD dst _).hp n = _
      rw [Yq,u,Kt,qq rfl]
    · rw [qp l] at h
      have v : (st1.putD dst (.hs n es 0 xs.length)).get t = some p:=by rw [Za,qp l];exact h
      obtain ⟨x,_,z⟩:=w.slots t p v
      rw [Yr] at z
      exact ⟨p,v,qhh z⟩
  · intro m o a
    rw [c]
    unfold AS.blk at a
    rw [q] at a
    obtain ⟨f,g⟩:=j m o a
    obtain ⟨y,s⟩:=w.heap.blk m o g
    rw [Yr] at y s
    exact ⟨y,.inr ⟨qe,o,g,q13u s⟩⟩
  · omega
  · intro m b a _ hc
    unfold AS.blk at a
    grind
theorem qvo {w : World} {Z : Nat→Prop} {inj : Inj} {a a' : Act} {Ds : List Nat} {w' : World} {dst : Option Tmp} {n es : Nat} {xs : List (List DV)} {hp2 : List (Nat × Blk)}
    (h : Kw base w Z inj st a Ds (st1.putD dst (.hs n es 0 xs.length)) a' w') (m : st1.hp = (n,.dat es xs)::hp2) (q : find hp2 n = none) (k : base≤n) :
    Kw base w Z inj st a Ds (({sl:=st1.sl,hp:=hp2,nx:=st1.nx} : AS).putD dst (.d (.sl es xs))) a' w':=by
  obtain ⟨Z',inj',g,j,o,l,f,p⟩:=h
  obtain ⟨c,b⟩:=q2a j (qk2 j m q k (by rw [Yr] at f;exact f))
  exact ⟨_,_,g,c,o.trans b (Nat.le_refl _),l,by rw [Yr];rw [Yr] at f;exact f,p⟩
theorem qs6 {n es : Nat} {xs : List (List DV)} {hp2 : List (Nat × Blk)} (l : Z6 P T) (k : Qw ops st o = some true) (f : opFn T st o.op = some (.hs n es 0 xs.length,st1)) (c : st.nx≤n) (j : st1.hp = (n,.dat es xs)::hp2) (m : find hp2 n = none) :
    Jq P base ops o st (({sl:=st1.sl,hp:=hp2,nx:=st1.nx} : AS).putD o.dst (.d (.sl es xs))):=by
  intro ro Q w Z inj a Ds K h hd hb b g
  exact qfb l k f ro Q w Z inj a Ds K h hd hb b fun a' w' hp=>g a' w' (qvo hp j m (Nat.le_trans hb c))
theorem q9l {w : World} {Z : Nat→Prop} {inj inj' : Inj} {nx : Nat} {v : V} {x : Value} (h : RelV w Z inj nx v x) (hi : ∀ n p,n < nx→inj n = some p→inj' n = some p) : RelV w Z inj' nx v x:=by
  induction h with
  | d h=>exact .d h
  | agg hl _ ih=>exact .agg hl ih
  | tup hl _ ih=>exact .tup hl ih
  | fn hl _ ih=>exact .fn hl ih
  | ref h1 h2=>exact .ref h1 (hi _ _ h1 h2)
  | dref h1 h2 h3=>exact .dref h1 h2 h3
  | hsnil h1=>exact .hsnil h1
  | hs h1 h2 hsp h3=>
    refine .hs h1 h2 hsp fun a=>?_
    grind
  | yld h1 h2=>exact .yld h1 (hi _ _ h1 h2)
  | mp h1 h2=>exact .mp h1 (hi _ _ h1 h2)
  | dead v=>exact .dead v
theorem qml {w : World} {Z : Nat→Prop} {inj inj' : Inj} {nx n : Nat} {b : Blk} (h : RelB w Z inj nx n b) (hi : ∀ n p,n < nx→inj n = some p→inj' n = some p) (m : n < nx) (r : inj n = none→inj' n = none) : RelB w Z inj' nx n b:=by
  cases b with
  | dead=>trivial
  | dat es xs=>
    obtain ⟨f,g,a⟩:=h
    refine ⟨f,g,?_⟩
    grind
  | mp es=>
    obtain ⟨b,k,cl,f,g⟩:=h
    exact ⟨b,k,cl,hi _ _ m f,g⟩
  | cel es xs=>
    obtain ⟨f,g,a⟩:=h
    refine ⟨f,g,?_⟩
    rcases a with ⟨a,l⟩ | ⟨b,o,arr,ty,a,l,h5⟩
    · grind
    · refine .inr ⟨b,o,arr,ty,hi _ _ m a,l,fun i x j d q hd=>?_⟩
      obtain ⟨h6,c,y,h8⟩:=h5 i x j d q hd
      exact ⟨h6,c,y,q9l h8 hi⟩
  | loop s ps assign body dn pe=>
    obtain ⟨b,tmps,D,fn,f,g,a,l⟩:=h
    refine ⟨b,tmps,D,fn,hi _ _ m f,g,a,fun t v u=>?_⟩
    obtain ⟨x,q,z⟩:=l t v u
    exact ⟨x,q,q9l z hi⟩
def qbi (base lo hi : Nat) (w : World) (Z : Nat→Prop) (inj : Inj) (st : AS) (a : Act) (Ds : List Nat) (st' : AS) (a' : Act) (w' : World) : Prop:=
  ∃ Z' inj' Ds',RelS w' Z' inj' st' a' Ds'∧Ext w Z inj st.hp w' Z' inj' st'.hp base∧a'.tmps.size = a.tmps.size∧(∀ D∈Ds',D∈Ds∨w.heap.size≤D)∧∀ m,m < st.nx→(m < lo∨hi≤m)→inj' m = inj m
def qe1 (P : Program) (base : Nat) (ops : Array Oper) (o : Oper) (st st' : AS) (lo hi : Nat) : Prop:=
  ∀ (ro : Option Nat) (Q : Exit→Act→World→Prop) (w : World) (Z : Nat→Prop) (inj : Inj) (a : Act) (Ds : List Nat) (K : Act→World→Prop),RelS w Z inj st a Ds→Jb a.tmps.size o.dst = true→base≤lo→base≤st.nx→Yl ro w→(∀ m,lo≤m→m < hi→inj m = none)→
    (∀ a' w',qbi base lo hi w Z inj st a Ds st' a' w'→K a' w')→Up P (Fw ro) ops Q o K a w
theorem qka {st' : AS} {lo hi : Nat} (h : Jq P st.nx ops o st st') : qe1 P base ops o st st' lo hi:=by
  intro ro Q w Z inj a Ds K l hd _ hb b _ f
  refine h ro Q w Z inj a Ds K l hd (Nat.le_refl _) b fun a' w' hp=>f a' w' ?_
  obtain ⟨Z',inj',c,k,d,g,p,n⟩:=hp
  exact ⟨Z',inj',c,k,d.pin_le hb,g,n,fun m j _=>d.pinj m j⟩
theorem qmr {w : World} {Z : Nat→Prop} {inj : Inj} {w' : World} {Z' : Nat→Prop} {inj' b : Inj} {N l : Nat} {v : V} {x k : Value} (h : RelV w Z inj N v x) (j : RelV w' Z' inj' l v k) (hi : ∀ m p,m < N→inj' m = some p→b m = some p) : RelV w' Z' b N v k:=by
  induction j generalizing x with
  | d j=>exact .d j
  | @agg ds cs hl _ ih=>
    cases h with | @agg _ cs0 hl0 h0=>
    refine .agg hl fun i d c hd g=>?_
    grind
  | @tup ds cs hl _ ih=>
    cases h with | @tup _ cs0 hl0 h0=>
    refine .tup hl fun i d c hd g=>?_
    grind
  | @fn f ds cs hl _ ih=>
    cases h with | @fn _ _ cs0 hl0 h0=>
    refine .fn hl fun i d c hd g=>?_
    grind
  | ref h1 h2=>
    have a:=by cases h with | ref h1 _=>exact h1
    exact .ref a (hi _ _ a h2)
  | dref h1 h2 h3=>exact .dref h1 h2 h3
  | hsnil h1=>
    have a:=by cases h with
      | hsnil h1=>exact h1
      | hs h1 _ _ _=>exact h1
    exact .hsnil a
  | hs h1 h2 hsp h3=>
    have a:=by cases h with
      | hsnil h1=>exact h1
      | hs h1 _ _ _=>exact h1
    refine .hs a h2 hsp fun g=>?_
    grind
  | yld h1 h2=>
    have a:=by cases h with | yld h1 _=>exact h1
    exact .yld a (hi _ _ a h2)
  | mp h1 h2=>
    have a:=by cases h with | mp h1 _=>exact h1
    exact .mp a (hi _ _ a h2)
  | dead v=>exact .dead v
theorem qwu {w : World} {Z : Nat→Prop} {inj : Inj} {w' : World} {Z' : Nat→Prop} {inj' a : Inj} {N N' n : Nat} {b : Blk} (h : RelB w Z inj N n b) (r : RelB w' Z' inj' N' n b) (hi : ∀ m p,m < N→inj' m = some p→a m = some p) (u : a n = inj' n) : RelB w' Z' a N n b:=by
  cases b with
  | dead=>trivial
  | dat es xs=>
    obtain ⟨g,k,f⟩:=r
    refine ⟨g,k,?_⟩
    grind
  | mp es=>
    obtain ⟨b,q,cl,g,k⟩:=r
    exact ⟨b,q,cl,u.trans g,k⟩
  | cel es xs=>
    obtain ⟨g,k,f⟩:=r
    refine ⟨g,k,?_⟩
    rw [u]
    rcases f with f | ⟨b,o,arr,ty,f,z,h5⟩
    · grind
    · refine .inr ⟨b,o,arr,ty,f,z,fun i x j d l hd=>?_⟩
      obtain ⟨h6,c,h7,h8⟩:=h5 i x j d l hd
      obtain ⟨_,_,k3⟩:=h
      rcases k3 with ⟨rfl,_⟩ | ⟨_,_,_,_,_,_,k5⟩
      · simp at l
      · obtain ⟨_,c0,_,k8⟩:=k5 i x j d l hd
        exact ⟨h6,c,h7,qmr k8 h8 hi⟩
  | loop s ps assign body dn pe=>
    obtain ⟨b,tmps,D,fn,g,k,f,z⟩:=r
    obtain ⟨_,_,_,_,_,_,_,k4⟩:=h
    refine ⟨b,tmps,D,fn,u.trans g,k,f,fun t v ht=>?_⟩
    obtain ⟨x,l,hr⟩:=z t v ht
    obtain ⟨x0,_,y⟩:=k4 t v ht
    exact ⟨x,l,qmr y hr hi⟩
theorem qk9 {mk : Nat→V} {es q : Nat} {xs : List (List DV)} {f : List (Nat × Blk)} (hT : Z6 P T) (hg : Qw ops st o = some true) (hk : (∃ es,mk = fun n=>.ref n es 0 0)∨(∃ es l,mk = fun n=>.hs n es 0 l)∨(mk = fun n=>.mp n))
    (ho : opFn T st o.op = some (mk st.nx,⟨st.sl,(st.nx,.dat es xs)::f,st.nx + 1⟩)) (hq : q < st.nx) (av : find st.hp q = none) (hold : ∀ m c,find f m = some c→c = .dead∨find st.hp m = some c) (af : ∀ m,find st.hp m = none→find f m = none) :
    qe1 P base ops o st (({sl:=st.sl,hp:=(q,.dat es xs)::f,nx:=st.nx} : AS).putD o.dst (mk q)) q (q + 1):=by
  intro ro Q w Z inj a Ds K h hd bh hb _ aj hK
  have ap : inj q = none:=aj q (Nat.le_refl _) q0
  unfold Up
  rw [q3u h hg]
  simp only [if_true]
  refine ⟨fun _ _=>trivial,?_⟩
  rw [show (Fw ro).round = ro from rfl,Oper.semAt_eq ro _ o (qlu ho)]
  obtain ⟨x,w',inj',hr,hv,hh,j,-,-⟩:=qlv hT h ho
  simp only at hv hh j
  obtain ⟨d,ag⟩ : ∃ d : Inj,d = fun m=>if m = q then inj' st.nx else inj' m:=⟨_,rfl⟩
  have ae : d q = inj' st.nx:=by rw [ag];simp
  have ac : ∀ m,m≠q→d m = inj' m:=fun m g=>by rw [ag];simp [g]
  have hi : ∀ m p,m < st.nx→inj' m = some p→d m = some p:=fun m p g hp=>by
    by_cases k : m = q
    · subst k;rw [j.pinj m g,ap] at hp;cases hp
    grind
  have ah : ∀ m c,find f m = some c→m < st.nx:=fun m c g=>by
    cases hf : find st.hp m with
    | none=>rw [af m hf] at g;cases g
    | some b=>exact (h.heap.blk m b hf).1
  have bu : ∀ m c,find f m = some c→m≠q:=fun m c g e=>by grind
  have up : ∀ m c,find f m = some c→find ((st.nx,Blk.dat es xs)::f) m = some c:=fun m c g=>by
    rw [Kt,qp (by have:=ah m c g;omega)];exact g
  have am : find ((st.nx,Blk.dat es xs)::f) st.nx = some (.dat es xs):=by rw [Kt,qq rfl]
  have back : ∀ m c,find ((q,Blk.dat es xs)::f) m = some c→∃ s,find ((st.nx,Blk.dat es xs)::f) s = some c∧d m = inj' s∧((m = q∧s = st.nx)∨(m≠q∧s = m)):=by
    intro m c g
    rw [Kt] at g
    grind
  have hH : RelH w' Z d ((q,Blk.dat es xs)::f) st.nx:=by
    refine ⟨fun m c g=>?_,fun m n b c p r h1 z h3 h4 h5 h6 au=>?_,fun m b p h1 z h3=>?_,hh.zs,hh.zc⟩
    · rw [Kt] at g
      by_cases k : q = m
      · subst k
        rw [qq rfl] at g;cases g
        refine ⟨hq,?_⟩
        obtain ⟨_,k1,k2,k3⟩:=hh.blk st.nx _ am
        exact ⟨k1,k2,by rw [ae];exact k3⟩
      · rw [qp k] at g
        refine ⟨ah m c g,?_⟩
        rcases hold m c g with rfl | aw
        · trivial
        · exact qwu (h.heap.blk m c aw).2 (hh.blk m c (up m c g)).2 hi (ac m (Ne.symm k))
    · obtain ⟨s,a1,a2,a3⟩:=back m b h1
      obtain ⟨n',b1,b2,b3⟩:=back n c z
      refine hh.sep s n' b c p r a1 b1 h3 h4 (a2 ▸ h5) (b2 ▸ h6) ?_
      rcases a3 with ⟨rfl,rfl⟩ | ⟨a3,rfl⟩ <;> rcases b3 with ⟨rfl,rfl⟩ | ⟨b3,rfl⟩
      · omega
      · intro e
        have : find f n' = some c:=by rw [Kt,qp (Ne.symm b3)] at z;exact z
        grind
      · intro e
        have : find f s = some b:=by rw [Kt,qp (Ne.symm a3)] at h1;exact h1
        grind
      · exact au
    · obtain ⟨s,a1,a2,_⟩:=back m b h1
      exact hh.out s b p a1 z (a2 ▸ h3)
  have hE : Ext w Z inj st.hp w' Z d ((q,Blk.dat es xs)::f) base:=by
    refine ⟨j.size,j.keep,?_,j.big,j.loops,j.zin,j.zout,fun n hn=>?_,j.tape,j.os,j.output,j.frz⟩
    · rintro b ⟨m,c,off,g1,g2,g3⟩
      obtain ⟨s,a1,a2,_⟩:=back m c g1
      exact j.imm b ⟨s,c,off,a1,g2,a2 ▸ g3⟩
    · rw [ac n q0];exact j.pinj n q0
  have hV : RelV w' Z d st.nx (mk q) x:=by
    rcases hk with ⟨es,rfl⟩ | ⟨es,l,rfl⟩ | rfl
    rotate_right
    · cases hv with | mp h1 z=>exact .mp hq (ae.trans z)
    · cases hv with | ref h1 z=>exact .ref hq (ae.trans z)
    · cases hv with
      | hsnil h1=>exact .hsnil hq
      | hs h1 z hsp h3=>
        refine .hs hq z hsp fun hc=>?_
        grind
  have hS : Yy w' Z d st.nx st.sl a.tmps:=fun t v ht=>by
    obtain ⟨y,hy,hr⟩:=h.slots t v ht
    exact ⟨y,hy,q9l (hr.mono (j.zkeep h.heap) j.zin j.big j.pinj (Nat.le_refl _)) hi⟩
  have u : qbi base q (q + 1) w Z inj st a Ds (({sl:=st.sl,hp:=(q,.dat es xs)::f,nx:=st.nx} : AS).putD o.dst (mk q)) (a.put o.dst x) w':=by
    refine ⟨Z,d,Ds,?_,by rw [Yq];exact hE,qm5 _ _ _,fun _ h=>.inl h,fun m g k=>?_⟩
    · generalize az : o.dst = dst at hd
      cases dst with
      | none=>exact ⟨hS,hH,h.defs,h.nodup,fun D hD=>j.marks h.heap (h.marks D hD)⟩
      | some t=>exact ⟨hS.put hV (qj9 hd),hH,h.defs,h.nodup,fun D hD=>j.marks h.heap (h.marks D hD)⟩
    · rw [ac m q0];exact j.pinj m g
  rcases hr with hr | ⟨hr,rfl⟩
  · rw [hr];exact hK _ _ u
  · rw [hr];exact hK _ _ u
theorem qvn {w : World} {Z : Nat→Prop} {inj : Inj} {a a' : Act} {Ds : List Nat} {w' : World} {dst : Option Tmp} {n es lo hi : Nat} {xs : List (List DV)} {hp2 : List (Nat × Blk)} (c : base≤st1.nx)
    (h : qbi base lo hi w Z inj st a Ds (st1.putD dst (.hs n es 0 xs.length)) a' w') (r : st1.hp = (n,.dat es xs)::hp2) (s : find hp2 n = none) (q : base≤n) :
    qbi base lo hi w Z inj st a Ds (({sl:=st1.sl,hp:=hp2,nx:=st1.nx} : AS).putD dst (.d (.sl es xs))) a' w':=by
  obtain ⟨Z',inj',g,j,o,l,p,u⟩:=h
  have hp : Kw base w Z inj st a Ds (st1.putD dst (.hs n es 0 xs.length)) a' w':=⟨Z',inj',g,j,o,l,by rw [Yr];exact c,p⟩
  obtain ⟨f,b⟩:=q2a j (qk2 j r s q c)
  refine ⟨_,_,g,f,o.trans b (Nat.le_refl _),l,p,fun m t k=>?_⟩
  rw [← u m t k];simp [wkI]
structure Js (P : Program) (ops : Array Oper) (o : Oper) (x : Fp) (st st1 : AS) : Prop where
  nx : st.nx≤st1.nx
  sl : ∀ t,o.dst≠some t→st1.get t = st.get t
  hp : ∀ m,m ∉ x.2→find st1.hp m = find st.hp m
  keys : ∀ m,st1.nx≤m→find st.hp m = none→find st1.hp m = none
  fresh : ∀ m,st.nx≤m→m < st1.nx→m∈x.2
  other : ∀ st2,st1.nx≤st2.nx→Uq ops o x st st2→(∀ m,st.nx≤m→m < st1.nx→find st2.hp m = none)→∃ st3,st3.nx = st2.nx∧(∀ base,qe1 P base ops o st2 st3 st.nx st1.nx)∧
    (∀ t,o.dst≠some t→st3.get t = st2.get t)∧(∀ t,o.dst = some t→st3.get t = st1.get t)∧(∀ m∈x.2,find st3.hp m = find st1.hp m)∧(∀ m,m ∉ x.2→find st3.hp m = find st2.hp m)
theorem qh2 : ∀ {b : List Nat} {n : Nat},hasN b n = true→n∈b
  | a::r,n,h=>by
    simp only [hasN,Bool.or_eq_true] at h
    rcases h with h | h
    · rw [Nat.eq_of_beq_eq_true h];simp
    · exact List.mem_cons_of_mem _ (qh2 h)
theorem ql9 : ∀ {b : List Nat} {n : Nat},n∈b→hasN b n = true
  | a::r,n,h=>by
    simp only [hasN,Bool.or_eq_true]
    rcases List.mem_cons.1 h with rfl | h
    · left;exact Nat.beq_refl _
    · exact .inr (ql9 h)
theorem qjy (y : Fp) : fpLe (some [],[]) y = true:=by
  unfold fpLe
  cases y.1 <;> rfl
theorem Js.mono {x y : Fp} (h : Js P ops o x st st1) (l : fpLe x y = true) : Js P ops o y st st1:=by
  simp only [fpLe,Bool.and_eq_true,subN,List.all_eq_true] at l
  obtain ⟨s,f⟩:=l
  have c : ∀ m∈x.2,m∈y.2:=fun m a=>qh2 (s m a)
  refine ⟨h.nx,h.sl,fun m a=>h.hp m fun e=>a (c m e),h.keys,fun m b hb=>c m (h.fresh m b hb),fun st2 p b v=>?_⟩
  have g : Uq ops o x st st2:=by
    refine ⟨⟨fun m a=>b.blk.1 m (c m a),?_⟩,b.sl⟩
    have hb:=b.blk.2
    revert f hb
    cases y.1 with
    | none=>grind
    | some r=>
      cases x.1 with
      | none=>simp
      | some r'=>
        intro f hb m a
        exact hb m (qh2 (by simpa using List.all_eq_true.1 f m a))
  obtain ⟨d,q,u,t,n,w,j⟩:=h.other st2 p g v
  refine ⟨d,q,u,t,n,fun m a=>?_,fun m a=>j m fun e=>a (c m e)⟩
  by_cases k : m∈x.2
  · grind
  · rw [j m k,h.hp m k];exact b.blk.1 m a
theorem qo3 {v : V} {x : Fp} (d : x.2 = []) (a : ∀ st2,Uq ops o x st st2→Jq P st2.nx ops o st2 (st2.putD o.dst v)) : Js P ops o x st (st.putD o.dst v):=by
  refine ⟨by rw [Yr];exact Nat.le_refl _,fun t h=>by rw [Za,qp h],fun m _=>by rw [Yq],fun m _ h=>by rw [Yq];exact h,fun m g a=>by rw [Yr] at a;omega,fun st2 f c _=>?_⟩
  refine ⟨st2.putD o.dst v,Yr _ _ _,fun base=>qka (a st2 c),fun t h=>by rw [Za,qp h],fun t h=>by rw [Za,Za,qq h,qq h],fun m b=>(by rw [d] at b;cases b),fun m _=>by rw [Yq]⟩
theorem q12f (a : Qw ops st o = some false) : Js P ops o (some [],[]) st (st.putD o.dst (.d (.tup []))):=
  qo3 rfl fun _ b=>qkc (b.guard.trans a)
theorem qr4 {b : Blk} {n : Nat} {sl : List (Nat × V)} {hp1 : List (Nat × Blk)} {v : V} {op : Op} (c : opFn T st op = some (v,⟨sl,(st.nx,b)::hp1,n + 1⟩)) (f : st.nx = n) (h : q3p st op ⟨sl,(st.nx,b)::hp1,n + 1⟩ = true) : ∃ es xs,b = .dat es xs:=by
  by_cases d : touch op = 2
  · simp only [q3p,d] at h
    cases b with
    | dat es xs=>exact ⟨es,xs,rfl⟩
    | _=>simp at h
  · have a : touch op≤1:=by
      have : touch op≤2:=by unfold touch;split <;> omega
      omega
    have g:=(qga (st2:=st) c a (fun _=>rfl) (fun _ _=>rfl)).1
    grind
theorem q12d {v : V} (z : Z6 P T) (y : Qw ops st o = some true) (u : opFn T st o.op = some (v,st1)) (hd : q3p st o.op st1 = true) : Js P ops o (fp st o.op) st (st1.putD o.dst v):=by
  cases qlq u with
  | calm hsl hnx hhp hnone hall=>
    have g : ∀ t,st1.get t = st.get t:=fun t=>by unfold AS.get;rw [hsl]
    refine ⟨by rw [Yr];omega,fun t h=>by rw [Za,qp h,g],fun m a=>by rw [Yq];exact hhp m a,fun m _ h=>by rw [Yq];exact hnone m h,fun m l q=>by rw [Yr] at q;omega,fun st2 j c _=>?_⟩
    obtain ⟨d,n,k,r⟩:=hall st2 (fun x p=>c.ev p) c.blk
    refine ⟨(⟨st2.sl,d,st2.nx⟩ : AS).putD o.dst v,Yr _ _ _,fun base=>qka (qfb z (c.guard.trans y) n),fun t h=>by rw [Za,qp h];rfl,fun t h=>by rw [Za,Za,qq h,qq h],fun m a=>?_,fun m a=>?_⟩
    · rw [Yq,Yq];exact k m a
    · rw [Yq];exact r m a
  | new mk b hp1 hk hv l hmem hhp hnone hall=>
    subst l
    obtain ⟨es,xs,rfl⟩:=qr4 u rfl hd
    refine ⟨by rw [Yr];exact Nat.le_succ _,fun t h=>by rw [Za,qp h];rfl,fun m a=>?_,fun m a h=>?_,fun m l q=>?_,fun st2 j c s=>?_⟩
    · rw [Yq,Kt,qp (by rintro rfl;exact a hmem)];exact hhp m a
    · rw [Yr] at a
      rw [Yq,Kt,qp (by simp only at a;omega)];exact hnone m h
    · rw [Yr] at q
      grind
    · rw [Yr] at j s ⊢
      simp only at j s
      obtain ⟨d,n,k,r,k4⟩:=hall st2 (fun x p=>c.ev p) c.blk
      have f:=s st.nx (Nat.le_refl _) q0
      refine ⟨(⟨st2.sl,(st.nx,.dat es xs)::d,st2.nx⟩ : AS).putD o.dst (mk st.nx),Yr _ _ _,fun base=>qk9 z (c.guard.trans y) hk n q0 f k4 (fun m a=>?_),fun t h=>by rw [Za,qp h];rfl,fun t h=>by rw [Za,Za,qq h,qq h,hv],fun m a=>?_,fun m a=>?_⟩
      · by_cases w : m∈(fp st o.op).2
        · rw [k m w]
          refine hnone m ?_
          rw [← c.blk.1 m w];exact a
        grind
      · rw [Yq,Yq,Kt,Kt]
        grind
      · rw [Yq,Kt,qp (by rintro rfl;exact a hmem)];exact r m a
theorem q12e {n es : Nat} {xs : List (List DV)} {hp2 : List (Nat × Blk)} (hT : Z6 P T) (hg : Qw ops st o = some true) (ho : opFn T st o.op = some (.hs n es 0 xs.length,st1)) (q : n = st.nx∧st1.nx = n + 1) (z : st1.hp = (n,.dat es xs)::hp2) (hf : find hp2 n = none) :
    Js P ops o (fp st o.op) st (({sl:=st1.sl,hp:=hp2,nx:=st1.nx} : AS).putD o.dst (.d (.sl es xs))):=by
  obtain ⟨rfl,ai⟩:=q
  cases qlq ho with
  | calm hsl hnx hhp hnone hall=>omega
  | new mk b hp1 hk hv y hmem hhp hnone hall=>
    subst y
    simp only [List.cons.injEq,Prod.mk.injEq,true_and] at z
    obtain ⟨rfl,rfl⟩:=z
    refine ⟨by rw [Yr];exact Nat.le_succ _,fun t h=>by rw [Za,qp h];rfl,fun m g=>by rw [Yq];exact hhp m g,fun m g h=>by rw [Yq];exact hnone m h,fun m y h2=>?_,fun st2 q r k=>?_⟩
    · rw [Yr] at h2
      grind
    · rw [Yr] at q k ⊢
      simp only at q k
      obtain ⟨j,k1,u,k3,k4⟩:=hall st2 (fun x hx=>r.ev hx) r.blk
      have c:=k st.nx (Nat.le_refl _) q0
      have f : ∀ m,find st2.hp m = none→find j m = none:=fun m g=>by
        by_cases v : m∈(fp st o.op).2
        · rw [u m v]
          refine hnone m ?_
          rw [← r.blk.1 m v];exact g
        grind
      refine ⟨(⟨st2.sl,j,st2.nx⟩ : AS).putD o.dst (.d (.sl es xs)),Yr _ _ _,fun base=>?_,fun t h=>by rw [Za,qp h];rfl,fun t h=>by rw [Za,Za,qq h,qq h],fun m g=>by rw [Yq,Yq];exact u m g,fun m g=>by rw [Yq];exact k3 m g⟩
      intro ro Q w Z inj a Ds K h hd l hb s p hK
      refine qk9 (base:=base) hT (r.guard.trans hg) hk k1 q0 c k4 f ro Q w Z inj a Ds K h hd l hb s p fun a' w' hp=>hK a' w' ?_
      rw [← hv] at hp
      exact qvn (st1:=⟨st2.sl,(st.nx,.dat es xs)::j,st2.nx⟩) hb hp rfl (f _ c) l
theorem q137 {hp hp2 : List (Nat × Blk)} (h : ∀ m,find hp2 m = find hp m) : ∀ k,toD hp2 k = toD hp k:=by
  intro k
  induction k with
  | zero=>funext v;cases v <;> rfl
  | succ k ih=>funext v;cases v <;> simp only [toD,ih,h]
theorem qhu {hp hp2 : List (Nat × Blk)} (h : ∀ m,find hp2 m = find hp m) : ∀ {a : List V},Kq hp2 a = Kq hp a
  | []=>rfl
  | v::r=>by simp only [Kq,q137 h,qhu h]
theorem qhv {hp hp2 : List (Nat × Blk)} : ∀ {a : List V},a.all V.isD = true→Kq hp2 a = Kq hp a
  | [],_=>rfl
  | v::r,h=>by
    simp only [List.all_cons,Bool.and_eq_true] at h
    have e : toD hp2 8 v = toD hp 8 v:=by
      cases v <;> first | rfl | (simp [V.isD] at h;done)
    rw [Kq,Kq,e,qhv (hp:=hp) (hp2:=hp2) h.2]
theorem q12c {c : Call} {f : FuncId} {b : List V} {ds : List DV} {v : V} {hp' : List (Nat × Blk)} {nx' : Nat} {n r : DV} (p : Qw ops st o = some true) (m : o.op = .call c) (q : callee st c = some (f,b))
    (l : Kq st.hp b = some ds) (a : Jo P f (ds.map .d) [] 0 v hp' nx') (j : toD hp' 8 v = some n) (k : DLe n r) (hs : b.all V.isD = true∨r.scalar = true) : Js P ops o (fpC b) st (st.putD o.dst (.d r)):=by
  refine qo3 (by unfold fpC;cases b.all V.isD <;> rfl) fun st2 g=>qkb (g.guard.trans p) m ((g.callee m).trans q) ?_ a j k hs
  rw [← l]
  by_cases hd : b.all V.isD = true
  · exact qhv hd
  · have h:=g.blk.2
    simp only [fpC,hd,qy] at h
    exact qhu h
theorem qs4 {ops : Array Oper} {o : Oper} {c : Call} {f : FuncId} {vs ax : List V} {hp0 hp' au bd : List (Nat × Blk)} {k k' an : Nat} {v' vN : V} {ρ ρ3 : Nat→Nat} {bt ar : List Nat} (hg : Qw ops st o = some true) (ho : o.op = .call c) (hc : callee st c = some (f,vs)) (bv : vs.length = ax.length)
    (cg : Wk 0 ρ [] [] {sl:=Y8 0 vs,hp:=st.hp,nx:=st.nx} {sl:=Y8 0 ax,hp:=hp0,nx:=k}) (aq : Jo P f ax hp0 k v' hp' k') (ch : Wk 0 ρ3 bt ar {sl:=[(0,v')],hp:=hp',nx:=k'} {sl:=[(0,vN)],hp:=au,nx:=an})
    (hb : Back ρ ρ3 ar k k' st.nx an st.hp au bd) : Jq P base ops o st ({sl:=st.sl,hp:=bd,nx:=an : AS}.putD o.dst vN):=by
  intro ro Q w Z inj a Ds K h hd bn _ hK
  unfold Up
  rw [q3u h hg]
  simp only [if_true]
  refine ⟨fun _ _=>trivial,?_⟩
  obtain ⟨xs,hr,hl⟩:=qee h ho hc aq.1
  rw [show (Fw ro).round = ro from rfl,Oper.semAt_eq ro _ o (by rintro c' h';rw [ho] at h';cases h'),hr,Oper.uponIn_enter]
  refine ⟨fun h=>by simp [Fw] at h,?_⟩
  have bk : RelS w Z inj {sl:=Y8 0 vs,hp:=st.hp,nx:=st.nx} {a with tmps:=xs,defers:=[]} []:=by
    refine ⟨fun t v ht=>?_,h.heap,rfl,List.nodup_nil,qe⟩
    rw [qbn] at ht
    simp only [Nat.zero_le,if_true,Nat.sub_zero] at ht
    obtain ⟨y,hy⟩:=Yg (xs:=xs) (i:=t) (by rw [← hl.1];exact Ke ht)
    exact ⟨y,hy,hl.2 t v y ht hy⟩
  obtain ⟨bu,ai⟩:=q2a bk cg
  have dc : LRel w (wkZ Z inj {sl:=Y8 0 vs,hp:=st.hp,nx:=st.nx} []) (wkI inj ρ []) k ax xs:=by
    refine ⟨by rw [← bv];exact hl.1,fun i d y dh cv=>?_⟩
    obtain ⟨y',ca,hr⟩:=bu.slots i d (by rw [qbn];simpa using dh)
    rw [cv] at ca;cases ca
    exact hr
  refine CallsIn.mono (aq.2 w _ _ xs bu.heap dc) ?_
  rintro e w' ⟨x,Z',inj',rfl,hh,bw,hv,hn⟩
  obtain ⟨s,ag⟩ : ∃ s : Inj,s = fun n=>if n < k' then inj' n else none:=⟨_,rfl⟩
  have ac : ∀ n,n < k'→s n = inj' n:=fun n hn=>by rw [ag];simp [hn]
  have cw : RelH w' Z' s hp' k':=by
    refine ⟨fun n b hb=>?_,fun n m b c p q l j u h4 h5 h6=>?_,fun n b p l j u=>?_,hh.zs,hh.zc⟩
    · obtain ⟨k1,k2⟩:=hh.blk n b hb
      exact ⟨k1,qml k2 (fun m p hm hp=>(ac m hm).trans hp) k1 (fun hp=>(ac n k1).trans hp)⟩
    · rw [ac n (hh.blk n b l).1] at h5;rw [ac m (hh.blk m c j).1] at h6
      exact hh.sep n m b c p q l j u h4 h5 h6
    · rw [ac n (hh.blk n b l).1] at u
      exact hh.out n b p l j u
  have ct : RelV w' Z' s k' v' x:=q9l hv fun n p hn hp=>(ac n hn).trans hp
  have bo : ∀ b,im hp' s b→im hp' inj' b:=by
    rintro b ⟨n,blk,o,l,j,u⟩
    exact ⟨n,blk,o,l,j,by rw [← ac n (hh.blk n blk l).1];exact u⟩
  have bm : RelS w' Z' s {sl:=[(0,v')],hp:=hp',nx:=k'} {a with tmps:=#[x],defers:=[]} []:=by
    refine ⟨fun t v ht=>?_,cw,rfl,List.nodup_nil,qe⟩
    rw [Kt] at ht
    split at ht
    · rename_i e;subst e;cases ht;exact ⟨x,rfl,ct⟩
    · simp [find] at ht
  obtain ⟨ab,ah⟩:=q2a bm ch
  generalize du : wkZ Z' s {sl:=[(0,v')],hp:=hp',nx:=k'} bt = Z3 at ab ah
  generalize cf : wkI s ρ3 ar = z at ab ah
  have cz : RelV w' Z3 z an vN x:=by
    obtain ⟨y,hy,hr⟩:=ab.slots 0 vN (by simp [find])
    simp at hy;subst hy;exact hr
  have bf : ∀ i,i < k→inj' i = inj (ρ i):=fun i hi=>by rw [bw.pinj i hi];simp [wkI]
  have co : ∀ m,m < st.nx→∀ p,z m = some p→inj m = some p:=by
    intro m hm p hp
    have bc : m ∉ ar:=fun hc=>by have:=hb.phn m hc;omega
    rw [← cf] at hp
    simp only [wkI,bc,if_false] at hp
    rcases hb.snd m hm with ⟨l,j⟩ | l
    · rw [ag] at hp
      simp only [show ρ3 m < k' by omega,if_true] at hp
      rw [bf _ l,j] at hp;exact hp
    · rw [ag] at hp;simp [show ¬ ρ3 m < k' by omega] at hp
  obtain ⟨r,af⟩ : ∃ r : Inj,r = fun m=>if m < st.nx then inj m else z m:=⟨_,rfl⟩
  have aa : ∀ m,m < st.nx→r m = inj m:=fun m hm=>by rw [af];simp [hm]
  have ce : ∀ m p,z m = some p→r m = some p:=fun m p hp=>by
    by_cases hm : m < st.nx
    · rw [aa m hm];exact co m hm p hp
    · rw [af];simp [hm,hp]
  have hR : ∀ m b,find au m = some b→∀ p,r m = some p→z m = some p:=by
    intro m b bj p hp
    by_cases hm : m < st.nx
    · rw [aa m hm] at hp
      have bc : m ∉ ar:=fun hc=>by have:=hb.phn m hc;omega
      obtain ⟨_,j⟩:=ch.blocks m b bj
      rcases j with ⟨j,_⟩ | ⟨_,b0,u,_⟩
      · exact absurd j bc
      · have cx:=(hh.blk _ _ u).1
        rcases hb.snd m hm with ⟨k1,k2⟩ | k1
        · rw [← cf]
          simp only [wkI,bc,if_false]
          rw [ac _ q0,bf _ k1,k2];exact hp
        · omega
    · rw [af] at hp;simpa [hm] using hp
  have hE : Ext w (wkZ Z inj {sl:=Y8 0 vs,hp:=st.hp,nx:=st.nx} []) (wkI inj ρ []) hp0 w' Z' inj' hp' 0:=bw.pin_le (Nat.zero_le _)
  have cy : ∀ b,im au z b→im st.hp inj b∨w.heap.size≤b:=by
    intro b da
    rcases ah.imm b da with l | l
    · rcases hE.imm b (bo b l) with j | j
      · exact ai.imm b j
      · exact .inr j
    · exact .inr (Nat.le_trans hE.size l)
  have keep : ∀ b,b < w.heap.size→¬ im hp0 (wkI inj ρ []) b→w'.heap[b]? = w.heap[b]?:=fun b cs cu=>hE.keep b cs cu
  have am : ∀ m b p,find st.hp m = some b→live b = true→inj m = some p→(∀ i,i < k→ρ i≠m)→¬ im hp0 (wkI inj ρ []) p.1:=by
    rintro m b p l j u h4 ⟨i,blk,o,g1,g2,g3⟩
    obtain ⟨j1,j2⟩:=cg.blocks i blk g1
    rcases j2 with ⟨j2,_⟩ | ⟨_,b0,j3,j4⟩
    · cases j2
    · have df : inj (ρ i) = some (p.1,o):=by simpa [wkI] using g3
      exact h.heap.sep (ρ i) m b0 b _ p j3 l (qot j4 g2) j df u (h4 i j1) rfl
  have hZ : ∀ b,Z b→Z3 b:=fun b hz=>ah.zin b (hE.zin b (ai.zin b hz))
  have bz : ∀ b,Z3 b→Z b∨im hp0 (wkI inj ρ []) b∨w.heap.size≤b:=by
    intro b hz
    rcases ah.zout b hz with l | l | l
    · rcases hE.zout b l with j | j | j
      · rcases ai.zout b j with u | u | u
        · exact .inl u
        · rcases j with j | ⟨n,hn,_⟩
          · exact .inl j
          · cases hn
        · exact .inr (.inr u)
      · exact .inr (.inl j)
      · exact .inr (.inr j)
    · rcases hE.imm b (bo b l) with j | j
      · exact .inr (.inl j)
      · exact .inr (.inr j)
    · exact .inr (.inr (Nat.le_trans hE.size l))
  have be : Zy w w':=hE.big
  have bb : qbh w w':=hE.loops
  have cm : Ext w Z inj st.hp w' Z3 r bd st.nx:=by
    refine ⟨hE.size,fun b l j=>keep b l (fun u=>(ai.imm b u).elim j (fun h4=>q0)),?_,be,bb,hZ,?_,aa,hE.tape,hE.os,hE.output,hE.frz⟩
    · rintro b ⟨m,blk,o,g1,g2,g3⟩
      rcases hb.old m blk g1 with g4 | ⟨g4,_⟩
      · exact cy b ⟨m,blk,o,g4,g2,hR m blk g4 _ g3⟩
      · exact .inl ⟨m,blk,o,g4,g2,by rw [← aa m (h.heap.blk m blk g4).1];exact g3⟩
    · intro b hz
      rcases bz b hz with l | l | l
      · exact .inl l
      · exact .inr ((ai.imm b l).imp (fun x=>x) (fun x=>x))
      · exact .inr (.inr l)
  have hH : RelH w' Z3 r bd an:=by
    refine ⟨fun m b bj=>?_,fun m n b c p q l j u h4 h5 h6 cc=>?_,fun m b p l j u hz=>?_,ab.heap.zs,ab.heap.zc⟩
    · rcases hb.old m b bj with g | ⟨g,gi⟩
      · obtain ⟨k1,k2⟩:=ab.heap.blk m b g
        refine ⟨k1,qml k2 (fun n p _ hp=>ce n p hp) k1 fun hp=>?_⟩
        cases hq : r m with
        | none=>rfl
        | some p=>rw [hR m b g p hq] at hp;cases hp
      · obtain ⟨k1,k2⟩:=h.heap.blk m b g
        refine ⟨Nat.lt_of_lt_of_le k1 hb.nxs,k2.mono (fun b' hz=>?_) hZ be (fun n hn=>aa n hn) hb.nxs k1 fun p hp cn=>?_⟩
        · refine keep b' (h.heap.zs b' hz) fun hi=>?_
          rcases ai.imm b' hi with l | l
          · exact h.heap.z_im hz l
          · have:=h.heap.zs b' hz;omega
        · exact keep _ (h.heap.im_lt ⟨m,b,p.2,g,cn,hp⟩) (am m b p g cn hp gi)
    · have ao : ∀ (m n : Nat) (b c : Blk) (p q : Nat × Nat),find au m = some b→live b = true→r m = some p→find st.hp n = some c→live c = true→r n = some q→(∀ i,i < k→ρ i≠n)→p.1≠q.1:=by
        intro m n b c p q l u h5 j h4 h6 hn e
        have hq : inj n = some q:=by rw [← aa n (h.heap.blk n c j).1];exact h6
        have cx:=h.heap.im_lt (b:=q.1) ⟨n,c,q.2,j,h4,hq⟩
        rcases ah.imm p.1 ⟨m,b,p.2,l,u,hR m b l p h5⟩ with g1 | g1
        · rcases hE.imm p.1 (bo _ g1) with g2 | g2
          · exact am n c q j h4 hq hn (e ▸ g2)
          · omega
        · have:=hE.size;omega
      rcases hb.old m b l with g | ⟨g,gi⟩ <;> rcases hb.old n c j with g' | ⟨g',dd⟩
      · exact ab.heap.sep m n b c p q g g' u h4 (hR m b g p h5) (hR n c g' q h6) cc
      · exact ao m n b c p q g u h5 g' h4 h6 dd
      · exact fun e=>ao n m c b q p g' h4 h6 g u h5 gi e.symm
      · exact h.heap.sep m n b c p q g g' u h4 (by rw [← aa m (h.heap.blk m b g).1];exact h5) (by rw [← aa n (h.heap.blk n c g').1];exact h6) cc
    · rcases hb.old m b l with g | ⟨g,gi⟩
      · exact ab.heap.out m b p g j (hR m b g p u) hz
      · have hq : inj m = some p:=by rw [← aa m (h.heap.blk m b g).1];exact u
        rcases bz p.1 hz with h4 | h4 | h4
        · exact h.heap.out m b p g j hq h4
        · exact am m b p g j hq gi h4
        · have:=h.heap.im_lt (b:=p.1) ⟨m,b,p.2,g,j,hq⟩;omega
  exact hK _ _ (q41 h bn cm hH hb.nxs (q9l cz fun n p _ hp=>ce n p hp) hd)
theorem q12g {c : Call} {f : FuncId} {b : List V} {v : V} {hp' : List (Nat × Blk)} {nx' : Nat} (d : Qw ops st o = some true) (g : o.op = .call c) (h : callee st c = some (f,b)) (a : Jo P f b st.hp st.nx v hp' nx') :
    Jq P base ops o st ({sl:=st.sl,hp:=hp',nx:=nx' : AS}.putD o.dst v):=qs5 d g h a
inductive Zo (P : Program) (base : Nat) (ops : Array Oper) : List Oper→AS→AS→Prop
  | nil {st : AS} : Zo P base ops [] st st
  | cons {o : Oper} {l : List Oper} {st st1 st2 : AS} : Jq P base ops o st st1→Zo P base ops l st1 st2→Zo P base ops (o::l) st st2
  | wk {ρ : Nat→Nat} {fz ph : List Nat} {l : List Oper} {st st1 st2 : AS} : Wk base ρ fz ph st st1→Zo P base ops l st1 st2→Zo P base ops l st st2
inductive Jp (P : Program) (base : Nat) (ops : Array Oper) (F : List Fp) : List Oper→AS→AS→Prop
  | nil {st : AS} : Jp P base ops F [] st st
  | cons {o : Oper} {l : List Oper} {st st1 st2 : AS} : Js P ops o (fpAt F l.length) st st1→Jp P base ops F l st1 st2→Jp P base ops F (o::l) st st2
  | piv {o : Oper} {l : List Oper} {st st1 st2 : AS} : Uh (fpAt F l.length) = true→Zo P base ops [o] st st1→Jp P base ops F l st1 st2→Jp P base ops F (o::l) st st2
def q1c (P : Program) (base : Nat) (ops : Array Oper) (dr : Dr) (l : List Oper) (st st' : AS) : Prop:=match dr with
  | none=>Zo P base ops l st st'
  | some F=>Jp P base ops F l st st'
theorem qil {F : List Fp} : ∀ {l : List Oper} {st st' : AS},Jp P base ops F l st st'→∃ (n : Nat) (S : Nat→AS),n≤l.length∧S 0 = st∧(∀ i o,i < n→l[i]? = some o→Js P ops o (fpAt F (l.length - (i + 1))) (S i) (S (i + 1)))∧
    ((n = l.length∧S n = st')∨∃ o st1,l[n]? = some o∧Uh (fpAt F (l.length - (n + 1))) = true∧Zo P base ops [o] (S n) st1∧Jp P base ops F (l.drop (n + 1)) st1 st')
  | [],st,st',h=>by cases h;exact ⟨0,fun _=>st,Nat.le_refl _,rfl,fun i o h=>q0,.inl ⟨rfl,rfl⟩⟩
  | o::l,st,st',h=>by
    cases h with
    | @cons _ _ _ st1 _ h1 h2=>
      obtain ⟨n,S,p,k,hs,b⟩:=qil h2
      refine ⟨n + 1,fun i=>match i with | 0=>st | i + 1=>S i,by simp;omega,rfl,fun i d hi c=>?_,?_⟩
      · cases i with
        | zero=>simp at c;subst c;simp only [k,List.length_cons,Nat.zero_add,Nat.add_sub_cancel];exact h1
        | succ i=>
          have:=hs i d q0 (by simpa using c)
          simp only [List.length_cons]
          rw [show l.length + 1 - (i + 1 + 1) = l.length - (i + 1) by omega]
          exact this
      · rcases b with ⟨a,f⟩ | ⟨d,g,a,f,m,j⟩
        · exact .inl ⟨by simp [a],f⟩
        · refine .inr ⟨d,g,by simpa using a,?_,m,by simpa using j⟩
          rw [List.length_cons,show l.length + 1 - (n + 1 + 1) = l.length - (n + 1) by omega]
          exact f
    | @piv _ _ _ st1 _ h1 h2 a=>exact ⟨0,fun _=>st,Nat.zero_le _,rfl,fun i o h=>q0,.inr ⟨o,st1,rfl,by simpa using h1,h2,by simpa using a⟩⟩
theorem qq0 {dr : Dr} {l : List Oper} {st2 : AS} (a : Qw ops st o = some false) (h : q1c P base ops dr l (st.putD o.dst (.d (.tup []))) st2) : q1c P base ops dr (o::l) st st2:=by
  cases dr with
  | none=>exact .cons (qkc a) h
  | some F=>exact .cons ((q12f a).mono (qjy _)) h
theorem qpy {dr : Dr} {l : List Oper} {st2 : AS} {v : V} (d : Z6 P T) (b : Qw ops st o = some true) (c : opFn T st o.op = some (v,st1)) (a : okO dr l.length st o.op st1 = true) (h : q1c P base ops dr l (st1.putD o.dst v) st2) : q1c P base ops dr (o::l) st st2:=by
  cases dr with
  | none=>exact .cons (qfb d b c) h
  | some F=>
    simp only [okO,Bool.and_eq_true] at a
    exact .cons ((q12d d b c a.2).mono a.1) h
theorem qpz {dr : Dr} {l : List Oper} {st2 : AS} {n es : Nat} {xs : List (List DV)} {hp2 : List (Nat × Blk)} (g : Z6 P T) (a : Qw ops st o = some true) (c : opFn T st o.op = some (.hs n es 0 xs.length,st1)) (b : n = st.nx∧st1.nx = n + 1) (f : st1.hp = (n,.dat es xs)::hp2) (j : find hp2 n = none) (k : okF dr l.length (fp st o.op) = true)
    (h : q1c P base ops dr l (({sl:=st1.sl,hp:=hp2,nx:=st1.nx} : AS).putD o.dst (.d (.sl es xs))) st2) : q1c P base ops dr (o::l) st st2:=by
  cases dr with
  | none=>exact .cons (qs6 g a c (Nat.le_of_eq b.1.symm) f j) h
  | some F=>exact .cons ((q12e g a c b f j).mono k) h
theorem qpx {dr : Dr} {l : List Oper} {st2 : AS} {c : Call} {f : FuncId} {k : List V} {ds : List DV} {v : V} {hp' : List (Nat × Blk)} {nx' : Nat} {n r : DV} (p : Qw ops st o = some true) (m : o.op = .call c) (q : callee st c = some (f,k))
    (j : Kq st.hp k = some ds) (a : Jo P f (ds.map .d) [] 0 v hp' nx') (b : toD hp' 8 v = some n) (g : DLe n r) (hs : k.all V.isD = true∨r.scalar = true) (s : okF dr l.length (fpC k) = true) (h : q1c P base ops dr l (st.putD o.dst (.d r)) st2) : q1c P base ops dr (o::l) st st2:=by
  cases dr with
  | none=>exact .cons (qkb p m q j a b g hs) h
  | some F=>exact .cons ((q12c p m q j a b g hs).mono s) h
def Adm (ops : Array Oper) (S : Nat→Prop) : Prop:=∀ j o,S j→ops[j]? = some o→∀ e∈o.after,Region.binds .any e = true→S e.on
def Behind (ops : Array Oper) (o : Oper) (j : Nat) : Prop:=∀ S : Nat→Prop,Adm ops S→(∀ e∈o.after,Region.binds .any e = true→S e.on)→S j
theorem ql6 (acc : List Nat) (j : Nat) : ∀ (l : List Edge) (s : Nat),(l.foldl (fun s e=>if Region.binds .any e then s ||| 2 ^ e.on ||| acc.getD e.on 0 else s) s).testBit j = true→
    s.testBit j = true∨∃ e∈l,Region.binds .any e = true∧(e.on = j∨(acc.getD e.on 0).testBit j = true)
  | [],s,h=>.inl h
  | e::l,s,h=>by
    simp only [List.foldl_cons] at h
    rcases ql6 acc j l _ h with h | ⟨a,b,d,c⟩
    · by_cases hb : Region.binds .any e = true
      · simp only [hb,if_true,Nat.testBit_or,Bool.or_eq_true,Nat.testBit_two_pow] at h
        rcases h with (h | h) | h
        · exact .inl h
        · exact .inr ⟨e,qe,hb,.inl (by simpa using h)⟩
        · exact .inr ⟨e,qe,hb,.inr h⟩
      · simp only [hb] at h;exact .inl (by simpa using h)
    · exact .inr ⟨a,List.mem_cons_of_mem _ b,d,c⟩
theorem ql7 : ∀ (r : List Oper) (pre : List Oper) (acc : List Nat),ops.toList = pre ++ r→acc.length = pre.length→
    (∀ (i m : Nat),acc[i]? = some m→∃ o,ops[i]? = some o∧∀ j,m.testBit j = true→Behind ops o j)→
    (masks acc r).length = ops.size∧∀ (i m : Nat),(masks acc r)[i]? = some m→∃ o,ops[i]? = some o∧∀ j,m.testBit j = true→Behind ops o j
  | [],pre,acc,h,hl,ha=>by
    refine ⟨?_,ha⟩
    have:=congrArg List.length h
    simp at this
    simp [masks,hl,this]
  | o::r,pre,acc,h,hl,ha=>by
    refine ql7 r (pre ++ [o]) (acc ++ [ql5 acc o]) (by rw [h];simp) (by simp [hl]) ?_
    intro i m b
    by_cases hi : i < acc.length
    · rw [List.getElem?_append_left hi] at b;exact ha i m b
    · rw [List.getElem?_append_right q0] at b
      have k : i = acc.length:=by
        have:=Ke b
        simp at this;omega
      subst k
      simp at b;subst b
      refine ⟨o,by rw [← Array.getElem?_toList,h,hl];simp,fun j t S n p=>?_⟩
      rcases ql6 acc j _ _ t with s | ⟨e,u,v,a⟩
      · simp at s
      · have c:=p e (by simpa using u) v
        rcases a with a | a
        · exact a ▸ c
        · rw [List.getD_eq_getElem?_getD] at a
          cases g : acc[e.on]? with
          | none=>rw [g] at a;simp at a
          | some m'=>
            rw [g] at a
            obtain ⟨w,d,hb⟩:=ha _ _ g
            exact hb j a S n (fun q f l=>n _ _ c d q f l)
theorem qja : ∀ (l : List Oper) (n : Nat),qby n l = true→∀ i o,l[i]? = some o→∀ e∈o.after,Region.binds .any e = true→e.on < n + i
  | [],_,_,i,o,h=>by simp at h
  | x::l,n,h,i,o,ho=>by
    simp only [qby,Bool.and_eq_true,List.all_eq_true] at h
    cases i with
    | zero=>
      simp at ho;subst ho
      intro e a hb
      have:=h.1 e (by simpa using a)
      simp [hb] at this
      exact this
    | succ i=>
      intro e a hb
      have:=qja l (n + 1) h.2 i o (by simpa using ho) e a hb
      omega
structure q8d (x y : Fp) : Prop where
  ww : ∀ m∈x.2,m ∉ y.2
  rw : ∀ m∈y.2,match x.1 with | none=>False | some r=>m ∉ r
  wr : ∀ m∈x.2,match y.1 with | none=>False | some r=>m ∉ r
theorem qe6 {a b : List Nat} (h : q8g a b = true) : ∀ m∈a,m ∉ b:=fun m c hb=>by
  simp only [q8g,List.all_eq_true] at h
  have:=h m c
  rw [ql9 hb] at this;cases this
theorem qp5 {x y : Fp} (h : qe5 x y = true) : q8d x y:=by
  simp only [qe5,Bool.and_eq_true] at h
  obtain ⟨⟨f,c⟩,b⟩:=h
  refine ⟨qe6 f,fun m a=>?_,fun m a=>?_⟩
  · revert c
    cases x.1 with
    | none=>intro c;rw [List.isEmpty_iff] at c;rw [c] at a;cases a
    | some r=>intro c d;exact qe6 c m d a
  · revert b
    cases y.1 with
    | none=>intro b;rw [List.isEmpty_iff] at b;rw [b] at a;cases a
    | some r=>intro b d;exact qe6 b m d a
structure q8e (F : List Fp) (ops : Array Oper) : Prop where
  edges : ∀ j o,ops[j]? = some o→∀ e∈o.after,Region.binds .any e = true→e.on < j
  pairs : ∀ i j a b,i < j→ops[i]? = some a→ops[j]? = some b→Behind ops b i∨(q8d (fpAt F (ops.size - (i + 1))) (fpAt F (ops.size - (j + 1)))∧(∀ t∈reads ops a,b.dst≠some t)∧(∀ t∈reads ops b,a.dst≠some t)∧∀ t,a.dst = some t→b.dst≠some t)
  pivs : ∀ i j a b,i < j→ops[i]? = some a→ops[j]? = some b→(Uh (fpAt F (ops.size - (i + 1))) = true∨Uh (fpAt F (ops.size - (j + 1))) = true)→Behind ops b i
theorem qoy {α : Type} {l : List α} {i : Nat} {x : α} (h : l[i]? = some x) : (x,i)∈l.zipIdx:=by grind
theorem qex {o : Oper} {t : Tmp} : q8r o t = true↔o.dst = some t:=by
  unfold q8r
  cases o.dst with
  | none=>simp
  | some d=>simp
theorem qr7 {F : List Fp} (h : q8q F ops = true) : q8e F ops:=by
  simp only [q8q,Bool.and_eq_true,List.all_eq_true] at h
  obtain ⟨p,m⟩:=h
  obtain ⟨v,w⟩:=ql7 (ops:=ops) ops.toList [] [] rfl rfl qe
  have d : ∀ (i : Nat) (o : Oper),ops[i]? = some o→ops.toList[i]? = some o:=fun i o l=>by rw [Array.getElem?_toList];exact l
  have main : ∀ i j a b,i < j→ops[i]? = some a→ops[j]? = some b→Behind ops b i∨((Uh (fpAt F (ops.size - (i + 1))) = false∧Uh (fpAt F (ops.size - (j + 1))) = false)∧(q8d (fpAt F (ops.size - (i + 1))) (fpAt F (ops.size - (j + 1)))∧(∀ t∈reads ops a,b.dst≠some t)∧(∀ t∈reads ops b,a.dst≠some t)∧∀ t,a.dst = some t→b.dst≠some t)):=fun i j a b c g hb=>by
    have:=m _ (qoy (d j b hb)) _ (qoy (d i a g))
    simp only [Bool.or_eq_true] at this
    rcases this with (h | h) | h
    · have r : Nat.blt i j = true:=by rw [Nat.blt_eq];exact c
      grind
    · grind
    · right
      simp only [Bool.and_eq_true,Bool.not_eq_true'] at h
      obtain ⟨⟨⟨hp1,hp2⟩,h⟩,u⟩:=h
      simp only [qhx,Bool.and_eq_true,List.all_eq_true,Bool.not_eq_true'] at h
      obtain ⟨⟨q,s⟩,k⟩:=h
      refine ⟨⟨hp1,hp2⟩,qp5 u,fun t f hd=>?_,fun t f hd=>?_,fun t f hd=>?_⟩
      · have:=q t f;rw [qex.2 hd] at this;cases this
      · have:=s t f;rw [qex.2 hd] at this;cases this
      · rw [f] at k;simp only at k;rw [qex.2 hd] at k;simp at k
  refine ⟨fun j o l e n hb=>?_,fun i j a b c g hb=>(main i j a b c g hb).imp id And.right,fun i j a b c g hb hp=>?_⟩
  · have:=qja _ 0 p j o (d j o l) e n hb
    omega
  grind
end
end Go.Am
namespace Go.Am
open Go
variable {P : Program}
section
variable {base : Nat} {ops : Array Oper}
theorem qfa {l : Array Bool} {i : Nat} : l.getD i false = true↔l[i]? = some true:=by
  rw [Array.getD_eq_getD_getElem?]
  cases l[i]? <;> simp
theorem qc3 {l : Array Bool} {i : Nat} : l.getD i true = false↔l[i]? = some false:=by
  rw [Array.getD_eq_getD_getElem?]
  cases l[i]? <;> simp
theorem qwv {w : World} {Z : Nat→Prop} {inj : Inj} {hp hp2 : List (Nat × Blk)} {nx : Nat} (h : RelH w Z inj hp nx) (hs : ∀ m,find hp2 m = find hp m) : RelH w Z inj hp2 nx:=by
  refine ⟨fun n b hb=>h.blk n b (by rw [← hs];exact hb),fun n m b c p q a d=>h.sep n m b c p q (by rw [← hs];exact a) (by rw [← hs];exact d),fun n b p a=>h.out n b p (by rw [← hs];exact a),h.zs,h.zc⟩
theorem qrn {w w' : World} {Z Z' : Nat→Prop} {inj inj' : Inj} {hp hp' hp2 : List (Nat × Blk)} {pin : Nat} (h : Ext w Z inj hp w' Z' inj' hp' pin) (hs : ∀ m,find hp2 m = find hp' m) : Ext w Z inj hp w' Z' inj' hp2 pin:=
  {h with imm:=fun b hb=>h.imm b (by
      obtain ⟨n,c,o,d,f,a⟩:=hb
      exact ⟨n,c,o,by rw [← hs];exact d,f,a⟩)}
abbrev fpO (F : List Fp) (ops : Array Oper) (i : Nat) : Fp:=fpAt F (ops.size - (i + 1))
def CutS (ops : Array Oper) (listed : Array Bool) (t : Tmp) (m : Nat) : Prop:=∀ (i : Nat) (o : Oper),ops[i]? = some o→o.dst = some t→(listed[i]? = some true↔i < m)
def CutB (F : List Fp) (ops : Array Oper) (listed : Array Bool) (q m : Nat) : Prop:=∀ (i : Nat) (o : Oper),ops[i]? = some o→q∈(fpO F ops i).2→(listed[i]? = some true↔i < m)
structure Mid (F : List Fp) (ops : Array Oper) (S : Nat→AS) (lo hi : Nat) (listed : Array Bool) (st : AS) : Prop where
  nx : st.nx = (S hi).nx
  sl : ∀ t m,lo≤m→m≤hi→CutS ops listed t m→st.get t = (S m).get t
  hp : ∀ q m,lo≤m→m≤hi→CutB F ops listed q m→find st.hp q = find (S m).hp q
abbrev Steps (P : Program) (F : List Fp) (ops : Array Oper) (S : Nat→AS) (lo hi : Nat) : Prop:=∀ (i : Nat) (o : Oper),lo≤i→i < hi→ops[i]? = some o→Js P ops o (fpO F ops i) (S i) (S (i + 1))
theorem qea {F : List Fp} {S : Nat→AS} {lo hi : Nat} (b : hi≤ops.size) (d : Steps P F ops S lo hi) {t : Tmp} {j : Nat} (a : lo≤j) : ∀ m,j≤m→m≤hi→(∀ (i : Nat) (o : Oper),j≤i→i < m→ops[i]? = some o→o.dst≠some t)→(S m).get t = (S j).get t
  | 0,h,_,_=>by have : j = 0:=q0;subst this;rfl
  | m + 1,h,hm,hno=>by
    by_cases f : j = m + 1
    · subst f;rfl
    · obtain ⟨o,c⟩:=Yg (xs:=ops) (i:=m) q0
      rw [(d m o q0 q0 c).sl t (hno m o q0 q0 c)]
      exact qea b d a m q0 q0 fun i o g k=>hno i o g q0
theorem qe9 {F : List Fp} {S : Nat→AS} {lo hi : Nat} (b : hi≤ops.size) (d : Steps P F ops S lo hi) {q j : Nat} (a : lo≤j) : ∀ m,j≤m→m≤hi→(∀ (i : Nat) (o : Oper),j≤i→i < m→ops[i]? = some o→q ∉ (fpO F ops i).2)→find (S m).hp q = find (S j).hp q
  | 0,h,_,_=>by have : j = 0:=q0;subst this;rfl
  | m + 1,h,hm,hno=>by
    by_cases f : j = m + 1
    · subst f;rfl
    · obtain ⟨o,c⟩:=Yg (xs:=ops) (i:=m) q0
      rw [(d m o q0 q0 c).hp q (hno m o q0 q0 c)]
      exact qe9 b d a m q0 q0 fun i o g k=>hno i o g q0
theorem q1u {F : List Fp} {S : Nat→AS} {lo hi : Nat} (b : hi≤ops.size) (c : Steps P F ops S lo hi) {j : Nat} (a : lo≤j) : ∀ m,j≤m→m≤hi→(S j).nx≤(S m).nx
  | 0,h,_=>by have : j = 0:=q0;subst this;exact Nat.le_refl _
  | m + 1,h,hm=>by
    by_cases f : j = m + 1
    · subst f;exact Nat.le_refl _
    · obtain ⟨o,d⟩:=Yg (xs:=ops) (i:=m) q0
      exact Nat.le_trans (q1u b c a m q0 q0) (c m o q0 q0 d).nx
theorem qkw {F : List Fp} {S : Nat→AS} {lo hi : Nat} (b : hi≤ops.size) (c : Steps P F ops S lo hi) (a : ∀ q,(S lo).nx≤q→find (S lo).hp q = none) : ∀ m,lo≤m→m≤hi→∀ q,(S m).nx≤q→find (S m).hp q = none
  | 0,hl,_,q,hq=>by have : lo = 0:=q0;subst this;exact a q hq
  | m + 1,hl,hm,q,hq=>by
    by_cases f : lo = m + 1
    · subst f;exact a q hq
    obtain ⟨o,d⟩:=Yg (xs:=ops) (i:=m) q0
    have hs:=c m o q0 q0 d
    exact hs.keys q hq (qkw b c a m q0 q0 q (Nat.le_trans hs.nx hq))
def Keep (ops : Array Oper) (S : Nat→AS) (lo hi : Nat) (base : Nat) (w0 : World) (Z0 : Nat→Prop) (inj0 : Inj) (hp0 : List (Nat × Blk)) (a0 : Act) (Ds0 : List Nat) (listed : Array Bool) (st : AS) (a : Act) (w : World) : Prop:=
  ∃ Z inj Ds,RelS w Z inj st a Ds∧Ext w0 Z0 inj0 hp0 w Z inj st.hp base∧a.tmps.size = a0.tmps.size∧(∀ D∈Ds,D∈Ds0∨w0.heap.size≤D)∧
    ∀ (i : Nat) (o : Oper),lo≤i→i < hi→ops[i]? = some o→listed[i]?≠some true→∀ m,(S i).nx≤m→m < (S (i + 1)).nx→inj m = none
theorem qj3 {l : Array Bool} {i : Nat} {n : Nat} (hi : l[i]? = some false) (b : l.toList.count false = n + 1) : (l.setIfInBounds i true).toList.count false = n:=by
  have a : i < l.toList.length:=by simpa using Zm hi
  rw [Array.toList_setIfInBounds,List.count_set a]
  have : l.toList[i] = false:=by
    have:=hi
    rw [← Array.getElem?_toList,List.getElem?_eq_getElem a] at this
    simpa using this
  simp [this,b]
theorem qmf {F : List Fp} (m : q8e F ops) {listed : Array Bool} (f : listed.size = ops.size) : ∀ (n i : Nat),i = n→listed[i]? = some false→Region.ready .any ops listed≠[]:=by
  intro n
  induction n using Nat.strongRecOn with
  | _ n ihn=>
    intro i g hi
    subst g
    obtain ⟨o,k⟩:=Yg (xs:=ops) (i:=i) (by rw [← f];exact Zm hi)
    by_cases a : ∀ e∈o.after,Region.binds .any e = true→listed.getD e.on false = true
    · intro d
      have : i∈Region.ready .any ops listed:=mem_ready.2 ⟨qc3.2 hi,o,k,a⟩
      rw [d] at this;cases this
    · simp only [Classical.not_forall] at a
      obtain ⟨e,l,hb,h⟩:=a
      have j:=m.edges i o k e l hb
      obtain ⟨b,c⟩:=Yg (xs:=listed) (i:=e.on) (by have:=Zm hi;omega)
      cases b with
      | true=>exact absurd (qfa.2 c) h
      | false=>exact ihn e.on j e.on rfl c
theorem qhs {listed : Array Bool} {i : Nat} {o : Oper} (f : Adm ops (fun i=>listed[i]? = some true)) (k : ops[i]? = some o) (m : listed[i]? = some false) (d : ∀ e∈o.after,Region.binds .any e = true→listed[e.on]? = some true) :
    (∀ (j : Nat),(listed.setIfInBounds i true)[j]? = some true↔(j = i∨listed[j]? = some true))∧Adm ops (fun j=>(listed.setIfInBounds i true)[j]? = some true):=by
  have a : ∀ (j : Nat),(listed.setIfInBounds i true)[j]? = some true↔(j = i∨listed[j]? = some true):=by
    intro j
    by_cases b : j = i
    · subst b;simp [Zm m]
    · rw [Array.getElem?_setIfInBounds_ne (Ne.symm b)];simp [b]
  refine ⟨a,?_⟩
  intro j l g c e h hb
  rw [a] at g ⊢
  rcases g with rfl | g
  · rw [k] at c;cases c
    exact .inr (d e h hb)
  · exact .inr (f j l g c e h hb)
theorem qr9 {F : List Fp} {S : Nat→AS} {lo hi : Nat} (bd : lo≤hi) (aa : hi≤ops.size) (hD : q8e F ops) (hS : Steps P F ops S lo hi) (bk : ∀ (i j : Nat) (d : Oper),i < hi→hi≤j→ops[j]? = some d→Behind ops d i) (h0 : ∀ q,(S lo).nx≤q→find (S lo).hp q = none)
    {w0 : World} {Z0 : Nat→Prop} {inj0 : Inj} {hp0 : List (Nat × Blk)} {a0 : Act} {Ds0 : List Nat} {ro : Option Nat} {Q : Exit→Act→World→Prop} (bq : base≤(S lo).nx)
    (hd : ∀ (i : Nat) (o : Oper),ops[i]? = some o→Jb a0.tmps.size o.dst = true)
    (hQ : ∀ (fuel : Nat) (listed : Array Bool) (a' : Act) (w' : World),listed.size = ops.size→listed.toList.count false = fuel→Adm ops (fun i=>listed[i]? = some true)→(∀ (i : Nat),listed[i]? = some true↔i < hi)→
      (∃ Z inj Ds,RelS w' Z inj (S hi) a' Ds∧Ext w0 Z0 inj0 hp0 w' Z inj (S hi).hp base∧a'.tmps.size = a0.tmps.size∧base≤(S hi).nx∧(∀ D∈Ds,D∈Ds0∨w0.heap.size≤D))→Yl ro w'→wpAnyIn (Fw ro) 0 P .any ops Q fuel listed a' w') : ∀ (fuel : Nat) (listed : Array Bool) (a : Act) (w : World) (st : AS),
      listed.size = ops.size→listed.toList.count false = fuel→Adm ops (fun i=>listed[i]? = some true)→(∀ (i : Nat),i < lo→listed[i]? = some true)→(∀ (i : Nat),hi≤i→listed[i]?≠some true)→Keep ops S lo hi base w0 Z0 inj0 hp0 a0 Ds0 listed st a w→Yl ro w→Mid F ops S lo hi listed st→
      wpAnyIn (Fw ro) 0 P .any ops Q fuel listed a w:=by
  have fin : ∀ (fuel : Nat) (listed : Array Bool) (a : Act) (w : World) (st : AS),
      listed.size = ops.size→listed.toList.count false = fuel→Adm ops (fun i=>listed[i]? = some true)→(∀ (i : Nat),i < lo→listed[i]? = some true)→(∀ (i : Nat),hi≤i→listed[i]?≠some true)→Keep ops S lo hi base w0 Z0 inj0 hp0 a0 Ds0 listed st a w→Yl ro w→Mid F ops S lo hi listed st→
      (∀ (i : Nat),lo≤i→i < hi→listed[i]? = some true)→wpAnyIn (Fw ro) 0 P .any ops Q fuel listed a w:=by
    intro fuel listed a w st ad hc n y aj hp af g ac
    have ap : ∀ (i : Nat),listed[i]? = some true↔i < hi:=fun i=>⟨fun h=>by
      rcases Nat.lt_or_ge i hi with z | z
      · exact z
      · exact absurd h (aj i z),fun h=>by
      rcases Nat.lt_or_ge i lo with z | z
      · exact y i z
      · exact ac i z h⟩
    refine hQ fuel listed a w ad hc n ap ?_ af
    obtain ⟨Z,inj,Ds,z,h2,h3,h4,_⟩:=hp
    have bo : ∀ q,find (S hi).hp q = find st.hp q:=fun q=>(g.hp q hi bd (Nat.le_refl _) fun i o ho _=>ap i).symm
    refine ⟨Z,inj,Ds,⟨fun t v ht=>?_,?_,z.defs,z.nodup,z.marks⟩,qrn h2 bo,h3,Nat.le_trans bq (q1u aa hS (Nat.le_refl _) _ bd (Nat.le_refl _)),h4⟩
    · rw [← g.nx]
      refine z.slots t v ?_
      have:=g.sl t hi bd (Nat.le_refl _) fun i o ho _=>ap i
      exact this.trans ht
    · rw [← g.nx];exact qwv z.heap bo
  intro fuel
  induction fuel with
  | zero=>
    intro listed a w st ad hc n y aj hp af g
    refine fin 0 listed a w st ad hc n y aj hp af g fun i _ hi=>?_
    have h:=List.count_eq_zero.1 hc
    obtain ⟨b,hb⟩:=Yg (xs:=listed) (i:=i) q0
    cases b with
    | true=>exact hb
    | false=>exact absurd (by simpa using Array.mem_of_getElem? hb) h
  | succ fuel ih=>
    intro listed a w st ad hc n y aj hp af g
    by_cases ac : ∀ (i : Nat),lo≤i→i < hi→listed[i]? = some true
    · exact fin _ listed a w st ad hc n y aj hp af g ac
    have bb : ∃ k : Nat,(lo≤k∧k < hi)∧listed[k]? = some false:=by
      simp only [Classical.not_forall] at ac
      obtain ⟨k,z,h2,h3⟩:=ac
      obtain ⟨b,hb⟩:=Yg (xs:=listed) (i:=k) q0
      cases b with
      | true=>exact absurd hb h3
      | false=>exact ⟨k,⟨z,h2⟩,hb⟩
    obtain ⟨k0,⟨dc,ci⟩,bs⟩:=bb
    refine ⟨fun bz=>?_,fun i ce=>?_⟩
    · exact absurd bz (qmf hD ad k0 k0 rfl bs)
    · obtain ⟨z,o,ho,bj⟩:=mem_ready.1 ce
      rw [qc3] at z
      have an : ∀ e∈o.after,Region.binds .any e = true→(fun i=>listed[i]? = some true) e.on:=fun e he hb=>qfa.1 (bj e he hb)
      have ay : ∀ j,Behind ops o j→listed[j]? = some true:=fun j hb=>hb _ n an
      have u : lo≤i:=Nat.le_of_not_lt fun h=>by have:=y i h;rw [z] at this;cases this
      have ax : i < hi:=Nat.lt_of_not_le fun h=>by
        have:=ay k0 (bk k0 i o ci h ho)
        rw [bs] at this;cases this
      have av : ∀ (j : Nat) (d : Oper),ops[j]? = some d→Behind ops d i→listed[j]?≠some true:=by
        intro j d c hb hj
        have:=hb (fun i=>listed[i]? = some true) n (fun e he ck=>n j d hj c e he ck)
        rw [z] at this;cases this
      obtain ⟨l,be⟩:=qhs n ho z an
      have bl : (listed.setIfInBounds i true).size = ops.size:=by simp [ad]
      have cb:=qj3 z hc
      have dj : i < ops.size:=Zm ho
      have ba : listed[i]?≠some true:=by rw [z];simp
      have x : ∀ (j : Nat) (d : Oper),ops[j]? = some d→j≠i→(listed[j]? = some true↔j < i)∨(q8d (fpO F ops i) (fpO F ops j)∧(∀ t∈reads ops o,d.dst≠some t)∧∀ t,o.dst = some t→d.dst≠some t):=by
        intro j d c f
        rcases Nat.lt_or_gt_of_ne f with h | h
        · rcases hD.pairs j i d o h c ho with hb | ⟨ha,h2,h3,h4⟩
          · exact .inl ⟨fun _=>h,fun _=>ay j hb⟩
          · exact .inr ⟨⟨fun m h5 h6=>ha.ww m h6 h5,ha.wr,ha.rw⟩,h3,fun t h5 h6=>h4 t h6 h5⟩
        · rcases hD.pairs i j o d h ho c with hb | ⟨ha,h2,h3,h4⟩
          · exact .inl ⟨fun p=>absurd p (av j d c hb),fun p=>q0⟩
          · exact .inr ⟨ha,h2,h4⟩
      have ak : ∀ m∈(fpO F ops i).2,find st.hp m = find (S i).hp m:=fun m hm=>by
        refine g.hp m i u q0 fun j d c ab=>?_
        by_cases f : j = i
        · subst f;exact ⟨fun p=>absurd p ba,fun p=>absurd p (Nat.lt_irrefl _)⟩
        · rcases x j d c f with h | ⟨ha,_⟩
          · exact h
          · exact absurd ab (ha.ww m hm)
      have cf : Uq ops o (fpO F ops i) (S i) st:=by
        refine ⟨⟨ak,?_⟩,fun t ht=>?_⟩
        · have key : ∀ m,(∀ (j : Nat) (d : Oper),ops[j]? = some d→j≠i→q8d (fpO F ops i) (fpO F ops j)→m ∉ (fpO F ops j).2)→find st.hp m = find (S i).hp m:=fun m hm=>by
            by_cases bt : m∈(fpO F ops i).2
            · exact ak m bt
            refine g.hp m i u q0 fun j d c ab=>?_
            by_cases f : j = i
            · subst f;exact absurd ab bt
            · rcases x j d c f with h | ⟨ha,_⟩
              · exact h
              · exact absurd ab (hm j d c f ha)
          cases hR : (fpO F ops i).1 with
          | none=>exact fun m=>key m fun j d _ _ ha ab=>by have:=ha.rw m ab;rw [hR] at this;exact this
          | some r=>exact fun m cm=>key m fun j d _ _ ha ab=>by have:=ha.rw m ab;rw [hR] at this;exact this cm
        · refine g.sl t i u q0 fun j d c ae=>?_
          by_cases f : j = i
          · subst f;exact ⟨fun p=>absurd p ba,fun p=>absurd p (Nat.lt_irrefl _)⟩
          · rcases x j d c f with h | ⟨_,hr,_⟩
            · exact h
            · exact absurd ae (hr t ht)
      have ah:=hS i o u ax ho
      have bi : (S (i + 1)).nx≤st.nx:=by rw [g.nx];exact q1u aa hS q0 _ q0 (Nat.le_refl _)
      have bf : ∀ m,(S i).nx≤m→m < (S (i + 1)).nx→find st.hp m = none:=fun m h2 h3=>by
        rw [ak m (ah.fresh m h2 h3)]
        exact qkw aa hS h0 i u q0 m h2
      obtain ⟨cc,bv,bg,cg,co,cp,cd⟩:=ah.other st bi cf bf
      refine qh1 ho ?_
      obtain ⟨Z,inj,Ds,k1,k2,k3,k4,k5⟩:=hp
      have ct : base≤(S i).nx:=Nat.le_trans bq (q1u aa hS (Nat.le_refl _) _ u q0)
      refine bg base ro Q w Z inj a Ds _ k1 (by rw [k3];exact hd i o ho) ct (by have:=ah.nx;omega) af (k5 i o u ax ho ba) fun a' w' hp'=>?_
      obtain ⟨Z',inj',cr,g1,g2,g3,g4,g5⟩:=hp'
      refine ih _ a' w' cc bl cb be (fun j hj=>(l j).2 (.inr (y j hj))) (fun j hj p=>?_) ⟨Z',inj',cr,g1,k2.trans g2 (Nat.le_refl _),g3.trans k3,fun D hD=>?_,fun j d az al c bp m h2 h3=>?_⟩ (af.ext g2) ⟨bv.trans g.nx,fun t m bc hm s=>?_,fun q m bc hm s=>?_⟩
      · rcases (l j).1 p with rfl | p
        · omega
        · exact aj j hj p
      · rcases g4 D hD with h | h
        · exact k4 D h
        · exact .inr (Nat.le_trans k2.size h)
      · have f : j≠i:=by rintro rfl;exact bp ((l j).2 (.inl rfl))
        have bm : listed[j]?≠some true:=fun e=>bp ((l j).2 (.inr e))
        rw [g5 m (by
          have:=q1u aa hS (j:=j + 1) q0 hi q0 (Nat.le_refl _)
          have:=g.nx;omega) (by
          rcases Nat.lt_or_gt_of_ne f with h | h
          · left;have:=q1u aa hS (j:=j + 1) q0 i q0 q0;omega
          · right;have:=q1u aa hS (j:=i + 1) q0 j q0 q0;omega)]
        exact k5 j d az al c bm m h2 h3
      · by_cases am : o.dst = some t
        · have cs : i < m:=(s i o ho am).1 ((l i).2 (.inl rfl))
          rw [co t am]
          refine (qea aa hS q0 m q0 hm fun j d az al c ae=>?_).symm
          have p:=(l j).1 ((s j d c ae).2 al)
          rcases p with p | p
          · omega
          · rcases x j d c q0 with h | ⟨_,_,hw⟩
            · have:=h.1 p;omega
            · exact hw t am ae
        · rw [cg t am]
          refine g.sl t m bc hm fun j d c ae=>?_
          have f : j≠i:=by rintro rfl;rw [ho] at c;cases c;exact am ae
          rw [← s j d c ae,l]
          simp [f]
      · by_cases hq : q∈(fpO F ops i).2
        · have cs : i < m:=(s i o ho hq).1 ((l i).2 (.inl rfl))
          rw [cp q hq]
          refine (qe9 aa hS q0 m q0 hm fun j d az al c ao=>?_).symm
          have p:=(l j).1 ((s j d c ao).2 al)
          rcases p with p | p
          · omega
          · rcases x j d c q0 with h | ⟨ha,_⟩
            · have:=h.1 p;omega
            · exact ha.ww q hq ao
        · rw [cd q hq]
          refine g.hp q m bc hm fun j d c ao=>?_
          have f : j≠i:=by rintro rfl;exact hq ao
          rw [← s j d c ao,l]
          simp [f]
theorem qwx {w : World} {Z : Nat→Prop} {inj : Inj} {st : AS} {a : Act} {Ds : List Nat} {N : Nat} (h : RelS w Z inj st a Ds) (l : st.nx≤N) : RelS w Z (fun m=>if m < st.nx then inj m else none) {st with nx:=N} a Ds:=by
  have hi : ∀ n,n < st.nx→(fun m=>if m < st.nx then inj m else none) n = inj n:=fun n t=>by simp [t]
  have d : Zy w w:=fun _ c e f h=>⟨c,e,f,h,rfl⟩
  refine ⟨h.slots.mono (fun _ _=>rfl) (fun _ h=>h) d hi l,⟨fun n b hb=>?_,fun n m b c p q g k j v s o=>?_,fun n b p g k j=>?_,h.heap.zs,h.heap.zc⟩,h.defs,h.nodup,h.marks⟩
  · obtain ⟨r,u⟩:=h.heap.blk n b hb
    exact ⟨Nat.lt_of_lt_of_le r l,u.mono (fun _ _=>rfl) (fun _ h=>h) d hi l r (fun _ _ _=>rfl)⟩
  · rw [qq (h.heap.blk n b g).1] at s
    rw [qq (h.heap.blk m c k).1] at o
    exact h.heap.sep n m b c p q g k j v s o
  · rw [qq (h.heap.blk n b g).1] at j
    exact h.heap.out n b p g k j
theorem qqh {w0 : World} {Z0 : Nat→Prop} {inj0 : Inj} {c : AS} {g : Act} {Ds0 : List Nat} {l : List Oper} {st st' : AS} (h : Zo P base ops l st st') : l = []→∀ a w,Kw base w0 Z0 inj0 c g Ds0 st a w→Kw base w0 Z0 inj0 c g Ds0 st' a w:=by
  induction h with
  | nil=>exact fun _ a w hp=>hp
  | cons _ _ _=>intro h;cases h
  | wk hw _ ih=>
    intro n a w hp
    refine ih n a w ?_
    obtain ⟨Z',inj',f,k,m,j,p,o⟩:=hp
    obtain ⟨d,b⟩:=q2a k hw
    exact ⟨_,_,f,d,m.trans b (Nat.le_refl _),j,hw.bs,o⟩
theorem qqg {w0 : World} {Z0 : Nat→Prop} {inj0 : Inj} {m : AS} {p : Act} {Ds0 : List Nat} {ro : Option Nat} {Q : Exit→Act→World→Prop} {K : Act→World→Prop} {l : List Oper} {st st' : AS} (h : Zo P base ops l st st') : ∀ o,l = [o]→Jb p.tmps.size o.dst = true→∀ a w,Kw base w0 Z0 inj0 m p Ds0 st a w→Yl ro w→
    (∀ a' w',Kw base w0 Z0 inj0 m p Ds0 st' a' w'→Yl ro w'→K a' w')→Up P (Fw ro) ops Q o K a w:=by
  induction h with
  | nil=>intro o h;cases h
  | cons hs hl _=>
    intro o h hd a w hp c n
    simp only [List.cons.injEq] at h
    obtain ⟨rfl,rfl⟩:=h
    refine hp.bind fun Z' inj' j b f g _ d=>?_
    exact hs ro Q w Z' inj' a j _ b (by rw [f];exact hd) g c fun a' w' hp'=>n a' w' (qqh hl rfl _ _ (d _ _ _ hp')) (by obtain ⟨_,_,_,_,q,_⟩:=hp';exact c.ext q)
  | wk hw _ ih=>
    intro o h hd a w hp c n
    refine ih o h hd a w ?_ c n
    obtain ⟨Z',inj',j,s,t,r,v,u⟩:=hp
    obtain ⟨b,k⟩:=q2a s hw
    exact ⟨_,_,j,b,t.trans k (Nat.le_refl _),r,hw.bs,u⟩
theorem qpl {o p : Oper} {i j : Nat} (b : Behind ops o i) (hp : ops[i]? = some p) (d : Behind ops p j) : Behind ops o j:=fun S a c=>d S a fun e f hb=>a i p (b S a c) hp e f hb
theorem qr8 {F : List Fp} (hD : q8e F ops) {w0 : World} {Z0 : Nat→Prop} {inj0 : Inj} {y : AS} {a0 : Act} {Ds0 : List Nat} {ro : Option Nat} {Q : Exit→Act→World→Prop} (hd : ∀ (i : Nat) (o : Oper),ops[i]? = some o→Jb a0.tmps.size o.dst = true) :
    ∀ (n : Nat) (l : List Oper) (lo : Nat) (st st' : AS),l.length = n→ops.toList.drop lo = l→lo≤ops.size→Jp P base ops F l st st'→(∀ a' w',Kw base w0 Z0 inj0 y a0 Ds0 st' a' w'→Q .normal a' w')→∀ (fuel : Nat) (listed : Array Bool) (a : Act) (w : World),
      listed.size = ops.size→listed.toList.count false = fuel→Adm ops (fun i=>listed[i]? = some true)→(∀ (i : Nat),listed[i]? = some true↔i < lo)→Kw base w0 Z0 inj0 y a0 Ds0 st a w→Yl ro w→wpAnyIn (Fw ro) 0 P .any ops Q fuel listed a w:=by
  intro n
  induction n using Nat.strongRecOn with
  | _ n ihn=>
  intro l lo st st' ch al cb hc hQ fuel listed a w bi bp ba aj hp bk
  obtain ⟨k,S,hk,e0,hS,ai⟩:=qil hc
  have bu : l.length + lo = ops.size:=by rw [← al];simp;omega
  have aa : ∀ (i : Nat),l[i]? = ops[lo + i]?:=fun i=>by rw [← al,List.getElem?_drop,Array.getElem?_toList]
  subst e0
  have x : Steps P F ops (fun i=>S (i - lo)) lo (lo + k):=fun i o u h2 ho=>by
    have:=hS (i - lo) o q0 (by rw [aa,show lo + (i - lo) = i by omega];exact ho)
    rw [show l.length - (i - lo + 1) = ops.size - (i + 1) by omega] at this
    show Js P ops o (fpO F ops i) (S (i - lo)) (S (i + 1 - lo))
    rw [show i + 1 - lo = i - lo + 1 by omega]
    exact this
  have aq : ∀ (i j : Nat) (oj : Oper),i < lo + k→lo + k≤j→ops[j]? = some oj→Behind ops oj i:=fun i j oj hi hj ag=>by
    rcases ai with ⟨u,_⟩ | ⟨o,st1,u,h2,_,_⟩
    · have:=Zm ag;omega
    · rw [aa] at u
      rw [show l.length - (k + 1) = ops.size - (lo + k + 1) by omega] at h2
      have bj : i < ops.size:=by have:=Zm u;omega
      obtain ⟨oi,z⟩:=Yg (xs:=ops) (i:=i) bj
      have hb:=hD.pivs i (lo + k) oi o hi z u (.inr h2)
      by_cases bo : j = lo + k
      · subst bo;rw [u] at ag;cases ag;exact hb
      · exact qpl (hD.pivs (lo + k) j o oj q0 u ag (.inl h2)) u hb
  obtain ⟨Z,inj,Ds,u,h2,h3,h4,h5⟩:=hp
  have hN : (S 0).nx≤(S k).nx:=by
    have:=q1u q0 x (Nat.le_refl _) (lo + k) q0 (Nat.le_refl _)
    simpa using this
  have h0 : ∀ q,(S 0).nx≤q→find (S 0).hp q = none:=fun q hq=>by
    cases hf : find (S 0).hp q with
    | none=>rfl
    | some b=>have:=(u.heap.blk q b hf).1;omega
  have aw : Ext w0 Z0 inj0 y.hp w Z (fun m=>if m < (S 0).nx then inj m else none) (S 0).hp base:=by
    refine {h2 with imm:=fun b bn=>h2.imm b ?_,pinj:=fun n hn=>(qq (show n < (S 0).nx by omega)).trans (h2.pinj n hn)}
    obtain ⟨n,c,o,s,g2,g3⟩:=bn
    refine ⟨n,c,o,s,g2,?_⟩
    have:=(u.heap.blk n c s).1
    simpa [this] using g3
  have am : ∀ (i : Nat),lo≤i→listed[i]?≠some true:=fun i hi h=>by have:=(aj i).1 h;omega
  refine qr9 (lo:=lo) (hi:=lo + k) (S:=fun i=>S (i - lo)) (hp0:=y.hp) (Ds0:=Ds0) q0 q0 hD x aq (by simpa using h0) (by simpa using h4) hd ?_ fuel listed a w {S 0 with nx:=(S k).nx} bi bp ba (fun i hi=>(aj i).2 hi) (fun i hi=>am i q0) ⟨Z,_,Ds,qwx u hN,aw,h3,h5,fun i o af an ho _ m g2 g3=>?_⟩ bk ⟨qe,fun t m ap hm ac=>?_,fun q m ap hm ac=>?_⟩
  · intro r d a' w' v ab ae f hp' bb
    have hp' : Kw base w0 Z0 inj0 y a0 Ds0 (S k) a' w':=by
      obtain ⟨Z',inj',br,s,g2,g3,g4,g5⟩:=hp'
      simp only [Nat.add_sub_cancel_left] at s g2 g4
      exact ⟨Z',inj',br,s,g2,g3,g4,g5⟩
    rcases ai with ⟨e1,e2⟩ | ⟨o,st1,e1,e2,e3,e4⟩
    ·
      subst e2
      have hz : r = 0:=by
        rw [← ab,List.count_eq_zero]
        intro hm
        obtain ⟨i,hi⟩:=List.getElem?_of_mem hm
        have an : d[i]? = some false:=by simpa using hi
        have:=(f i).2 (by have:=Zm an;omega)
        rw [an] at this;cases this
      subst hz
      refine ⟨?_,hQ _ _ hp'⟩
      rw [List.eq_nil_iff_forall_not_mem]
      intro j hj
      obtain ⟨s,o,ho,_⟩:=mem_ready.1 hj
      rw [qc3,(f j).2 (by have:=Zm ho;omega)] at s
      cases s
    ·
      have p : ops[lo + k]? = some o:=by rw [← aa];exact e1
      rw [show l.length - (k + 1) = ops.size - (lo + k + 1) by omega] at e2
      have g : d[lo + k]? = some false:=by
        obtain ⟨b,hb⟩:=Yg (xs:=d) (i:=lo + k) (by rw [v];exact Zm p)
        cases b with
        | true=>have:=(f _).1 hb;omega
        | false=>exact hb
      cases r with
      | zero=>
        have:=List.count_eq_zero.1 ab
        exact absurd (by simpa using Array.mem_of_getElem? g) this
      | succ r=>
        refine ⟨fun bc=>absurd bc (qmf hD v _ _ rfl g),fun i hi=>?_⟩
        obtain ⟨s,oi,z,au⟩:=mem_ready.1 hi
        rw [qc3] at s
        have ad : ∀ e∈oi.after,Region.binds .any e = true→d[e.on]? = some true:=fun e he hb=>qfa.1 (au e he hb)
        have bq : i = lo + k:=by
          rcases Nat.lt_trichotomy i (lo + k) with h | h | h
          · have:=(f i).2 h;rw [s] at this;cases this
          · exact h
          · have:=hD.pivs (lo + k) i o oi h p z (.inl e2) _ ae ad
            rw [g] at this;cases this
        subst bq
        rw [p] at z;cases z
        obtain ⟨ay,ao⟩:=qhs ae p s ad
        refine qh1 p ?_
        refine qqg e3 o rfl (hd _ _ p) a' w' hp' bb fun a2 w2 hp2 ax=>?_
        refine ihn (l.drop (k + 1)).length (by have:=Zm p;simp;omega) _ (lo + k + 1) st1 st' rfl (by rw [← al,List.drop_drop,Nat.add_assoc]) (Zm p) e4 hQ _ _ a2 w2 (by simp [v]) (qj3 s ab) ao (fun j=>?_) hp2 ax
        rw [ay,f];omega
  · have this : (S 0).nx≤(S (i - lo)).nx:=by simpa using q1u q0 x (Nat.le_refl lo) i af q0
    have ci : (S (i - lo)).nx≤m:=g2
    exact qp q0
  · have:=qea q0 x (t:=t) (Nat.le_refl lo) m ap hm fun i o af hi ho bl=>am i af ((ac i o ho bl).2 hi)
    simp at this ⊢
    exact this.symm
  · have:=qe9 q0 x (q:=q) (Nat.le_refl lo) m ap hm fun i o af hi ho bm=>am i af ((ac i o ho bm).2 hi)
    simp at this ⊢
    exact this.symm
theorem qwq {F : List Fp} {id : Nat} {w : World} {Z : Nat→Prop} {inj : Inj} {st st' : AS} {a : Act} {Ds : List Nat} {ro : Option Nat} {Q : Exit→Act→World→Prop} (s : P.follows .mixedOrders = true) (p : q8e F ops) (t : Jp P base ops F ops.toList st st')
    (h : RelS w Z inj st a Ds) (k : codeOk a.tmps.size (.region id ops true) = true) (hb : base≤st.nx) (m : Yl ro w) (u : ∀ a' w',Kw base w Z inj st a Ds st' a' w'→Q .normal a' w') : (Code.region id ops true).wpIn (Fw ro) 0 P Q a w:=by
  refine wpIn_region_any s ?_
  have hs : RelS {w with drawn:=w.drawn + 1} Z inj st a Ds:=⟨h.slots.mono (fun _ _=>rfl) (fun _ h=>h) (fun b c e f hb=>⟨c,e,f,hb,rfl⟩) (fun _ _=>rfl) (Nat.le_refl _),h.heap.same rfl,h.defs,h.nodup,h.marks⟩
  have g : ∀ (i : Nat) (o : Oper),ops[i]? = some o→Jb a.tmps.size o.dst = true:=by
    intro i o r
    simp only [codeOk,List.all_eq_true] at k
    exact k o (by simpa using Array.mem_of_getElem? r)
  have d : ∀ (i : Nat),(Array.replicate ops.size false)[i]?≠some true:=by
    intro i hi
    rw [Array.getElem?_replicate] at hi
    split at hi <;> simp at hi
  exact qr8 p g ops.toList.length ops.toList 0 st st' rfl qe (Nat.zero_le _) t u ops.size _ a _ qe qe (fun j o n _=>absurd n (d j)) (fun i=>⟨fun hi=>absurd hi (d i),fun hi=>q0⟩) ⟨Z,inj,Ds,hs,.same rfl rfl rfl rfl,rfl,hb,fun _ h=>.inl h⟩ (fun l q=>m l q)
end
end Go.Am
namespace Go.Am
open Go
variable {P : Program} {T : Tab}
section
variable {w w' : World} {Z Z' : Nat→Prop} {inj inj' : Inj} {hp hp' : List (Nat × Blk)} {nx nx' pin : Nat}
theorem RelH.grow (h : RelH w Z inj hp nx) (d : ∀ b,b < w.heap.size→w'.heap[b]? = w.heap[b]?) : RelH w' Z inj hp nx:=by
  have hb : Zy w w':=fun b c e f l=>⟨c,e,f,(d b (Ja l)).trans l,rfl⟩
  refine ⟨fun n b j=>?_,h.sep,h.out,?_,?_⟩
  · obtain ⟨k,m⟩:=h.blk n b j
    exact ⟨k,m.mono (fun b a=>d b (h.zs b a)) (fun _ h=>h) hb (fun _ _=>rfl) (Nat.le_refl _) k fun p hp o=>d _ (h.im_lt ⟨n,b,p.2,j,o,hp⟩)⟩
  · intro b a
    obtain ⟨c,e,f,g⟩:=h.zc b a
    have:=d b (h.zs b a)
    exact Ja (this.trans g)
  · intro b a
    obtain ⟨c,e,f,g⟩:=h.zc b a
    exact ⟨c,e,f,(d b (h.zs b a)).trans g⟩
theorem Ext.alloc (o : Obj) (a : Unfr o:=by first | exact rfl | exact trivial) : Ext w Z inj hp (w.alloc o) Z inj hp pin:=
  ⟨qe,fun b hb _=>Zz w o hb,fun _ h=>.inl h,q2t w o,qks w o,fun _ h=>h,fun _ h=>.inl h,fun _ _=>rfl,rfl,rfl,rfl,qk3 w a⟩
theorem qmn (h : RelH w Z inj hp nx) {n : Nat} {b0 blk : Blk} (s : find hp n = some b0) (z : live b0 = true) {b off : Nat} (hi : inj n = some (b,off)) {r v : Loop} (hb : w.heap[b]? = some (.loop r)) (hd : v.defers = r.defers)
    (ae : RelB (w.putObj b (.loop v)) Z inj nx n blk) (ah : live blk = true→True) : RelH (w.putObj b (.loop v)) Z inj (repl hp n blk) nx∧Ext w Z inj hp (w.putObj b (.loop v)) Z inj (repl hp n blk) pin:=by
  have a : ∀ k,k≠b→(w.putObj b (.loop v)).heap[k]? = w.heap[k]?:=fun k g=>World.putObj_heap_other g
  have al : ¬ Z b:=fun hz=>by
    obtain ⟨c,e,f,hc⟩:=h.zc b hz
    rw [hb] at hc;cases hc
  have j : Zy w (w.putObj b (.loop v)):=fun k c e f g=>by
    by_cases j : k = b
    · subst j;rw [hb] at g;cases g
    · exact ⟨c,e,f,(a k j).trans g,rfl⟩
  have hz : ∀ k,Z k→(w.putObj b (.loop v)).heap[k]? = w.heap[k]?:=fun k g=>a k (fun e=>al (e ▸ g))
  have d : ∀ m c,find (repl hp n blk) m = some c→(m = n∧c = blk)∨(m≠n∧find hp m = some c):=by
    intro m c u
    rw [Z9] at u
    split at u
    · rename_i e;subst e;rw [s] at u;simp at u;exact .inl ⟨rfl,u.symm⟩
    · rename_i e;exact .inr ⟨fun h=>e h.symm,u⟩
  have af : ∀ k,im (repl hp n blk) inj k→im hp inj k:=by
    rintro k ⟨m,c,o,h1,h2,t⟩
    rcases d m c h1 with ⟨rfl,rfl⟩ | ⟨_,y⟩
    · exact ⟨m,b0,o,s,z,t⟩
    · exact ⟨m,c,o,y,h2,t⟩
  refine ⟨⟨?_,?_,?_,?_,?_⟩,⟨qe,?_,fun k g=>.inl (af k g),j,?_,fun _ h=>h,fun _ h=>.inl h,fun _ _=>rfl,rfl,rfl,rfl,qf8 (fun _ _ _=>by rw [hb];simp) (fun _ _ _=>qe)⟩⟩
  · intro m c u
    rcases d m c u with ⟨rfl,rfl⟩ | ⟨l,y⟩
    · exact ⟨(h.blk _ _ s).1,ae⟩
    · obtain ⟨h5,h6⟩:=h.blk m c y
      exact ⟨h5,h6.mono hz (fun _ h=>h) j (fun _ _=>rfl) (Nat.le_refl _) h5 fun p hp ah=>a _ fun e=>h.sep m n c b0 p (b,off) y s ah z hp hi l e⟩
  · intro m m' c c' p q h1 h2 t y h5 h6 l
    rcases d m c h1 with ⟨rfl,rfl⟩ | ⟨e1,k1⟩ <;> rcases d m' c' h2 with ⟨rfl,rfl⟩ | ⟨e2,k2⟩
    · exact absurd rfl l
    · exact h.sep _ _ _ _ p q s k2 z y h5 h6 l
    · exact h.sep _ _ _ _ p q k1 s t z h5 h6 l
    · exact h.sep _ _ _ _ p q k1 k2 t y h5 h6 l
  · intro m c p h1 h2 t
    rcases d m c h1 with ⟨rfl,rfl⟩ | ⟨e1,k1⟩
    · exact h.out _ _ p s z t
    · exact h.out _ _ p k1 h2 t
  · intro k g;simpa using h.zs k g
  · intro k g
    obtain ⟨c,e,f,hc⟩:=h.zc k g
    exact ⟨c,e,f,(hz k g).trans hc⟩
  · intro k _ g
    exact a k fun e=>g ⟨n,b0,off,s,z,e ▸ hi⟩
  · intro k x g
    by_cases j : k = b
    · subst j
      rw [hb] at g;cases g
      exact ⟨v,World.putObj_heap_same (Ja hb),hd⟩
    · exact ⟨x,(a k j).trans g,rfl⟩
theorem qgj (h : RelH w Z inj hp nx) {n : Nat} {s : List (Nat × V)} {g : List Tmp} {as d : Code} {ls ls' : LoopState} {pe pe' : Option Code} (q : find hp n = some (.loop s g as d ls pe)) : ∃ b r,inj n = some (b,0)∧w.heap[b]? = some (.loop r)∧
    r.state = ls∧r.pending = pe∧r.params = g.toArray∧r.assign = as∧r.body = d∧(codeOk r.tmps.size as = true∧codeOk r.tmps.size d = true∧∀ p∈g,p < r.tmps.size)∧Yy w Z inj nx s r.tmps∧
    RelH (w.putObj b (.loop {r with state:=ls',pending:=pe'})) Z inj (repl hp n (.loop s g as d ls' pe')) nx∧Ext w Z inj hp (w.putObj b (.loop {r with state:=ls',pending:=pe'})) Z inj (repl hp n (.loop s g as d ls' pe')) pin:=by
  obtain ⟨y,b,tmps,D,fn,o,l,t,v⟩:=h.blk n _ q
  refine ⟨b,_,o,l,rfl,rfl,rfl,rfl,rfl,t,v,?_⟩
  refine qmn h q rfl o l rfl ?_ (fun _=>trivial)
  refine ⟨b,tmps,D,fn,o,World.putObj_heap_same (Ja l),t,?_⟩
  have m : ¬ Z b:=fun x=>by
    obtain ⟨c,e,f,u⟩:=h.zc b x
    rw [l] at u;cases u
  refine v.mono (fun k j=>World.putObj_heap_other (fun e=>m (e ▸ j))) (fun _ h=>h) ?_ (fun _ _=>rfl) (Nat.le_refl _)
  intro k c e f j
  by_cases a : k = b
  · subst a;rw [l] at j;cases j
  · exact ⟨c,e,f,(World.putObj_heap_other a).trans j,rfl⟩
theorem qww (h : RelH w Z inj hp nx) {n : Nat} {s : List (Nat × V)} {j : List Tmp} {as g : Code} {ls : LoopState} {pe : Option Code} (c : find hp n = some (.loop s j as g ls pe)) : ∃ b r,inj n = some (b,0)∧w.heap[b]? = some (.loop r)∧
    r.state = ls∧r.pending = pe∧∀ a : Loop,a.defers = r.defers→RelH (w.putObj b (.loop a)) Z inj (repl hp n .dead) nx∧Ext w Z inj hp (w.putObj b (.loop a)) Z inj (repl hp n .dead) pin:=by
  obtain ⟨k,b,tmps,D,fn,d,f,m,o⟩:=h.blk n _ c
  exact ⟨b,_,d,f,rfl,rfl,fun a l=>qmn h c rfl d f l trivial (fun _=>trivial)⟩
theorem qjo : ∀ (a : List V) (k t : Nat) (v : V),find (Y8 k a) t = some v→k≤t∧a[t - k]? = some v
  | [],k,t,v,h=>by simp [Y8,find] at h
  | x::r,k,t,v,h=>by
    simp only [Y8,Kt] at h
    split at h
    · rename_i e;subst e;cases h;simp
    · rename_i e
      obtain ⟨d,b⟩:=qjo r (k + 1) t v h
      refine ⟨q0,?_⟩
      obtain ⟨m,c⟩ : ∃ m,t - k = m + 1:=⟨t - k - 1,q0⟩
      have : t - (k + 1) = m:=by omega
      rw [this] at b
      rw [c];simpa using b
theorem qwz {b : List V} {xs : Array Value} (n : Nat) (h : LRel w Z inj nx b xs) : Yy w Z inj nx (Y8 0 b) (xs ++ Array.replicate (n - xs.size) undef):=by
  intro t v f
  obtain ⟨_,c⟩:=qjo b 0 t v f
  simp at c
  have a : t < xs.size:=by rw [← h.1];exact Ke c
  obtain ⟨x,d⟩:=Yg a
  exact ⟨x,by rw [Array.getElem?_append_left a];exact d,h.2 t v x c d⟩
theorem qmp : ∀ (f : List Tmp) (g : List V) (xs : List Value) (s : List (Nat × V)) (tmps : Array Value),g.length = xs.length→(∀ (i : Nat) (d : V) (c : Value),g[i]? = some d→xs[i]? = some c→RelV w Z inj nx d c)→(∀ p∈f,p < tmps.size)→
    Yy w Z inj nx s tmps→Yy w Z inj nx (q1y s f g) ((f.zip xs).foldl (fun tmps (x : Tmp × Value)=>tmps.setIfInBounds x.1 x.2) tmps)∧((f.zip xs).foldl (fun tmps (x : Tmp × Value)=>tmps.setIfInBounds x.1 x.2) tmps).size = tmps.size
  | [],g,xs,s,tmps,hl,hr,hp,h=>by simpa [q1y] using h
  | p::f,[],[],s,tmps,hl,hr,hp,h=>by simpa [q1y] using h
  | p::f,v::g,x::xs,s,tmps,hl,hr,hp,h=>by
    have j:=hr 0 v x rfl rfl
    have m:=h.put j (hp p qe)
    obtain ⟨a,b⟩:=qmp f g xs _ _ (by simpa using hl) (fun i d c hd l=>hr (i + 1) d c (by simpa using hd) (by simpa using l)) (fun q k=>by simpa using hp q (by simp [k])) m
    refine ⟨by simpa [q1y] using a,by simpa using b⟩
  | p::f,[],x::xs,s,tmps,hl,hr,hp,h=>by simp at hl
  | p::f,v::g,[],s,tmps,hl,hr,hp,h=>by simp at hl
theorem qkx {fn : Func} {st : AS} {v : V} (hT : Z6 P T) {w0 : World} {Z0 : Nat→Prop} {inj0 : Inj} {hp0 : List (Nat × Blk)} {R : Ending→World→Prop} (m : resV T st fn.results.toList = some v)
    (hR : ∀ x w' Z' inj',RelH w' Z' inj' st.hp st.nx→Ext w0 Z0 inj0 hp0 w' Z' inj' st.hp pin→RelV w' Z' inj' st.nx v x→R (.returned x) w') : ∀ (Ds : List Nat) (w : World) (Z : Nat→Prop) (inj : Inj) (a : Act),
      Yy w Z inj st.nx st.sl a.tmps→RelH w Z inj st.hp st.nx→Ext w0 Z0 inj0 hp0 w Z inj st.hp pin→Ds.Nodup→(∀ D∈Ds,w.heap[D]? = some (.deferred (some []))∧w0.heap.size≤D)→
      LeavesInM (Fw none) 0 P fn a.tmps R (Ds.map fun D=>{target:=.collected D,args:=#[]}) .returning w
  | [],w,Z,inj,a,hs,hh,he,_,_=>by
    obtain ⟨x,hx,hv⟩:=qx3 (a:=a) hT hh hs m
    exact ⟨x,hx,hR x w Z inj hh he hv⟩
  | D::Ds,w,Z,inj,a,hs,hh,he,hnd,hm=>by
    obtain ⟨q,ap⟩:=hm D qe
    have j:=List.nodup_cons.1 hnd
    refine ⟨qe,.inl ⟨D,_,rfl,run_takeDeferred q,?_⟩⟩
    have d : ∀ k,k≠D→(w.putObj D (.deferred none)).heap[k]? = w.heap[k]?:=fun k g=>World.putObj_heap_other g
    have ac : ¬ Z D:=fun s=>by obtain ⟨c,e,f,hc⟩:=hh.zc D s;rw [q] at hc;cases hc
    have t : ¬ im st.hp inj D:=fun hi=>by rcases hh.im_obj hi with ⟨_,_,e⟩ | ⟨_,e⟩ | ⟨_,_,e⟩ <;> rw [q] at e <;> cases e
    have s : ∀ k,Z k→(w.putObj D (.deferred none)).heap[k]? = w.heap[k]?:=fun k g=>d k fun e=>ac (e ▸ g)
    have o : Zy w (w.putObj D (.deferred none)):=fun k c e f g=>by
      by_cases u : k = D
      · subst u;rw [q] at g;cases g
      · exact ⟨c,e,f,(d k u).trans g,rfl⟩
    refine qkx hT m hR Ds _ Z inj a (hs.mono s (fun _ h=>h) o (fun _ _=>rfl) (Nat.le_refl _)) ⟨?_,hh.sep,hh.out,fun k g=>by simpa using hh.zs k g,?_⟩ ?_ j.2 ?_
    · intro n b hn
      obtain ⟨l,z⟩:=hh.blk n b hn
      exact ⟨l,z.mono s (fun _ h=>h) o (fun _ _=>rfl) (Nat.le_refl _) l fun p hp hl=>d _ fun e=>t ⟨n,b,p.2,hn,hl,by rw [← e];exact hp⟩⟩
    · intro k g
      obtain ⟨c,e,f,hc⟩:=hh.zc k g
      exact ⟨c,e,f,(s k g).trans hc⟩
    · refine ⟨by simpa using he.size,fun b hb hi=>(d b q0).trans (he.keep b hb hi),he.imm,?_,?_,he.zin,he.zout,he.pinj,he.tape,he.os,he.output,fun x=>(qf8 (fun _ _ _=>by rw [q];simp) (fun _ _ _=>qe) x).trans (he.frz x)⟩
      · intro b c e f hb
        obtain ⟨c1,e1,f1,l,s1⟩:=he.big b c e f hb
        obtain ⟨c2,e2,f2,z,s2⟩:=o b c1 e1 f1 l
        exact ⟨c2,e2,f2,z,s2.trans s1⟩
      · intro b r hb
        obtain ⟨r1,l,s1⟩:=he.loops b r hb
        exact ⟨r1,(d b (by have:=Ja hb;omega)).trans l,s1⟩
    · intro D' y
      obtain ⟨l,z⟩:=hm D' (by simp [y])
      exact ⟨(d D' (fun e=>j.1 (e ▸ y))).trans l,z⟩
end
end Go.Am
