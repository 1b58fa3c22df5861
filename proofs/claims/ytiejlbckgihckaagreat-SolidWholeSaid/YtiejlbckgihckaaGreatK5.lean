/- Am23 Am24 Am25 -/
import Derived.Test.YtiejlbckgihckaaGreatK4
namespace Go.Am
open Go
variable {P : Program} {T : Tab}
section
variable {base : Nat} {w : World} {Z : Nat→Prop} {inj : Inj} {st st1 st2 : AS} {a : Act} {Ds : List Nat} {ops : Array Oper} {o : Oper}
structure Uz (ops : Array Oper) (o : Oper) (x : Fp) (st st2 : AS) : Prop where
  blk : qe4 x st st2
  sl : ∀ t∈reads ops o,st2.get t = st.get t
theorem Uz.ev {x : Fp} (h : Uz ops o x st st2) {y : Operand} (a : y∈o.op.operands) : st2.ev y = st.ev y:=by
  cases y with
  | tmp t=>exact h.sl t (List.mem_append_left _ (by unfold slotsOf;rw [List.mem_filterMap];exact ⟨.tmp t,by simpa using a,rfl⟩))
  | const v=>rfl
  | func f=>rfl
  | global g=>rfl
theorem Uz.guard {x : Fp} (h : Uz ops o x st st2) : Qt ops st2 o = Qt ops st o:=by
  have hs:=h.sl;unfold reads at hs;unfold Qt;grind
theorem Uz.callee {x : Fp} (h : Uz ops o x st st2) {c : Call} (d : o.op = .call c) : callee st2 c = callee st c:=by
  obtain ⟨a,args,argTypes⟩:=c;unfold Am.callee
  cases a with
  | builtin b=>rfl
  | invoke r n=>rfl
  | value f=>
    simp only;rw [h.ev (y:=f) (by rw [d];simp [Op.operands,Call.operands]),q94 (fun x g=>h.ev (y:=x) (by rw [d];simp [Op.operands,Call.operands];exact .inr (by simpa using g)))]
theorem Z8 {st : AS} {d : Option Tmp} {v : V} {t : Tmp} : (st.putD d v).get t = if d = some t then some v else st.get t:=by
  cases d with
  | none=>simp [AS.putD]
  | some d=>simp only [AS.putD,AS.put,AS.get,Ku,Option.some.injEq]
theorem qht {w : World} {Z : Nat→Prop} {inj : Inj} {nx : Nat} {fz : List Nat} {b : AS} {v : V} {x : Value} (h : RelV w Z inj nx v x) : Wv b (fun n=>n) fz [] nx v v:=by
  induction h with
  | d h=>exact .d (.refl _)
  | @agg ds cs hl _ ih=>
    exact .agg rfl fun i c d a hd=>by
      rw [a] at hd;cases hd;obtain ⟨y,g⟩:=Yb (xs:=cs) (i:=i) (by rw [← hl];exact Kc a);grind
  | @tup ds cs hl _ ih=>
    exact .tup rfl fun i c d a hd=>by
      rw [a] at hd;cases hd;obtain ⟨y,g⟩:=Yb (xs:=cs) (i:=i) (by rw [← hl];exact Kc a);grind
  | @fn f ds cs hl _ ih=>
    exact .fn rfl fun i c d a hd=>by
      rw [a] at hd;cases hd;obtain ⟨y,g⟩:=Yb (xs:=cs) (i:=i) (by rw [← hl];exact Kc a);grind
  | ref h1 h2=>exact .ref rfl qd h1
  | @dref cs j _ _ _ _ _=>exact .dref cs j
  | hsnil h1=>exact .hs rfl qd h1
  | hs h1 _ _ _=>exact .hs rfl qd h1
  | yld h1 _=>exact .yld rfl qd h1
  | mp h1 _=>exact .mp rfl qd h1
  | dead v=>exact .dead _
theorem q142 {w : World} {Z : Nat→Prop} {inj : Inj} {nx n : Nat} {fz : List Nat} {f : AS} {b : Blk} (h : RelB w Z inj nx n b) : Wb f (fun n=>n) fz [] nx b b:=by
  cases b with
  | dead=>exact .dead _
  | dat es xs=>exact .dat _ _
  | mp es=>exact .mp _
  | cel es xs=>
    obtain ⟨_,_,p⟩:=h;refine .cel rfl fun i x y a g=>?_;rw [a] at g;cases g;refine ⟨rfl,fun j c d m hd=>?_⟩;rw [m] at hd;cases hd;rcases p with ⟨rfl,_⟩ | ⟨b,o,arr,ty,_,_,z⟩
    · simp at a
    · obtain ⟨r,c',_,u⟩:=z i x j c a m;exact ⟨qht u,r⟩
  | loop s ps assign body dn pe=>
    obtain ⟨b,tmps,D,fn,_,_,_,v⟩:=h;refine .loop fun t k l=>?_;obtain ⟨x,_,q⟩:=v t k l;exact ⟨k,l,qht q⟩
theorem qkg {w' : World} {Z' : Nat→Prop} {inj' : Inj} {a' : Act} {r : List Nat} {dst : Option Tmp} {n es : Nat} {xs : List (List DV)} {hp2 : List (Nat × Blk)} (w : RelS w' Z' inj' (st1.putD dst (.hs n es 0 xs.length)) a' r) (y : st1.hp = (n,.dat es xs)::hp2) (hf : find hp2 n = none) (hn : base≤n) (h4 : base≤st1.nx) :
    Wk base (fun n=>n) [n] [] (st1.putD dst (.hs n es 0 xs.length)) (({sl:=st1.sl,hp:=hp2,nx:=st1.nx} : AS).putD dst (.d (.sl es xs))):=by
  have f : (({sl:=st1.sl,hp:=hp2,nx:=st1.nx} : AS).putD dst (.d (.sl es xs))).nx = st1.nx:=Ym _ _ _;have q : (({sl:=st1.sl,hp:=hp2,nx:=st1.nx} : AS).putD dst (.d (.sl es xs))).hp = hp2:=Yl _ _ _
  have j : ∀ m b,find hp2 m = some b→m≠n∧find (st1.putD dst (.hs n es 0 xs.length)).hp m = some b:=by
    intro m b a;have c : m≠n:=by rintro rfl;rw [hf] at a;cases a
    refine ⟨c,?_⟩;rw [Yl,y,Ku,qq (by intro e;exact c e.symm)];exact a
  refine ⟨?_,?_,?_,?_,fun _ _=>rfl,by rw [f];exact h4,fun m a=>by simp at a;omega,fun m a=>by cases a⟩
  · intro t p h;rw [f];rw [Z8] at h;by_cases l : dst = some t
    · rw [qr l] at h;cases h;refine ⟨_,by rw [Z8,qr l],.frz (k:=es) (xs:=xs) ?_ qd q0 qd rfl⟩;show find (st1.putD dst _).hp n = _;rw [Yl,y,Ku,qr rfl]
    · rw [qq l] at h;have u : (st1.putD dst (.hs n es 0 xs.length)).get t = some p:=by rw [Z8,qq l];exact h
      obtain ⟨x,_,s⟩:=w.slots t p u;rw [Ym] at s;exact ⟨p,u,qht s⟩
  · intro m o a;rw [f];unfold AS.blk at a;rw [q] at a;obtain ⟨c,g⟩:=j m o a;obtain ⟨z,v⟩:=w.heap.blk m o g;rw [Ym] at z v;exact ⟨z,.inr ⟨qd,o,g,q142 v⟩⟩
  · omega
  · intro m b a _ hc;unfold AS.blk at a;grind
theorem qwf {w : World} {Z : Nat→Prop} {inj : Inj} {a a' : Act} {Ds : List Nat} {w' : World} {dst : Option Tmp} {n es : Nat} {xs : List (List DV)} {hp2 : List (Nat × Blk)}
    (h : Kv base w Z inj st a Ds (st1.putD dst (.hs n es 0 xs.length)) a' w') (o : st1.hp = (n,.dat es xs)::hp2) (k : find hp2 n = none) (p : base≤n) :
    Kv base w Z inj st a Ds (({sl:=st1.sl,hp:=hp2,nx:=st1.nx} : AS).putD dst (.d (.sl es xs))) a' w':=by
  obtain ⟨Z',inj',g,j,m,l,f,q⟩:=h;obtain ⟨c,b⟩:=q2n j (qkg j o k p (by rw [Ym] at f;exact f));exact ⟨_,_,g,c,m.trans b (Nat.le_refl _),l,by rw [Ym];rw [Ym] at f;exact f,q⟩
theorem qt4 {n es : Nat} {xs : List (List DV)} {hp2 : List (Nat × Blk)} (g : Z5 P T) (m : Qt ops st o = some true) (k : opFn T st o.op = some (.hs n es 0 xs.length,st1)) (j : st.nx≤n) (f : st1.hp = (n,.dat es xs)::hp2) (c : find hp2 n = none) :
    Jy P base ops o st (({sl:=st1.sl,hp:=hp2,nx:=st1.nx} : AS).putD o.dst (.d (.sl es xs))):=by
  intro ro Q w Z inj a Ds K h hd hb b l;exact qfk g m k ro Q w Z inj a Ds K h hd hb b fun a' w' hp=>l a' w' (qwf hp f c (Nat.le_trans hb j))
theorem q9w {w : World} {Z : Nat→Prop} {inj inj' : Inj} {nx : Nat} {v : V} {x : Value} (h : RelV w Z inj nx v x) (hi : ∀ n p,n < nx→inj n = some p→inj' n = some p) : RelV w Z inj' nx v x:=by
  induction h with
  | d h=>exact .d h
  | agg hl _ ih=>exact .agg hl ih
  | tup hl _ ih=>exact .tup hl ih
  | fn hl _ ih=>exact .fn hl ih
  | ref h1 h2=>exact .ref h1 (hi _ _ h1 h2)
  | dref h1 h2 h3=>exact .dref h1 h2 h3
  | hsnil h1=>exact .hsnil h1
  | hs h1 h2 hsp h3=>
    refine .hs h1 h2 hsp fun a=>?_;grind
  | yld h1 h2=>exact .yld h1 (hi _ _ h1 h2)
  | mp h1 h2=>exact .mp h1 (hi _ _ h1 h2)
  | dead v=>exact .dead v
theorem qn2 {w : World} {Z : Nat→Prop} {inj inj' : Inj} {nx n : Nat} {b : Blk} (h : RelB w Z inj nx n b) (hi : ∀ n p,n < nx→inj n = some p→inj' n = some p) (q : n < nx) (m : inj n = none→inj' n = none) : RelB w Z inj' nx n b:=by
  cases b with
  | dead=>trivial
  | dat es xs=>
    obtain ⟨g,f,a⟩:=h;refine ⟨g,f,?_⟩;grind
  | mp es=>
    obtain ⟨b,k,cl,g,f⟩:=h;exact ⟨b,k,cl,hi _ _ q g,f⟩
  | cel es xs=>
    obtain ⟨g,f,a⟩:=h;refine ⟨g,f,?_⟩;rcases a with ⟨a,l⟩ | ⟨b,o,arr,ty,a,l,h5⟩
    · grind
    · refine .inr ⟨b,o,arr,ty,hi _ _ q a,l,fun i x j d r hd=>?_⟩;obtain ⟨h6,c,y,u⟩:=h5 i x j d r hd;exact ⟨h6,c,y,q9w u hi⟩
  | loop s ps assign body dn pe=>
    obtain ⟨b,tmps,D,fn,g,f,a,l⟩:=h;refine ⟨b,tmps,D,fn,hi _ _ q g,f,a,fun t v ht=>?_⟩;obtain ⟨x,r,z⟩:=l t v ht;exact ⟨x,r,q9w z hi⟩
def qbh (base lo hi : Nat) (w : World) (Z : Nat→Prop) (inj : Inj) (st : AS) (a : Act) (Ds : List Nat) (st' : AS) (a' : Act) (w' : World) : Prop:=
  ∃ Z' inj' Ds',RelS w' Z' inj' st' a' Ds'∧Ext w Z inj st.hp w' Z' inj' st'.hp base∧a'.tmps.size = a.tmps.size∧(∀ D∈Ds',D∈Ds∨w.heap.size≤D)∧∀ m,m < st.nx→(m < lo∨hi≤m)→inj' m = inj m
def qe6 (P : Program) (base : Nat) (ops : Array Oper) (o : Oper) (st st' : AS) (lo hi : Nat) : Prop:=
  ∀ (ro : Option Nat) (Q : Exit→Act→World→Prop) (w : World) (Z : Nat→Prop) (inj : Inj) (a : Act) (Ds : List Nat) (K : Act→World→Prop),RelS w Z inj st a Ds→Jd a.tmps.size o.dst = true→base≤lo→base≤st.nx→Yh ro w→(∀ m,lo≤m→m < hi→inj m = none)→
    (∀ a' w',qbh base lo hi w Z inj st a Ds st' a' w'→K a' w')→Uy P (Fw ro) ops Q o K a w
theorem qkm {st' : AS} {lo hi : Nat} (h : Jy P st.nx ops o st st') : qe6 P base ops o st st' lo hi:=by
  intro ro Q w Z inj a Ds K f hd _ hb b _ l;refine h ro Q w Z inj a Ds K f hd (Nat.le_refl _) b fun a' w' hp=>l a' w' ?_;obtain ⟨Z',inj',c,k,d,g,p,n⟩:=hp;exact ⟨Z',inj',c,k,d.pin_le hb,g,n,fun m j _=>d.pinj m j⟩
theorem qn8 {w : World} {Z : Nat→Prop} {inj : Inj} {w' : World} {Z' : Nat→Prop} {inj' b : Inj} {N l : Nat} {v : V} {x k : Value} (h : RelV w Z inj N v x) (g : RelV w' Z' inj' l v k) (hi : ∀ m p,m < N→inj' m = some p→b m = some p) : RelV w' Z' b N v k:=by
  induction g generalizing x with
  | d g=>exact .d g
  | @agg ds cs hl _ ih=>
    cases h with | @agg _ cs0 hl0 h0=>
    refine .agg hl fun i d c hd j=>?_;grind
  | @tup ds cs hl _ ih=>
    cases h with | @tup _ cs0 hl0 h0=>
    refine .tup hl fun i d c hd j=>?_;grind
  | @fn f ds cs hl _ ih=>
    cases h with | @fn _ _ cs0 hl0 h0=>
    refine .fn hl fun i d c hd j=>?_;grind
  | ref h1 h2=>
    have a:=by cases h with | ref h1 _=>exact h1
    exact .ref a (hi _ _ a h2)
  | dref h1 h2 h3=>exact .dref h1 h2 h3
  | hsnil h1=>
    have a:=by cases h with
      | hsnil h1=>exact h1
      | hs h1 _ _ _=>exact h1
    exact .hsnil a
  | hs h1 h2 hsp h3=>
    have a:=by cases h with
      | hsnil h1=>exact h1
      | hs h1 _ _ _=>exact h1
    refine .hs a h2 hsp fun j=>?_;grind
  | yld h1 h2=>
    have a:=by cases h with | yld h1 _=>exact h1
    exact .yld a (hi _ _ a h2)
  | mp h1 h2=>
    have a:=by cases h with | mp h1 _=>exact h1
    exact .mp a (hi _ _ a h2)
  | dead v=>exact .dead v
theorem qxi {w : World} {Z : Nat→Prop} {inj : Inj} {w' : World} {Z' : Nat→Prop} {inj' a : Inj} {N N' n : Nat} {b : Blk} (h : RelB w Z inj N n b) (r : RelB w' Z' inj' N' n b) (hi : ∀ m p,m < N→inj' m = some p→a m = some p) (u : a n = inj' n) : RelB w' Z' a N n b:=by
  cases b with
  | dead=>trivial
  | dat es xs=>
    obtain ⟨k,g,f⟩:=r;refine ⟨k,g,?_⟩;grind
  | mp es=>
    obtain ⟨b,l,cl,k,g⟩:=r;exact ⟨b,l,cl,u.trans k,g⟩
  | cel es xs=>
    obtain ⟨k,g,f⟩:=r;refine ⟨k,g,?_⟩;rw [u];rcases f with f | ⟨b,o,arr,ty,f,y,h5⟩
    · grind
    · refine .inr ⟨b,o,arr,ty,f,y,fun i x j d q hd=>?_⟩;obtain ⟨h6,c,h7,h8⟩:=h5 i x j d q hd;obtain ⟨_,_,k3⟩:=h;rcases k3 with ⟨rfl,_⟩ | ⟨_,_,_,_,_,_,k5⟩
      · simp at q
      · obtain ⟨_,c0,_,k8⟩:=k5 i x j d q hd;exact ⟨h6,c,h7,qn8 k8 h8 hi⟩
  | loop s ps assign body dn pe=>
    obtain ⟨b,tmps,D,fn,k,g,f,y⟩:=r;obtain ⟨_,_,_,_,_,_,_,k4⟩:=h;refine ⟨b,tmps,D,fn,u.trans k,g,f,fun t v ht=>?_⟩;obtain ⟨x,q,hr⟩:=y t v ht;obtain ⟨x0,_,z⟩:=k4 t v ht;exact ⟨x,q,qn8 z hr hi⟩
theorem qkl {mk : Nat→V} {es q : Nat} {xs : List (List DV)} {f : List (Nat × Blk)} (hT : Z5 P T) (hg : Qt ops st o = some true) (hk : (∃ es,mk = fun n=>.ref n es 0 0)∨(∃ es l,mk = fun n=>.hs n es 0 l)∨(mk = fun n=>.mp n))
    (ho : opFn T st o.op = some (mk st.nx,⟨st.sl,(st.nx,.dat es xs)::f,st.nx + 1⟩)) (hq : q < st.nx) (ax : find st.hp q = none) (hold : ∀ m c,find f m = some c→c = .dead∨find st.hp m = some c) (ad : ∀ m,find st.hp m = none→find f m = none) :
    qe6 P base ops o st (({sl:=st.sl,hp:=(q,.dat es xs)::f,nx:=st.nx} : AS).putD o.dst (mk q)) q (q + 1):=by
  intro ro Q w Z inj a Ds K h hd bh hb _ ai hK;have av : inj q = none:=ai q (Nat.le_refl _) q0;unfold Uy;rw [q41 h hg];simp only [if_true];refine ⟨fun _ _=>trivial,?_⟩;rw [show (Fw ro).round = ro from rfl,Oper.semAt_eq ro _ o (qmc ho)];obtain ⟨x,w',inj',hr,hv,hh,j,-,-⟩:=qmd hT h ho;simp only at hv hh j;obtain ⟨d,aj⟩ : ∃ d : Inj,d = fun m=>if m = q then inj' st.nx else inj' m:=⟨_,rfl⟩
  have af : d q = inj' st.nx:=by rw [aj];simp
  have ae : ∀ m,m≠q→d m = inj' m:=fun m g=>by rw [aj];simp [g]
  have hi : ∀ m p,m < st.nx→inj' m = some p→d m = some p:=fun m p g hp=>by
    by_cases k : m = q
    · subst k;rw [j.pinj m g,av] at hp;cases hp
    grind
  have ak : ∀ m c,find f m = some c→m < st.nx:=fun m c g=>by
    cases hf : find st.hp m with
    | none=>rw [ad m hf] at g;cases g
    | some b=>exact (h.heap.blk m b hf).1
  have bo : ∀ m c,find f m = some c→m≠q:=fun m c g e=>by grind
  have up : ∀ m c,find f m = some c→find ((st.nx,Blk.dat es xs)::f) m = some c:=fun m c g=>by
    rw [Ku,qq (by have:=ak m c g;omega)];exact g
  have am : find ((st.nx,Blk.dat es xs)::f) st.nx = some (.dat es xs):=by rw [Ku,qr rfl]
  have back : ∀ m c,find ((q,Blk.dat es xs)::f) m = some c→∃ z,find ((st.nx,Blk.dat es xs)::f) z = some c∧d m = inj' z∧((m = q∧z = st.nx)∨(m≠q∧z = m)):=by
    intro m c g;rw [Ku] at g;grind
  have hH : RelH w' Z d ((q,Blk.dat es xs)::f) st.nx:=by
    refine ⟨fun m c g=>?_,fun m n b c p r h1 s h3 h4 h5 h6 au=>?_,fun m b p h1 s h3=>?_,hh.zs,hh.zc⟩
    · rw [Ku] at g;by_cases k : q = m
      · subst k;rw [qr rfl] at g;cases g;refine ⟨hq,?_⟩;obtain ⟨_,k1,k2,k3⟩:=hh.blk st.nx _ am;exact ⟨k1,k2,by rw [af];exact k3⟩
      · rw [qq k] at g;refine ⟨ak m c g,?_⟩;rcases hold m c g with rfl | ar
        · trivial
        · exact qxi (h.heap.blk m c ar).2 (hh.blk m c (up m c g)).2 hi (ae m (Ne.symm k))
    · obtain ⟨z,a1,a2,a3⟩:=back m b h1;obtain ⟨n',b1,b2,b3⟩:=back n c s;refine hh.sep z n' b c p r a1 b1 h3 h4 (a2 ▸ h5) (b2 ▸ h6) ?_;rcases a3 with ⟨rfl,rfl⟩ | ⟨a3,rfl⟩ <;> rcases b3 with ⟨rfl,rfl⟩ | ⟨b3,rfl⟩
      · omega
      · intro e;have : find f n' = some c:=by rw [Ku,qq (Ne.symm b3)] at s;exact s
        grind
      · intro e;have : find f z = some b:=by rw [Ku,qq (Ne.symm a3)] at h1;exact h1
        grind
      · exact au
    · obtain ⟨z,a1,a2,_⟩:=back m b h1;exact hh.out z b p a1 s (a2 ▸ h3)
  have hE : Ext w Z inj st.hp w' Z d ((q,Blk.dat es xs)::f) base:=by
    refine ⟨j.size,j.keep,?_,j.big,j.loops,j.zin,j.zout,fun n hn=>?_,j.tape,j.os,j.output,j.frz⟩
    · rintro b ⟨m,c,off,g1,g2,g3⟩;obtain ⟨z,a1,a2,_⟩:=back m c g1;exact j.imm b ⟨z,c,off,a1,g2,a2 ▸ g3⟩
    · rw [ae n q0];exact j.pinj n q0
  have hV : RelV w' Z d st.nx (mk q) x:=by
    rcases hk with ⟨es,rfl⟩ | ⟨es,l,rfl⟩ | rfl
    rotate_right
    · cases hv with | mp h1 s=>exact .mp hq (af.trans s)
    · cases hv with | ref h1 s=>exact .ref hq (af.trans s)
    · cases hv with
      | hsnil h1=>exact .hsnil hq
      | hs h1 s hsp h3=>
        refine .hs hq s hsp fun hc=>?_;grind
  have hS : Yu w' Z d st.nx st.sl a.tmps:=fun t v ht=>by
    obtain ⟨y,hy,hr⟩:=h.slots t v ht;exact ⟨y,hy,q9w (hr.mono (j.zkeep h.heap) j.zin j.big j.pinj (Nat.le_refl _)) hi⟩
  have u : qbh base q (q + 1) w Z inj st a Ds (({sl:=st.sl,hp:=(q,.dat es xs)::f,nx:=st.nx} : AS).putD o.dst (mk q)) (a.put o.dst x) w':=by
    refine ⟨Z,d,Ds,?_,by rw [Yl];exact hE,qmm _ _ _,fun _ h=>.inl h,fun m g k=>?_⟩
    · generalize az : o.dst = dst at hd
      cases dst with
      | none=>exact ⟨hS,hH,h.defs,h.nodup,fun D hD=>j.marks h.heap (h.marks D hD)⟩
      | some t=>exact ⟨hS.put hV (qjm hd),hH,h.defs,h.nodup,fun D hD=>j.marks h.heap (h.marks D hD)⟩
    · rw [ae m q0];exact j.pinj m g
  rcases hr with hr | ⟨hr,rfl⟩
  · rw [hr];exact hK _ _ u
  · rw [hr];exact hK _ _ u
theorem qwe {w : World} {Z : Nat→Prop} {inj : Inj} {a a' : Act} {Ds : List Nat} {w' : World} {dst : Option Tmp} {n es lo hi : Nat} {xs : List (List DV)} {hp2 : List (Nat × Blk)} (f : base≤st1.nx)
    (h : qbh base lo hi w Z inj st a Ds (st1.putD dst (.hs n es 0 xs.length)) a' w') (s : st1.hp = (n,.dat es xs)::hp2) (r : find hp2 n = none) (t : base≤n) :
    qbh base lo hi w Z inj st a Ds (({sl:=st1.sl,hp:=hp2,nx:=st1.nx} : AS).putD dst (.d (.sl es xs))) a' w':=by
  obtain ⟨Z',inj',g,k,o,l,p,u⟩:=h;have hp : Kv base w Z inj st a Ds (st1.putD dst (.hs n es 0 xs.length)) a' w':=⟨Z',inj',g,k,o,l,by rw [Ym];exact f,p⟩
  obtain ⟨c,b⟩:=q2n k (qkg k s r t f);refine ⟨_,_,g,c,o.trans b (Nat.le_refl _),l,p,fun m q j=>?_⟩;rw [← u m q j];simp [wkI]
structure U0 (P : Program) (ops : Array Oper) (o : Oper) (x : Fp) (st st1 : AS) : Prop where
  nx : st.nx≤st1.nx
  sl : ∀ t,o.dst≠some t→st1.get t = st.get t
  hp : ∀ m,m ∉ x.2→find st1.hp m = find st.hp m
  keys : ∀ m,st1.nx≤m→find st.hp m = none→find st1.hp m = none
  fresh : ∀ m,st.nx≤m→m < st1.nx→m∈x.2
  other : ∀ st2,st1.nx≤st2.nx→Uz ops o x st st2→(∀ m,st.nx≤m→m < st1.nx→find st2.hp m = none)→∃ st3,st3.nx = st2.nx∧(∀ base,qe6 P base ops o st2 st3 st.nx st1.nx)∧
    (∀ t,o.dst≠some t→st3.get t = st2.get t)∧(∀ t,o.dst = some t→st3.get t = st1.get t)∧(∀ m∈x.2,find st3.hp m = find st1.hp m)∧(∀ m,m ∉ x.2→find st3.hp m = find st2.hp m)
theorem qhj : ∀ {b : List Nat} {n : Nat},hasN b n = true→n∈b
  | a::r,n,h=>by
    simp only [hasN,Bool.or_eq_true] at h
    rcases h with h | h
    · rw [Nat.eq_of_beq_eq_true h];simp
    · exact List.mem_cons_of_mem _ (qhj h)
theorem qlm : ∀ {b : List Nat} {n : Nat},n∈b→hasN b n = true
  | a::r,n,h=>by
    simp only [hasN,Bool.or_eq_true]
    rcases List.mem_cons.1 h with rfl | h
    · left;exact Nat.beq_refl _
    · exact .inr (qlm h)
theorem qkb (y : Fp) : fpLe (some [],[]) y = true:=by
  unfold fpLe;cases y.1 <;> rfl
theorem U0.mono {x y : Fp} (h : U0 P ops o x st st1) (j : fpLe x y = true) : U0 P ops o y st st1:=by
  simp only [fpLe,Bool.and_eq_true,subN,List.all_eq_true] at j;obtain ⟨p,d⟩:=j;have c : ∀ m∈x.2,m∈y.2:=fun m a=>qhj (p m a);refine ⟨h.nx,h.sl,fun m a=>h.hp m fun e=>a (c m e),h.keys,fun m b hb=>c m (h.fresh m b hb),fun st2 s b n=>?_⟩
  have f : Uz ops o x st st2:=by
    refine ⟨⟨fun m a=>b.blk.1 m (c m a),?_⟩,b.sl⟩;have hb:=b.blk.2;revert d hb
    cases y.1 with
    | none=>grind
    | some r=>
      cases x.1 with
      | none=>simp
      | some r'=>
        intro d hb m a;exact hb m (qhj (by simpa using List.all_eq_true.1 d m a))
  obtain ⟨g,v,u,q,t,w,l⟩:=h.other st2 s f n;refine ⟨g,v,u,q,t,fun m a=>?_,fun m a=>l m fun e=>a (c m e)⟩;by_cases k : m∈x.2
  · grind
  · rw [l m k,h.hp m k];exact b.blk.1 m a
theorem qos {v : V} {x : Fp} (d : x.2 = []) (a : ∀ st2,Uz ops o x st st2→Jy P st2.nx ops o st2 (st2.putD o.dst v)) : U0 P ops o x st (st.putD o.dst v):=by
  refine ⟨by rw [Ym];exact Nat.le_refl _,fun t h=>by rw [Z8,qq h],fun m _=>by rw [Yl],fun m _ h=>by rw [Yl];exact h,fun m f a=>by rw [Ym] at a;omega,fun st2 g c _=>?_⟩;refine ⟨st2.putD o.dst v,Ym _ _ _,fun base=>qkm (a st2 c),fun t h=>by rw [Z8,qq h],fun t h=>by rw [Z8,Z8,qr h,qr h],fun m b=>(by rw [d] at b;cases b),fun m _=>by rw [Yl]⟩
theorem q130 (a : Qt ops st o = some false) : U0 P ops o (some [],[]) st (st.putD o.dst (.d (.tup []))):=
  qos rfl fun _ b=>qko (b.guard.trans a)
theorem qrz {b : Blk} {n : Nat} {sl : List (Nat × V)} {hp1 : List (Nat × Blk)} {v : V} {op : Op} (d : opFn T st op = some (v,⟨sl,(st.nx,b)::hp1,n + 1⟩)) (f : st.nx = n) (h : q3w st op ⟨sl,(st.nx,b)::hp1,n + 1⟩ = true) : ∃ es xs,b = .dat es xs:=by
  by_cases c : touch op = 2
  · simp only [q3w,c] at h
    cases b with
    | dat es xs=>exact ⟨es,xs,rfl⟩
    | _=>simp at h
  · have a : touch op≤1:=by
      have : touch op≤2:=by unfold touch;split <;> omega
      omega
    have g:=(qgk (st2:=st) d a (fun _=>rfl) (fun _ _=>rfl)).1;grind
theorem q12y {v : V} (w : Z5 P T) (u : Qt ops st o = some true) (y : opFn T st o.op = some (v,st1)) (hd : q3w st o.op st1 = true) : U0 P ops o (fp st o.op) st (st1.putD o.dst v):=by
  cases qm8 y with
  | calm hsl hnx hhp hnone hall=>
    have g : ∀ t,st1.get t = st.get t:=fun t=>by unfold AS.get;rw [hsl]
    refine ⟨by rw [Ym];omega,fun t h=>by rw [Z8,qq h,g],fun m a=>by rw [Yl];exact hhp m a,fun m _ h=>by rw [Yl];exact hnone m h,fun m l k=>by rw [Ym] at k;omega,fun st2 p c _=>?_⟩;obtain ⟨f,q,n,s⟩:=hall st2 (fun x r=>c.ev r) c.blk;refine ⟨(⟨st2.sl,f,st2.nx⟩ : AS).putD o.dst v,Ym _ _ _,fun base=>qkm (qfk w (c.guard.trans u) q),fun t h=>by rw [Z8,qq h];rfl,fun t h=>by rw [Z8,Z8,qr h,qr h],fun m a=>?_,fun m a=>?_⟩
    · rw [Yl,Yl];exact n m a
    · rw [Yl];exact s m a
  | new mk b hp1 hk hv l hmem hhp hnone hall=>
    subst l;obtain ⟨es,xs,rfl⟩:=qrz y rfl hd;refine ⟨by rw [Ym];exact Nat.le_succ _,fun t h=>by rw [Z8,qq h];rfl,fun m a=>?_,fun m a h=>?_,fun m l k=>?_,fun st2 p c j=>?_⟩
    · rw [Yl,Ku,qq (by rintro rfl;exact a hmem)];exact hhp m a
    · rw [Ym] at a;rw [Yl,Ku,qq (by simp only at a;omega)];exact hnone m h
    · rw [Ym] at k;grind
    · rw [Ym] at p j ⊢;simp only at p j;obtain ⟨f,q,n,s,k4⟩:=hall st2 (fun x r=>c.ev r) c.blk;have d:=j st.nx (Nat.le_refl _) q0;refine ⟨(⟨st2.sl,(st.nx,.dat es xs)::f,st2.nx⟩ : AS).putD o.dst (mk st.nx),Ym _ _ _,fun base=>qkl w (c.guard.trans u) hk q q0 d k4 (fun m a=>?_),fun t h=>by rw [Z8,qq h];rfl,fun t h=>by rw [Z8,Z8,qr h,qr h,hv],fun m a=>?_,fun m a=>?_⟩
      · by_cases z : m∈(fp st o.op).2
        · rw [n m z];refine hnone m ?_;rw [← c.blk.1 m z];exact a
        grind
      · rw [Yl,Yl,Ku,Ku];grind
      · rw [Yl,Ku,qq (by rintro rfl;exact a hmem)];exact s m a
theorem q12z {n es : Nat} {xs : List (List DV)} {hp2 : List (Nat × Blk)} (hT : Z5 P T) (hg : Qt ops st o = some true) (ho : opFn T st o.op = some (.hs n es 0 xs.length,st1)) (r : n = st.nx∧st1.nx = n + 1) (y : st1.hp = (n,.dat es xs)::hp2) (hf : find hp2 n = none) :
    U0 P ops o (fp st o.op) st (({sl:=st1.sl,hp:=hp2,nx:=st1.nx} : AS).putD o.dst (.d (.sl es xs))):=by
  obtain ⟨rfl,ab⟩:=r
  cases qm8 ho with
  | calm hsl hnx hhp hnone hall=>omega
  | new mk b hp1 hk hv v hmem hhp hnone hall=>
    subst v;simp only [List.cons.injEq,Prod.mk.injEq,true_and] at y;obtain ⟨rfl,rfl⟩:=y;refine ⟨by rw [Ym];exact Nat.le_succ _,fun t h=>by rw [Z8,qq h];rfl,fun m g=>by rw [Yl];exact hhp m g,fun m g h=>by rw [Yl];exact hnone m h,fun m v h2=>?_,fun st2 r q k=>?_⟩
    · rw [Ym] at h2;grind
    · rw [Ym] at r k ⊢;simp only at r k;obtain ⟨j,k1,u,k3,k4⟩:=hall st2 (fun x hx=>q.ev hx) q.blk;have f:=k st.nx (Nat.le_refl _) q0
      have c : ∀ m,find st2.hp m = none→find j m = none:=fun m g=>by
        by_cases z : m∈(fp st o.op).2
        · rw [u m z];refine hnone m ?_;rw [← q.blk.1 m z];exact g
        grind
      refine ⟨(⟨st2.sl,j,st2.nx⟩ : AS).putD o.dst (.d (.sl es xs)),Ym _ _ _,fun base=>?_,fun t h=>by rw [Z8,qq h];rfl,fun t h=>by rw [Z8,Z8,qr h,qr h],fun m g=>by rw [Yl,Yl];exact u m g,fun m g=>by rw [Yl];exact k3 m g⟩;intro ro Q w Z inj a Ds K h hd l hb s p hK;refine qkl (base:=base) hT (q.guard.trans hg) hk k1 q0 f k4 c ro Q w Z inj a Ds K h hd l hb s p fun a' w' hp=>hK a' w' ?_;rw [← hv] at hp;exact qwe (st1:=⟨st2.sl,(st.nx,.dat es xs)::j,st2.nx⟩) hb hp rfl (c _ f) l
theorem q13j {hp hp2 : List (Nat × Blk)} (h : ∀ m,find hp2 m = find hp m) : ∀ k,toD hp2 k = toD hp k:=by
  intro k
  induction k with
  | zero=>funext v;cases v <;> rfl
  | succ k ih=>funext v;cases v <;> simp only [toD,ih,h]
theorem qi6 {hp hp2 : List (Nat × Blk)} (h : ∀ m,find hp2 m = find hp m) : ∀ {a : List V},Ko hp2 a = Ko hp a
  | []=>rfl
  | v::r=>by simp only [Ko,q13j h,qi6 h]
theorem qi7 {hp hp2 : List (Nat × Blk)} : ∀ {a : List V},a.all V.isD = true→Ko hp2 a = Ko hp a
  | [],_=>rfl
  | v::r,h=>by
    simp only [List.all_cons,Bool.and_eq_true] at h
    have e : toD hp2 8 v = toD hp 8 v:=by
      cases v <;> first | rfl | (simp [V.isD] at h;done)
    rw [Ko,Ko,e,qi7 (hp:=hp) (hp2:=hp2) h.2]
theorem q12x {c : Call} {f : FuncId} {b : List V} {ds : List DV} {v : V} {hp' : List (Nat × Blk)} {nx' : Nat} {n r : DV} (q : Qt ops st o = some true) (m : o.op = .call c) (p : callee st c = some (f,b))
    (j : Ko st.hp b = some ds) (a : Jw P f (ds.map .d) [] 0 v hp' nx') (l : toD hp' 8 v = some n) (k : DLe n r) (hs : b.all V.isD = true∨r.scalar = true) : U0 P ops o (fpC b) st (st.putD o.dst (.d r)):=by
  refine qos (by unfold fpC;cases b.all V.isD <;> rfl) fun st2 g=>qkn (g.guard.trans q) m ((g.callee m).trans p) ?_ a l k hs;rw [← j];by_cases hd : b.all V.isD = true
  · exact qi7 hd
  · have h:=g.blk.2;simp only [fpC,hd,Q3] at h;exact qi6 h
theorem qt2 {ops : Array Oper} {o : Oper} {c : Call} {f : FuncId} {vs bb : List V} {hp0 hp' an ax : List (Nat × Blk)} {k k' ap : Nat} {v' vN : V} {ρ ρ3 : Nat→Nat} {cc am : List Nat} (hg : Qt ops st o = some true) (ho : o.op = .call c) (hc : callee st c = some (f,vs)) (ch : vs.length = bb.length)
    (bt : Wk 0 ρ [] [] {sl:=Y7 0 vs,hp:=st.hp,nx:=st.nx} {sl:=Y7 0 bb,hp:=hp0,nx:=k}) (ar : Jw P f bb hp0 k v' hp' k') (cb : Wk 0 ρ3 cc am {sl:=[(0,v')],hp:=hp',nx:=k'} {sl:=[(0,vN)],hp:=an,nx:=ap})
    (hb : Back ρ ρ3 am k k' st.nx ap st.hp an ax) : Jy P base ops o st ({sl:=st.sl,hp:=ax,nx:=ap : AS}.putD o.dst vN):=by
  intro ro Q w Z inj a Ds K h hd bh _ hK;unfold Uy;rw [q41 h hg];simp only [if_true];refine ⟨fun _ _=>trivial,?_⟩;obtain ⟨xs,hr,hl⟩:=qel h ho hc ar.1;rw [show (Fw ro).round = ro from rfl,Oper.semAt_eq ro _ o (by rintro c' h';rw [ho] at h';cases h'),hr,Oper.uponIn_enter];refine ⟨fun h=>by simp [Fw] at h,?_⟩
  have bk : RelS w Z inj {sl:=Y7 0 vs,hp:=st.hp,nx:=st.nx} {a with tmps:=xs,defers:=[]} []:=by
    refine ⟨fun t v ht=>?_,h.heap,rfl,List.nodup_nil,qd⟩;rw [qbm] at ht;simp only [Nat.zero_le,if_true,Nat.sub_zero] at ht;obtain ⟨y,hy⟩:=Yb (xs:=xs) (i:=t) (by rw [← hl.1];exact Kc ht);exact ⟨y,hy,hl.2 t v y ht hy⟩
  obtain ⟨ck,ai⟩:=q2n bk bt
  have cr : LRel w (wkZ Z inj {sl:=Y7 0 vs,hp:=st.hp,nx:=st.nx} []) (wkI inj ρ []) k bb xs:=by
    refine ⟨by rw [← ch];exact hl.1,fun i d y cv de=>?_⟩;obtain ⟨y',bz,hr⟩:=ck.slots i d (by rw [qbm];simpa using cv);rw [de] at bz;cases bz;exact hr
  refine CallsIn.mono (ar.2 w _ _ xs ck.heap cr) ?_;rintro e w' ⟨x,Z',inj',rfl,hh,ci,hv,hn⟩;obtain ⟨s,ag⟩ : ∃ s : Inj,s = fun n=>if n < k' then inj' n else none:=⟨_,rfl⟩
  have ac : ∀ n,n < k'→s n = inj' n:=fun n hn=>by rw [ag];simp [hn]
  have df : RelH w' Z' s hp' k':=by
    refine ⟨fun n b hb=>?_,fun n m b c p q l j u h4 h5 h6=>?_,fun n b p l j u=>?_,hh.zs,hh.zc⟩
    · obtain ⟨k1,k2⟩:=hh.blk n b hb;exact ⟨k1,qn2 k2 (fun m p hm hp=>(ac m hm).trans hp) k1 (fun hp=>(ac n k1).trans hp)⟩
    · rw [ac n (hh.blk n b l).1] at h5;rw [ac m (hh.blk m c j).1] at h6;exact hh.sep n m b c p q l j u h4 h5 h6
    · rw [ac n (hh.blk n b l).1] at u;exact hh.out n b p l j u
  have cz : RelV w' Z' s k' v' x:=q9w hv fun n p hn hp=>(ac n hn).trans hp
  have bi : ∀ b,im hp' s b→im hp' inj' b:=by
    rintro b ⟨n,blk,o,l,j,u⟩;exact ⟨n,blk,o,l,j,by rw [← ac n (hh.blk n blk l).1];exact u⟩
  have bm : RelS w' Z' s {sl:=[(0,v')],hp:=hp',nx:=k'} {a with tmps:=#[x],defers:=[]} []:=by
    refine ⟨fun t v ht=>?_,df,rfl,List.nodup_nil,qd⟩;rw [Ku] at ht;split at ht
    · rename_i e;subst e;cases ht;exact ⟨x,rfl,cz⟩
    · simp [find] at ht
  obtain ⟨ab,ah⟩:=q2n bm cb;generalize dr : wkZ Z' s {sl:=[(0,v')],hp:=hp',nx:=k'} cc = Z3 at ab ah;generalize cl : wkI s ρ3 am = z at ab ah
  have dc : RelV w' Z3 z ap vN x:=by
    obtain ⟨y,hy,hr⟩:=ab.slots 0 vN (by simp [find]);simp at hy;subst hy;exact hr
  have be : ∀ i,i < k→inj' i = inj (ρ i):=fun i hi=>by rw [ci.pinj i hi];simp [wkI]
  have cj : ∀ m,m < st.nx→∀ p,z m = some p→inj m = some p:=by
    intro m hm p hp;have ba : m ∉ am:=fun hc=>by have:=hb.phn m hc;omega
    rw [← cl] at hp;simp only [wkI,ba,if_false] at hp;rcases hb.snd m hm with ⟨l,j⟩ | l
    · rw [ag] at hp;simp only [show ρ3 m < k' by omega,if_true] at hp;rw [be _ l,j] at hp;exact hp
    · rw [ag] at hp;simp [show ¬ ρ3 m < k' by omega] at hp
  obtain ⟨r,af⟩ : ∃ r : Inj,r = fun m=>if m < st.nx then inj m else z m:=⟨_,rfl⟩
  have aa : ∀ m,m < st.nx→r m = inj m:=fun m hm=>by rw [af];simp [hm]
  have bu : ∀ m p,z m = some p→r m = some p:=fun m p hp=>by
    by_cases hm : m < st.nx
    · rw [aa m hm];exact cj m hm p hp
    · rw [af];simp [hm,hp]
  have hR : ∀ m b,find an m = some b→∀ p,r m = some p→z m = some p:=by
    intro m b bn p hp;by_cases hm : m < st.nx
    · rw [aa m hm] at hp;have ba : m ∉ am:=fun hc=>by have:=hb.phn m hc;omega
      obtain ⟨_,j⟩:=cb.blocks m b bn;rcases j with ⟨j,_⟩ | ⟨_,b0,u,_⟩
      · exact absurd j ba
      · have cy:=(hh.blk _ _ u).1;rcases hb.snd m hm with ⟨k1,k2⟩ | k1
        · rw [← cl];simp only [wkI,ba,if_false];rw [ac _ q0,be _ k1,k2];exact hp
        · omega
    · rw [af] at hp;simpa [hm] using hp
  have hE : Ext w (wkZ Z inj {sl:=Y7 0 vs,hp:=st.hp,nx:=st.nx} []) (wkI inj ρ []) hp0 w' Z' inj' hp' 0:=ci.pin_le (Nat.zero_le _)
  have da : ∀ b,im an z b→im st.hp inj b∨w.heap.size≤b:=by
    intro b cs;rcases ah.imm b cs with l | l
    · rcases hE.imm b (bi b l) with j | j
      · exact ai.imm b j
      · exact .inr j
    · exact .inr (Nat.le_trans hE.size l)
  have keep : ∀ b,b < w.heap.size→¬ im hp0 (wkI inj ρ []) b→w'.heap[b]? = w.heap[b]?:=fun b ct cu=>hE.keep b ct cu
  have ao : ∀ m b p,find st.hp m = some b→live b = true→inj m = some p→(∀ i,i < k→ρ i≠m)→¬ im hp0 (wkI inj ρ []) p.1:=by
    rintro m b p l j u h4 ⟨i,blk,o,g1,g2,g3⟩;obtain ⟨j1,j2⟩:=bt.blocks i blk g1;rcases j2 with ⟨j2,_⟩ | ⟨_,b0,j3,j4⟩
    · cases j2
    · have cq : inj (ρ i) = some (p.1,o):=by simpa [wkI] using g3
      exact h.heap.sep (ρ i) m b0 b _ p j3 l (qpj j4 g2) j cq u (h4 i j1) rfl
  have hZ : ∀ b,Z b→Z3 b:=fun b hz=>ah.zin b (hE.zin b (ai.zin b hz))
  have bv : ∀ b,Z3 b→Z b∨im hp0 (wkI inj ρ []) b∨w.heap.size≤b:=by
    intro b hz;rcases ah.zout b hz with l | l | l
    · rcases hE.zout b l with j | j | j
      · rcases ai.zout b j with u | u | u
        · exact .inl u
        · rcases j with j | ⟨n,hn,_⟩
          · exact .inl j
          · cases hn
        · exact .inr (.inr u)
      · exact .inr (.inl j)
      · exact .inr (.inr j)
    · rcases hE.imm b (bi b l) with j | j
      · exact .inr (.inl j)
      · exact .inr (.inr j)
    · exact .inr (.inr (Nat.le_trans hE.size l))
  have bf : J1 w w':=hE.big;have aw : qbg w w':=hE.loops
  have bs : Ext w Z inj st.hp w' Z3 r ax st.nx:=by
    refine ⟨hE.size,fun b l j=>keep b l (fun u=>(ai.imm b u).elim j (fun h4=>q0)),?_,bf,aw,hZ,?_,aa,hE.tape,hE.os,hE.output,hE.frz⟩
    · rintro b ⟨m,blk,o,g1,g2,g3⟩;rcases hb.old m blk g1 with g4 | ⟨g4,_⟩
      · exact da b ⟨m,blk,o,g4,g2,hR m blk g4 _ g3⟩
      · exact .inl ⟨m,blk,o,g4,g2,by rw [← aa m (h.heap.blk m blk g4).1];exact g3⟩
    · intro b hz;rcases bv b hz with l | l | l
      · exact .inl l
      · exact .inr ((ai.imm b l).imp (fun x=>x) (fun x=>x))
      · exact .inr (.inr l)
  have hH : RelH w' Z3 r ax ap:=by
    refine ⟨fun m b bn=>?_,fun m n b c p q l j u h4 h5 h6 cf=>?_,fun m b p l j u hz=>?_,ab.heap.zs,ab.heap.zc⟩
    · rcases hb.old m b bn with g | ⟨g,gi⟩
      · obtain ⟨k1,k2⟩:=ab.heap.blk m b g;refine ⟨k1,qn2 k2 (fun n p _ hp=>bu n p hp) k1 fun hp=>?_⟩
        cases hq : r m with
        | none=>rfl
        | some p=>rw [hR m b g p hq] at hp;cases hp
      · obtain ⟨k1,k2⟩:=h.heap.blk m b g;refine ⟨Nat.lt_of_lt_of_le k1 hb.nxs,k2.mono (fun b' hz=>?_) hZ bf (fun n hn=>aa n hn) hb.nxs k1 fun p hp cm=>?_⟩
        · refine keep b' (h.heap.zs b' hz) fun hi=>?_;rcases ai.imm b' hi with l | l
          · exact h.heap.z_im hz l
          · have:=h.heap.zs b' hz;omega
        · exact keep _ (h.heap.im_lt ⟨m,b,p.2,g,cm,hp⟩) (ao m b p g cm hp gi)
    · have aq : ∀ (m n : Nat) (b c : Blk) (p q : Nat × Nat),find an m = some b→live b = true→r m = some p→find st.hp n = some c→live c = true→r n = some q→(∀ i,i < k→ρ i≠n)→p.1≠q.1:=by
        intro m n b c p q l u h5 j h4 h6 hn e;have hq : inj n = some q:=by rw [← aa n (h.heap.blk n c j).1];exact h6
        have cy:=h.heap.im_lt (b:=q.1) ⟨n,c,q.2,j,h4,hq⟩;rcases ah.imm p.1 ⟨m,b,p.2,l,u,hR m b l p h5⟩ with g1 | g1
        · rcases hE.imm p.1 (bi _ g1) with g2 | g2
          · exact ao n c q j h4 hq hn (e ▸ g2)
          · omega
        · have:=hE.size;omega
      rcases hb.old m b l with g | ⟨g,gi⟩ <;> rcases hb.old n c j with g' | ⟨g',dd⟩
      · exact ab.heap.sep m n b c p q g g' u h4 (hR m b g p h5) (hR n c g' q h6) cf
      · exact aq m n b c p q g u h5 g' h4 h6 dd
      · exact fun e=>aq n m c b q p g' h4 h6 g u h5 gi e.symm
      · exact h.heap.sep m n b c p q g g' u h4 (by rw [← aa m (h.heap.blk m b g).1];exact h5) (by rw [← aa n (h.heap.blk n c g').1];exact h6) cf
    · rcases hb.old m b l with g | ⟨g,gi⟩
      · exact ab.heap.out m b p g j (hR m b g p u) hz
      · have hq : inj m = some p:=by rw [← aa m (h.heap.blk m b g).1];exact u
        rcases bv p.1 hz with h4 | h4 | h4
        · exact h.heap.out m b p g j hq h4
        · exact ao m b p g j hq gi h4
        · have:=h.heap.im_lt (b:=p.1) ⟨m,b,p.2,g,j,hq⟩;omega
  exact hK _ _ (q45 h bh bs hH hb.nxs (q9w dc fun n p _ hp=>bu n p hp) hd)
theorem q131 {c : Call} {f : FuncId} {b : List V} {v : V} {hp' : List (Nat × Blk)} {nx' : Nat} (g : Qt ops st o = some true) (h : o.op = .call c) (d : callee st c = some (f,b)) (a : Jw P f b st.hp st.nx v hp' nx') :
    Jy P base ops o st ({sl:=st.sl,hp:=hp',nx:=nx' : AS}.putD o.dst v):=qt3 g h d a
inductive Zo (P : Program) (base : Nat) (ops : Array Oper) : List Oper→AS→AS→Prop
  | nil {st : AS} : Zo P base ops [] st st
  | cons {o : Oper} {l : List Oper} {st st1 st2 : AS} : Jy P base ops o st st1→Zo P base ops l st1 st2→Zo P base ops (o::l) st st2
  | wk {ρ : Nat→Nat} {fz ph : List Nat} {l : List Oper} {st st1 st2 : AS} : Wk base ρ fz ph st st1→Zo P base ops l st1 st2→Zo P base ops l st st2
inductive Jx (P : Program) (base : Nat) (ops : Array Oper) (F : List Fp) : List Oper→AS→AS→Prop
  | nil {st : AS} : Jx P base ops F [] st st
  | cons {o : Oper} {l : List Oper} {st st1 st2 : AS} : U0 P ops o (fpAt F l.length) st st1→Jx P base ops F l st1 st2→Jx P base ops F (o::l) st st2
  | piv {o : Oper} {l : List Oper} {st st1 st2 : AS} : q1d (fpAt F l.length) = true→Zo P base ops [o] st st1→Jx P base ops F l st1 st2→Jx P base ops F (o::l) st st2
def q1k (P : Program) (base : Nat) (ops : Array Oper) (dr : Dr) (l : List Oper) (st st' : AS) : Prop:=match dr with
  | none=>Zo P base ops l st st'
  | some F=>Jx P base ops F l st st'
theorem qir {F : List Fp} : ∀ {l : List Oper} {st st' : AS},Jx P base ops F l st st'→∃ (n : Nat) (S : Nat→AS),n≤l.length∧S 0 = st∧(∀ i o,i < n→l[i]? = some o→U0 P ops o (fpAt F (l.length - (i + 1))) (S i) (S (i + 1)))∧
    ((n = l.length∧S n = st')∨∃ o st1,l[n]? = some o∧q1d (fpAt F (l.length - (n + 1))) = true∧Zo P base ops [o] (S n) st1∧Jx P base ops F (l.drop (n + 1)) st1 st')
  | [],st,st',h=>by cases h;exact ⟨0,fun _=>st,Nat.le_refl _,rfl,fun i o h=>q0,.inl ⟨rfl,rfl⟩⟩
  | o::l,st,st',h=>by
    cases h with
    | @cons _ _ _ st1 _ h1 h2=>
      obtain ⟨n,S,p,k,hs,b⟩:=qir h2
      refine ⟨n + 1,fun i=>match i with | 0=>st | i + 1=>S i,by simp;omega,rfl,fun i d hi c=>?_,?_⟩
      · cases i with
        | zero=>simp at c;subst c;simp only [k,List.length_cons,Nat.zero_add,Nat.add_sub_cancel];exact h1
        | succ i=>
          have:=hs i d q0 (by simpa using c)
          simp only [List.length_cons]
          rw [show l.length + 1 - (i + 1 + 1) = l.length - (i + 1) by omega]
          exact this
      · rcases b with ⟨a,f⟩ | ⟨d,g,a,f,m,j⟩
        · exact .inl ⟨by simp [a],f⟩
        · refine .inr ⟨d,g,by simpa using a,?_,m,by simpa using j⟩
          rw [List.length_cons,show l.length + 1 - (n + 1 + 1) = l.length - (n + 1) by omega]
          exact f
    | @piv _ _ _ st1 _ h1 h2 a=>exact ⟨0,fun _=>st,Nat.zero_le _,rfl,fun i o h=>q0,.inr ⟨o,st1,rfl,by simpa using h1,h2,by simpa using a⟩⟩
theorem qqq {dr : Dr} {l : List Oper} {st2 : AS} (a : Qt ops st o = some false) (h : q1k P base ops dr l (st.putD o.dst (.d (.tup []))) st2) : q1k P base ops dr (o::l) st st2:=by
  cases dr with
  | none=>exact .cons (qko a) h
  | some F=>exact .cons ((q130 a).mono (qkb _)) h
theorem qqo {dr : Dr} {l : List Oper} {st2 : AS} {v : V} (b : Z5 P T) (c : Qt ops st o = some true) (d : opFn T st o.op = some (v,st1)) (a : okO dr l.length st o.op st1 = true) (h : q1k P base ops dr l (st1.putD o.dst v) st2) : q1k P base ops dr (o::l) st st2:=by
  cases dr with
  | none=>exact .cons (qfk b c d) h
  | some F=>
    simp only [okO,Bool.and_eq_true] at a;exact .cons ((q12y b c d a.2).mono a.1) h
theorem qqp {dr : Dr} {l : List Oper} {st2 : AS} {n es : Nat} {xs : List (List DV)} {hp2 : List (Nat × Blk)} (f : Z5 P T) (g : Qt ops st o = some true) (j : opFn T st o.op = some (.hs n es 0 xs.length,st1)) (c : n = st.nx∧st1.nx = n + 1) (b : st1.hp = (n,.dat es xs)::hp2) (a : find hp2 n = none) (k : okF dr l.length (fp st o.op) = true)
    (h : q1k P base ops dr l (({sl:=st1.sl,hp:=hp2,nx:=st1.nx} : AS).putD o.dst (.d (.sl es xs))) st2) : q1k P base ops dr (o::l) st st2:=by
  cases dr with
  | none=>exact .cons (qt4 f g j (Nat.le_of_eq c.1.symm) b a) h
  | some F=>exact .cons ((q12z f g j c b a).mono k) h
theorem qqn {dr : Dr} {l : List Oper} {st2 : AS} {c : Call} {f : FuncId} {k : List V} {ds : List DV} {v : V} {hp' : List (Nat × Blk)} {nx' : Nat} {n r : DV} (q : Qt ops st o = some true) (m : o.op = .call c) (p : callee st c = some (f,k))
    (b : Ko st.hp k = some ds) (a : Jw P f (ds.map .d) [] 0 v hp' nx') (j : toD hp' 8 v = some n) (g : DLe n r) (hs : k.all V.isD = true∨r.scalar = true) (s : okF dr l.length (fpC k) = true) (h : q1k P base ops dr l (st.putD o.dst (.d r)) st2) : q1k P base ops dr (o::l) st st2:=by
  cases dr with
  | none=>exact .cons (qkn q m p b a j g hs) h
  | some F=>exact .cons ((q12x q m p b a j g hs).mono s) h
def Adm (ops : Array Oper) (S : Nat→Prop) : Prop:=∀ j o,S j→ops[j]? = some o→∀ e∈o.after,Region.binds .any e = true→S e.on
def Behind (ops : Array Oper) (o : Oper) (j : Nat) : Prop:=∀ S : Nat→Prop,Adm ops S→(∀ e∈o.after,Region.binds .any e = true→S e.on)→S j
theorem qli (acc : List Nat) (j : Nat) : ∀ (l : List Edge) (s : Nat),(l.foldl (fun s e=>if Region.binds .any e then s ||| 2 ^ e.on ||| acc.getD e.on 0 else s) s).testBit j = true→
    s.testBit j = true∨∃ e∈l,Region.binds .any e = true∧(e.on = j∨(acc.getD e.on 0).testBit j = true)
  | [],s,h=>.inl h
  | e::l,s,h=>by
    simp only [List.foldl_cons] at h
    rcases qli acc j l _ h with h | ⟨b,d,c,a⟩
    · by_cases hb : Region.binds .any e = true
      · simp only [hb,if_true,Nat.testBit_or,Bool.or_eq_true,Nat.testBit_two_pow] at h
        rcases h with (h | h) | h
        · exact .inl h
        · exact .inr ⟨e,qd,hb,.inl (by simpa using h)⟩
        · exact .inr ⟨e,qd,hb,.inr h⟩
      · simp only [hb] at h;exact .inl (by simpa using h)
    · exact .inr ⟨b,List.mem_cons_of_mem _ d,c,a⟩
theorem qlj : ∀ (r : List Oper) (pre : List Oper) (acc : List Nat),ops.toList = pre ++ r→acc.length = pre.length→
    (∀ (i m : Nat),acc[i]? = some m→∃ o,ops[i]? = some o∧∀ j,m.testBit j = true→Behind ops o j)→
    (masks acc r).length = ops.size∧∀ (i m : Nat),(masks acc r)[i]? = some m→∃ o,ops[i]? = some o∧∀ j,m.testBit j = true→Behind ops o j
  | [],pre,acc,h,hl,ha=>by
    refine ⟨?_,ha⟩
    have:=congrArg List.length h
    simp at this
    simp [masks,hl,this]
  | o::r,pre,acc,h,hl,ha=>by
    refine qlj r (pre ++ [o]) (acc ++ [qlh acc o]) (by rw [h];simp) (by simp [hl]) ?_
    intro i m b
    by_cases hi : i < acc.length
    · rw [List.getElem?_append_left hi] at b;exact ha i m b
    · rw [List.getElem?_append_right q0] at b
      have d : i = acc.length:=by
        have:=Kc b;simp at this;omega
      subst d
      simp at b;subst b
      refine ⟨o,by rw [← Array.getElem?_toList,h,hl];simp,fun j v S n t=>?_⟩
      rcases qli acc j _ _ v with u | ⟨e,s,q,a⟩
      · simp at u
      · have c:=t e (by simpa using s) q
        rcases a with a | a
        · exact a ▸ c
        · rw [List.getD_eq_getElem?_getD] at a
          cases l : acc[e.on]? with
          | none=>rw [l] at a;simp at a
          | some m'=>
            rw [l] at a;obtain ⟨w,f,hb⟩:=ha _ _ l;exact hb j a S n (fun p g k=>n _ _ c f p g k)
theorem qjn : ∀ (l : List Oper) (n : Nat),qbx n l = true→∀ i o,l[i]? = some o→∀ e∈o.after,Region.binds .any e = true→e.on < n + i
  | [],_,_,i,o,h=>by simp at h
  | x::l,n,h,i,o,ho=>by
    simp only [qbx,Bool.and_eq_true,List.all_eq_true] at h
    cases i with
    | zero=>
      simp at ho;subst ho
      intro e a hb
      have:=h.1 e (by simpa using a)
      simp [hb] at this
      exact this
    | succ i=>
      intro e a hb
      have:=qjn l (n + 1) h.2 i o (by simpa using ho) e a hb
      omega
structure q8n (x y : Fp) : Prop where
  ww : ∀ m∈x.2,m ∉ y.2
  rw : ∀ m∈y.2,match x.1 with | none=>False | some r=>m ∉ r
  wr : ∀ m∈x.2,match y.1 with | none=>False | some r=>m ∉ r
theorem qed {a b : List Nat} (h : q8s a b = true) : ∀ m∈a,m ∉ b:=fun m c hb=>by
  simp only [q8s,List.all_eq_true] at h
  have:=h m c
  rw [qlm hb] at this;cases this
theorem qpu {x y : Fp} (h : qec x y = true) : q8n x y:=by
  simp only [qec,Bool.and_eq_true] at h;obtain ⟨⟨f,c⟩,b⟩:=h;refine ⟨qed f,fun m a=>?_,fun m a=>?_⟩
  · revert c
    cases x.1 with
    | none=>intro c;rw [List.isEmpty_iff] at c;rw [c] at a;cases a
    | some r=>intro c d;exact qed c m d a
  · revert b
    cases y.1 with
    | none=>intro b;rw [List.isEmpty_iff] at b;rw [b] at a;cases a
    | some r=>intro b d;exact qed b m d a
structure q8o (F : List Fp) (ops : Array Oper) : Prop where
  edges : ∀ j o,ops[j]? = some o→∀ e∈o.after,Region.binds .any e = true→e.on < j
  pairs : ∀ i j a b,i < j→ops[i]? = some a→ops[j]? = some b→Behind ops b i∨(q8n (fpAt F (ops.size - (i + 1))) (fpAt F (ops.size - (j + 1)))∧(∀ t∈reads ops a,b.dst≠some t)∧(∀ t∈reads ops b,a.dst≠some t)∧∀ t,a.dst = some t→b.dst≠some t)
  pivs : ∀ i j a b,i < j→ops[i]? = some a→ops[j]? = some b→(q1d (fpAt F (ops.size - (i + 1))) = true∨q1d (fpAt F (ops.size - (j + 1))) = true)→Behind ops b i
theorem qpo {α : Type} {l : List α} {i : Nat} {x : α} (h : l[i]? = some x) : (x,i)∈l.zipIdx:=by grind
theorem qf5 {o : Oper} {t : Tmp} : q90 o t = true↔o.dst = some t:=by
  unfold q90
  cases o.dst with
  | none=>simp
  | some d=>simp
theorem qs1 {F : List Fp} (h : q8z F ops = true) : q8o F ops:=by
  simp only [q8z,Bool.and_eq_true,List.all_eq_true] at h;obtain ⟨m,s⟩:=h;obtain ⟨w,v⟩:=qlj (ops:=ops) ops.toList [] [] rfl rfl qd;have d : ∀ (i : Nat) (o : Oper),ops[i]? = some o→ops.toList[i]? = some o:=fun i o l=>by rw [Array.getElem?_toList];exact l
  have main : ∀ i j a b,i < j→ops[i]? = some a→ops[j]? = some b→Behind ops b i∨((q1d (fpAt F (ops.size - (i + 1))) = false∧q1d (fpAt F (ops.size - (j + 1))) = false)∧(q8n (fpAt F (ops.size - (i + 1))) (fpAt F (ops.size - (j + 1)))∧(∀ t∈reads ops a,b.dst≠some t)∧(∀ t∈reads ops b,a.dst≠some t)∧∀ t,a.dst = some t→b.dst≠some t)):=fun i j a b c g hb=>by
    have:=s _ (qpo (d j b hb)) _ (qpo (d i a g));simp only [Bool.or_eq_true] at this;rcases this with (h | h) | h
    · have u : Nat.blt i j = true:=by rw [Nat.blt_eq];exact c
      grind
    · grind
    · right;simp only [Bool.and_eq_true,Bool.not_eq_true'] at h;obtain ⟨⟨⟨hp1,hp2⟩,h⟩,p⟩:=h;simp only [qi9,Bool.and_eq_true,List.all_eq_true,Bool.not_eq_true'] at h;obtain ⟨⟨r,n⟩,k⟩:=h;refine ⟨⟨hp1,hp2⟩,qpu p,fun t f hd=>?_,fun t f hd=>?_,fun t f hd=>?_⟩
      · have:=r t f;rw [qf5.2 hd] at this;cases this
      · have:=n t f;rw [qf5.2 hd] at this;cases this
      · rw [f] at k;simp only at k;rw [qf5.2 hd] at k;simp at k
  refine ⟨fun j o l e q hb=>?_,fun i j a b c g hb=>(main i j a b c g hb).imp id And.right,fun i j a b c g hb hp=>?_⟩
  · have:=qjn _ 0 m j o (d j o l) e q hb;omega
  grind
end
end Go.Am
namespace Go.Am
open Go
variable {P : Program}
section
variable {base : Nat} {ops : Array Oper}
theorem qfj {l : Array Bool} {i : Nat} : l.getD i false = true↔l[i]? = some true:=by
  rw [Array.getD_eq_getD_getElem?];cases l[i]? <;> simp
theorem qc3 {l : Array Bool} {i : Nat} : l.getD i true = false↔l[i]? = some false:=by
  rw [Array.getD_eq_getD_getElem?];cases l[i]? <;> simp
theorem qxj {w : World} {Z : Nat→Prop} {inj : Inj} {hp hp2 : List (Nat × Blk)} {nx : Nat} (h : RelH w Z inj hp nx) (hs : ∀ m,find hp2 m = find hp m) : RelH w Z inj hp2 nx:=by
  refine ⟨fun n b hb=>h.blk n b (by rw [← hs];exact hb),fun n m b c p q a d=>h.sep n m b c p q (by rw [← hs];exact a) (by rw [← hs];exact d),fun n b p a=>h.out n b p (by rw [← hs];exact a),h.zs,h.zc⟩
theorem qsh {w w' : World} {Z Z' : Nat→Prop} {inj inj' : Inj} {hp hp' hp2 : List (Nat × Blk)} {pin : Nat} (h : Ext w Z inj hp w' Z' inj' hp' pin) (hs : ∀ m,find hp2 m = find hp' m) : Ext w Z inj hp w' Z' inj' hp2 pin:=
  {h with imm:=fun b hb=>h.imm b (by
      obtain ⟨n,c,o,f,d,a⟩:=hb
      exact ⟨n,c,o,by rw [← hs];exact f,d,a⟩)}
abbrev fpO (F : List Fp) (ops : Array Oper) (i : Nat) : Fp:=fpAt F (ops.size - (i + 1))
def CutS (ops : Array Oper) (listed : Array Bool) (t : Tmp) (m : Nat) : Prop:=∀ (i : Nat) (o : Oper),ops[i]? = some o→o.dst = some t→(listed[i]? = some true↔i < m)
def CutB (F : List Fp) (ops : Array Oper) (listed : Array Bool) (q m : Nat) : Prop:=∀ (i : Nat) (o : Oper),ops[i]? = some o→q∈(fpO F ops i).2→(listed[i]? = some true↔i < m)
structure Mid (F : List Fp) (ops : Array Oper) (S : Nat→AS) (lo hi : Nat) (listed : Array Bool) (st : AS) : Prop where
  nx : st.nx = (S hi).nx
  sl : ∀ t m,lo≤m→m≤hi→CutS ops listed t m→st.get t = (S m).get t
  hp : ∀ q m,lo≤m→m≤hi→CutB F ops listed q m→find st.hp q = find (S m).hp q
abbrev Steps (P : Program) (F : List Fp) (ops : Array Oper) (S : Nat→AS) (lo hi : Nat) : Prop:=∀ (i : Nat) (o : Oper),lo≤i→i < hi→ops[i]? = some o→U0 P ops o (fpO F ops i) (S i) (S (i + 1))
theorem qej {F : List Fp} {S : Nat→AS} {lo hi : Nat} (b : hi≤ops.size) (c : Steps P F ops S lo hi) {t : Tmp} {j : Nat} (a : lo≤j) : ∀ m,j≤m→m≤hi→(∀ (i : Nat) (o : Oper),j≤i→i < m→ops[i]? = some o→o.dst≠some t)→(S m).get t = (S j).get t
  | 0,h,_,_=>by have : j = 0:=q0;subst this;rfl
  | m + 1,h,hm,hno=>by
    by_cases g : j = m + 1
    · subst g;rfl
    · obtain ⟨o,d⟩:=Yb (xs:=ops) (i:=m) q0
      rw [(c m o q0 q0 d).sl t (hno m o q0 q0 d)]
      exact qej b c a m q0 q0 fun i o f k=>hno i o f q0
theorem qei {F : List Fp} {S : Nat→AS} {lo hi : Nat} (b : hi≤ops.size) (c : Steps P F ops S lo hi) {q j : Nat} (a : lo≤j) : ∀ m,j≤m→m≤hi→(∀ (i : Nat) (o : Oper),j≤i→i < m→ops[i]? = some o→q ∉ (fpO F ops i).2)→find (S m).hp q = find (S j).hp q
  | 0,h,_,_=>by have : j = 0:=q0;subst this;rfl
  | m + 1,h,hm,hno=>by
    by_cases g : j = m + 1
    · subst g;rfl
    · obtain ⟨o,d⟩:=Yb (xs:=ops) (i:=m) q0
      rw [(c m o q0 q0 d).hp q (hno m o q0 q0 d)]
      exact qei b c a m q0 q0 fun i o f k=>hno i o f q0
theorem q24 {F : List Fp} {S : Nat→AS} {lo hi : Nat} (b : hi≤ops.size) (c : Steps P F ops S lo hi) {j : Nat} (a : lo≤j) : ∀ m,j≤m→m≤hi→(S j).nx≤(S m).nx
  | 0,h,_=>by have : j = 0:=q0;subst this;exact Nat.le_refl _
  | m + 1,h,hm=>by
    by_cases d : j = m + 1
    · subst d;exact Nat.le_refl _
    · obtain ⟨o,f⟩:=Yb (xs:=ops) (i:=m) q0
      exact Nat.le_trans (q24 b c a m q0 q0) (c m o q0 q0 f).nx
theorem ql8 {F : List Fp} {S : Nat→AS} {lo hi : Nat} (a : hi≤ops.size) (c : Steps P F ops S lo hi) (b : ∀ q,(S lo).nx≤q→find (S lo).hp q = none) : ∀ m,lo≤m→m≤hi→∀ q,(S m).nx≤q→find (S m).hp q = none
  | 0,hl,_,q,hq=>by have : lo = 0:=q0;subst this;exact b q hq
  | m + 1,hl,hm,q,hq=>by
    by_cases d : lo = m + 1
    · subst d;exact b q hq
    obtain ⟨o,f⟩:=Yb (xs:=ops) (i:=m) q0
    have hs:=c m o q0 q0 f
    exact hs.keys q hq (ql8 a c b m q0 q0 q (Nat.le_trans hs.nx hq))
def Keep (ops : Array Oper) (S : Nat→AS) (lo hi : Nat) (base : Nat) (w0 : World) (Z0 : Nat→Prop) (inj0 : Inj) (hp0 : List (Nat × Blk)) (a0 : Act) (Ds0 : List Nat) (listed : Array Bool) (st : AS) (a : Act) (w : World) : Prop:=
  ∃ Z inj Ds,RelS w Z inj st a Ds∧Ext w0 Z0 inj0 hp0 w Z inj st.hp base∧a.tmps.size = a0.tmps.size∧(∀ D∈Ds,D∈Ds0∨w0.heap.size≤D)∧
    ∀ (i : Nat) (o : Oper),lo≤i→i < hi→ops[i]? = some o→listed[i]?≠some true→∀ m,(S i).nx≤m→m < (S (i + 1)).nx→inj m = none
theorem qjc {l : Array Bool} {i : Nat} {n : Nat} (hi : l[i]? = some false) (b : l.toList.count false = n + 1) : (l.setIfInBounds i true).toList.count false = n:=by
  have a : i < l.toList.length:=by simpa using Zh hi
  rw [Array.toList_setIfInBounds,List.count_set a]
  have : l.toList[i] = false:=by
    have:=hi;rw [← Array.getElem?_toList,List.getElem?_eq_getElem a] at this;simpa using this
  simp [this,b]
theorem qmu {F : List Fp} (l : q8o F ops) {listed : Array Bool} (j : listed.size = ops.size) : ∀ (n i : Nat),i = n→listed[i]? = some false→Region.ready .any ops listed≠[]:=by
  intro n
  induction n using Nat.strongRecOn with
  | _ n ihn=>
    intro i f hi;subst f;obtain ⟨o,k⟩:=Yb (xs:=ops) (i:=i) (by rw [← j];exact Zh hi);by_cases a : ∀ e∈o.after,Region.binds .any e = true→listed.getD e.on false = true
    · intro c;have : i∈Region.ready .any ops listed:=mem_ready.2 ⟨qc3.2 hi,o,k,a⟩;rw [c] at this;cases this
    · simp only [Classical.not_forall] at a;obtain ⟨e,m,hb,h⟩:=a;have g:=l.edges i o k e m hb;obtain ⟨b,d⟩:=Yb (xs:=listed) (i:=e.on) (by have:=Zh hi;omega)
      cases b with
      | true=>exact absurd (qfj.2 d) h
      | false=>exact ihn e.on g e.on rfl d
theorem qi3 {listed : Array Bool} {i : Nat} {o : Oper} (f : Adm ops (fun i=>listed[i]? = some true)) (m : ops[i]? = some o) (k : listed[i]? = some false) (c : ∀ e∈o.after,Region.binds .any e = true→listed[e.on]? = some true) :
    (∀ (j : Nat),(listed.setIfInBounds i true)[j]? = some true↔(j = i∨listed[j]? = some true))∧Adm ops (fun j=>(listed.setIfInBounds i true)[j]? = some true):=by
  have a : ∀ (j : Nat),(listed.setIfInBounds i true)[j]? = some true↔(j = i∨listed[j]? = some true):=by
    intro j;by_cases d : j = i
    · subst d;simp [Zh k]
    · rw [Array.getElem?_setIfInBounds_ne (Ne.symm d)];simp [d]
  refine ⟨a,?_⟩;intro j l g b e h hb;rw [a] at g ⊢;rcases g with rfl | g
  · rw [m] at b;cases b;exact .inr (c e h hb)
  · exact .inr (f j l g b e h hb)
theorem qs3 {F : List Fp} {S : Nat→AS} {lo hi : Nat} (bh : lo≤hi) (aa : hi≤ops.size) (hD : q8o F ops) (hS : Steps P F ops S lo hi) (bd : ∀ (i j : Nat) (d : Oper),i < hi→hi≤j→ops[j]? = some d→Behind ops d i) (h0 : ∀ q,(S lo).nx≤q→find (S lo).hp q = none)
    {w0 : World} {Z0 : Nat→Prop} {inj0 : Inj} {hp0 : List (Nat × Blk)} {a0 : Act} {Ds0 : List Nat} {ro : Option Nat} {Q : Exit→Act→World→Prop} (bs : base≤(S lo).nx)
    (hd : ∀ (i : Nat) (o : Oper),ops[i]? = some o→Jd a0.tmps.size o.dst = true)
    (hQ : ∀ (fuel : Nat) (listed : Array Bool) (a' : Act) (w' : World),listed.size = ops.size→listed.toList.count false = fuel→Adm ops (fun i=>listed[i]? = some true)→(∀ (i : Nat),listed[i]? = some true↔i < hi)→
      (∃ Z inj Ds,RelS w' Z inj (S hi) a' Ds∧Ext w0 Z0 inj0 hp0 w' Z inj (S hi).hp base∧a'.tmps.size = a0.tmps.size∧base≤(S hi).nx∧(∀ D∈Ds,D∈Ds0∨w0.heap.size≤D))→Yh ro w'→wpAnyIn (Fw ro) 0 P .any ops Q fuel listed a' w') : ∀ (fuel : Nat) (listed : Array Bool) (a : Act) (w : World) (st : AS),
      listed.size = ops.size→listed.toList.count false = fuel→Adm ops (fun i=>listed[i]? = some true)→(∀ (i : Nat),i < lo→listed[i]? = some true)→(∀ (i : Nat),hi≤i→listed[i]?≠some true)→Keep ops S lo hi base w0 Z0 inj0 hp0 a0 Ds0 listed st a w→Yh ro w→Mid F ops S lo hi listed st→
      wpAnyIn (Fw ro) 0 P .any ops Q fuel listed a w:=by
  have fin : ∀ (fuel : Nat) (listed : Array Bool) (a : Act) (w : World) (st : AS),
      listed.size = ops.size→listed.toList.count false = fuel→Adm ops (fun i=>listed[i]? = some true)→(∀ (i : Nat),i < lo→listed[i]? = some true)→(∀ (i : Nat),hi≤i→listed[i]?≠some true)→Keep ops S lo hi base w0 Z0 inj0 hp0 a0 Ds0 listed st a w→Yh ro w→Mid F ops S lo hi listed st→
      (∀ (i : Nat),lo≤i→i < hi→listed[i]? = some true)→wpAnyIn (Fw ro) 0 P .any ops Q fuel listed a w:=by
    intro fuel listed a w st ad hc n u aj hp ae g ab
    have aq : ∀ (i : Nat),listed[i]? = some true↔i < hi:=fun i=>⟨fun h=>by
      rcases Nat.lt_or_ge i hi with z | z
      · exact z
      · exact absurd h (aj i z),fun h=>by
      rcases Nat.lt_or_ge i lo with z | z
      · exact u i z
      · exact ab i z h⟩
    refine hQ fuel listed a w ad hc n aq ?_ ae
    obtain ⟨Z,inj,Ds,z,h2,h3,h4,_⟩:=hp
    have bu : ∀ q,find (S hi).hp q = find st.hp q:=fun q=>(g.hp q hi bh (Nat.le_refl _) fun i o ho _=>aq i).symm
    refine ⟨Z,inj,Ds,⟨fun t v ht=>?_,?_,z.defs,z.nodup,z.marks⟩,qsh h2 bu,h3,Nat.le_trans bs (q24 aa hS (Nat.le_refl _) _ bh (Nat.le_refl _)),h4⟩
    · rw [← g.nx]
      refine z.slots t v ?_
      have:=g.sl t hi bh (Nat.le_refl _) fun i o ho _=>aq i
      exact this.trans ht
    · rw [← g.nx];exact qxj z.heap bu
  intro fuel
  induction fuel with
  | zero=>
    intro listed a w st ad hc n u aj hp ae g;refine fin 0 listed a w st ad hc n u aj hp ae g fun i _ hi=>?_;have h:=List.count_eq_zero.1 hc;obtain ⟨b,hb⟩:=Yb (xs:=listed) (i:=i) q0
    cases b with
    | true=>exact hb
    | false=>exact absurd (by simpa using Array.mem_of_getElem? hb) h
  | succ fuel ih=>
    intro listed a w st ad hc n u aj hp ae g;by_cases ab : ∀ (i : Nat),lo≤i→i < hi→listed[i]? = some true
    · exact fin _ listed a w st ad hc n u aj hp ae g ab
    have ba : ∃ k : Nat,(lo≤k∧k < hi)∧listed[k]? = some false:=by
      simp only [Classical.not_forall] at ab;obtain ⟨k,z,h2,h3⟩:=ab;obtain ⟨b,hb⟩:=Yb (xs:=listed) (i:=k) q0
      cases b with
      | true=>exact absurd hb h3
      | false=>exact ⟨k,⟨z,h2⟩,hb⟩
    obtain ⟨k0,⟨da,co⟩,bz⟩:=ba;refine ⟨fun bl=>?_,fun i cf=>?_⟩
    · exact absurd bl (qmu hD ad k0 k0 rfl bz)
    · obtain ⟨z,o,ho,bc⟩:=mem_ready.1 cf;rw [qc3] at z;have al : ∀ e∈o.after,Region.binds .any e = true→(fun i=>listed[i]? = some true) e.on:=fun e he hb=>qfj.1 (bc e he hb);have ax : ∀ j,Behind ops o j→listed[j]? = some true:=fun j hb=>hb _ n al;have x : lo≤i:=Nat.le_of_not_lt fun h=>by have:=u i h;rw [z] at this;cases this
      have ay : i < hi:=Nat.lt_of_not_le fun h=>by
        have:=ax k0 (bd k0 i o co h ho);rw [bz] at this;cases this
      have av : ∀ (j : Nat) (d : Oper),ops[j]? = some d→Behind ops d i→listed[j]?≠some true:=by
        intro j d c hb hj;have:=hb (fun i=>listed[i]? = some true) n (fun e he cc=>n j d hj c e he cc);rw [z] at this;cases this
      obtain ⟨l,be⟩:=qi3 n ho z al;have bm : (listed.setIfInBounds i true).size = ops.size:=by simp [ad]
      have cg:=qjc z hc;have cy : i < ops.size:=Zh ho;have az : listed[i]?≠some true:=by rw [z];simp
      have s : ∀ (j : Nat) (d : Oper),ops[j]? = some d→j≠i→(listed[j]? = some true↔j < i)∨(q8n (fpO F ops i) (fpO F ops j)∧(∀ t∈reads ops o,d.dst≠some t)∧∀ t,o.dst = some t→d.dst≠some t):=by
        intro j d c f;rcases Nat.lt_or_gt_of_ne f with h | h
        · rcases hD.pairs j i d o h c ho with hb | ⟨ha,h2,h3,h4⟩
          · exact .inl ⟨fun _=>h,fun _=>ax j hb⟩
          · exact .inr ⟨⟨fun m h5 h6=>ha.ww m h6 h5,ha.wr,ha.rw⟩,h3,fun t h5 h6=>h4 t h6 h5⟩
        · rcases hD.pairs i j o d h ho c with hb | ⟨ha,h2,h3,h4⟩
          · exact .inl ⟨fun p=>absurd p (av j d c hb),fun p=>q0⟩
          · exact .inr ⟨ha,h2,h4⟩
      have ao : ∀ m∈(fpO F ops i).2,find st.hp m = find (S i).hp m:=fun m hm=>by
        refine g.hp m i x q0 fun j d c ac=>?_;by_cases f : j = i
        · subst f;exact ⟨fun p=>absurd p az,fun p=>absurd p (Nat.lt_irrefl _)⟩
        · rcases s j d c f with h | ⟨ha,_⟩
          · exact h
          · exact absurd ac (ha.ww m hm)
      have cm : Uz ops o (fpO F ops i) (S i) st:=by
        refine ⟨⟨ao,?_⟩,fun t ht=>?_⟩
        · have key : ∀ m,(∀ (j : Nat) (d : Oper),ops[j]? = some d→j≠i→q8n (fpO F ops i) (fpO F ops j)→m ∉ (fpO F ops j).2)→find st.hp m = find (S i).hp m:=fun m hm=>by
            by_cases bn : m∈(fpO F ops i).2
            · exact ao m bn
            refine g.hp m i x q0 fun j d c ac=>?_;by_cases f : j = i
            · subst f;exact absurd ac bn
            · rcases s j d c f with h | ⟨ha,_⟩
              · exact h
              · exact absurd ac (hm j d c f ha)
          cases hR : (fpO F ops i).1 with
          | none=>exact fun m=>key m fun j d _ _ ha ac=>by have:=ha.rw m ac;rw [hR] at this;exact this
          | some r=>exact fun m cn=>key m fun j d _ _ ha ac=>by have:=ha.rw m ac;rw [hR] at this;exact this cn
        · refine g.sl t i x q0 fun j d c ah=>?_;by_cases f : j = i
          · subst f;exact ⟨fun p=>absurd p az,fun p=>absurd p (Nat.lt_irrefl _)⟩
          · rcases s j d c f with h | ⟨_,hr,_⟩
            · exact h
            · exact absurd ah (hr t ht)
      have af:=hS i o x ay ho;have bi : (S (i + 1)).nx≤st.nx:=by rw [g.nx];exact q24 aa hS q0 _ q0 (Nat.le_refl _)
      have bg : ∀ m,(S i).nx≤m→m < (S (i + 1)).nx→find st.hp m = none:=fun m h2 h3=>by
        rw [ao m (af.fresh m h2 h3)];exact ql8 aa hS h0 i x q0 m h2
      obtain ⟨ce,bq,bj,ch,ci,cb,cs⟩:=af.other st bi cm bg;refine qhg ho ?_;obtain ⟨Z,inj,Ds,k1,k2,k3,k4,k5⟩:=hp;have cq : base≤(S i).nx:=Nat.le_trans bs (q24 aa hS (Nat.le_refl _) _ x q0);refine bj base ro Q w Z inj a Ds _ k1 (by rw [k3];exact hd i o ho) cq (by have:=af.nx;omega) ae (k5 i o x ay ho az) fun a' w' hp'=>?_;obtain ⟨Z',inj',cr,g1,g2,g3,g4,g5⟩:=hp';refine ih _ a' w' ce bm cg be (fun j hj=>(l j).2 (.inr (u j hj))) (fun j hj p=>?_) ⟨Z',inj',cr,g1,k2.trans g2 (Nat.le_refl _),g3.trans k3,fun D hD=>?_,fun j d bk an c bv m h2 h3=>?_⟩ (ae.ext g2) ⟨bq.trans g.nx,fun t m bb hm y=>?_,fun q m bb hm y=>?_⟩
      · rcases (l j).1 p with rfl | p
        · omega
        · exact aj j hj p
      · rcases g4 D hD with h | h
        · exact k4 D h
        · exact .inr (Nat.le_trans k2.size h)
      · have f : j≠i:=by rintro rfl;exact bv ((l j).2 (.inl rfl))
        have bw : listed[j]?≠some true:=fun e=>bv ((l j).2 (.inr e))
        rw [g5 m (by
          have:=q24 aa hS (j:=j + 1) q0 hi q0 (Nat.le_refl _)
          have:=g.nx;omega) (by
          rcases Nat.lt_or_gt_of_ne f with h | h
          · left;have:=q24 aa hS (j:=j + 1) q0 i q0 q0;omega
          · right;have:=q24 aa hS (j:=i + 1) q0 j q0 q0;omega)]
        exact k5 j d bk an c bw m h2 h3
      · by_cases am : o.dst = some t
        · have cj : i < m:=(y i o ho am).1 ((l i).2 (.inl rfl));rw [ci t am];refine (qej aa hS q0 m q0 hm fun j d bk an c ah=>?_).symm;have p:=(l j).1 ((y j d c ah).2 an);rcases p with p | p
          · omega
          · rcases s j d c q0 with h | ⟨_,_,hw⟩
            · have:=h.1 p;omega
            · exact hw t am ah
        · rw [ch t am];refine g.sl t m bb hm fun j d c ah=>?_;have f : j≠i:=by rintro rfl;rw [ho] at c;cases c;exact am ah
          rw [← y j d c ah,l];simp [f]
      · by_cases hq : q∈(fpO F ops i).2
        · have cj : i < m:=(y i o ho hq).1 ((l i).2 (.inl rfl));rw [cb q hq];refine (qei aa hS q0 m q0 hm fun j d bk an c ap=>?_).symm;have p:=(l j).1 ((y j d c ap).2 an);rcases p with p | p
          · omega
          · rcases s j d c q0 with h | ⟨ha,_⟩
            · have:=h.1 p;omega
            · exact ha.ww q hq ap
        · rw [cs q hq];refine g.hp q m bb hm fun j d c ap=>?_;have f : j≠i:=by rintro rfl;exact hq ap
          rw [← y j d c ap,l];simp [f]
theorem qxl {w : World} {Z : Nat→Prop} {inj : Inj} {st : AS} {a : Act} {Ds : List Nat} {N : Nat} (h : RelS w Z inj st a Ds) (l : st.nx≤N) : RelS w Z (fun m=>if m < st.nx then inj m else none) {st with nx:=N} a Ds:=by
  have hi : ∀ n,n < st.nx→(fun m=>if m < st.nx then inj m else none) n = inj n:=fun n u=>by simp [u]
  have g : J1 w w:=fun _ c e f h=>⟨c,e,f,h,rfl⟩
  refine ⟨h.slots.mono (fun _ _=>rfl) (fun _ h=>h) g hi l,⟨fun n b hb=>?_,fun n m b c p q d k j v s o=>?_,fun n b p d k j=>?_,h.heap.zs,h.heap.zc⟩,h.defs,h.nodup,h.marks⟩
  · obtain ⟨r,t⟩:=h.heap.blk n b hb;exact ⟨Nat.lt_of_lt_of_le r l,t.mono (fun _ _=>rfl) (fun _ h=>h) g hi l r (fun _ _ _=>rfl)⟩
  · rw [qr (h.heap.blk n b d).1] at s;rw [qr (h.heap.blk m c k).1] at o;exact h.heap.sep n m b c p q d k j v s o
  · rw [qr (h.heap.blk n b d).1] at j;exact h.heap.out n b p d k j
theorem qr7 {w0 : World} {Z0 : Nat→Prop} {inj0 : Inj} {d : AS} {g : Act} {Ds0 : List Nat} {l : List Oper} {st st' : AS} (h : Zo P base ops l st st') : l = []→∀ a w,Kv base w0 Z0 inj0 d g Ds0 st a w→Kv base w0 Z0 inj0 d g Ds0 st' a w:=by
  induction h with
  | nil=>exact fun _ a w hp=>hp
  | cons _ _ _=>intro h;cases h
  | wk hw _ ih=>
    intro n a w hp;refine ih n a w ?_;obtain ⟨Z',inj',f,m,k,j,p,o⟩:=hp;obtain ⟨c,b⟩:=q2n m hw;exact ⟨_,_,f,c,k.trans b (Nat.le_refl _),j,hw.bs,o⟩
theorem qr6 {w0 : World} {Z0 : Nat→Prop} {inj0 : Inj} {k : AS} {n : Act} {Ds0 : List Nat} {ro : Option Nat} {Q : Exit→Act→World→Prop} {K : Act→World→Prop} {l : List Oper} {st st' : AS} (h : Zo P base ops l st st') : ∀ o,l = [o]→Jd n.tmps.size o.dst = true→∀ a w,Kv base w0 Z0 inj0 k n Ds0 st a w→Yh ro w→
    (∀ a' w',Kv base w0 Z0 inj0 k n Ds0 st' a' w'→Yh ro w'→K a' w')→Uy P (Fw ro) ops Q o K a w:=by
  induction h with
  | nil=>intro o h;cases h
  | cons hs hl _=>
    intro o h hd a w hp c p;simp only [List.cons.injEq] at h;obtain ⟨rfl,rfl⟩:=h;refine hp.bind fun Z' inj' j b g d _ f=>?_;exact hs ro Q w Z' inj' a j _ b (by rw [g];exact hd) d c fun a' w' hp'=>p a' w' (qr7 hl rfl _ _ (f _ _ _ hp')) (by obtain ⟨_,_,_,_,t,_⟩:=hp';exact c.ext t)
  | wk hw _ ih=>
    intro o h hd a w hp c p;refine ih o h hd a w ?_ c p;obtain ⟨Z',inj',j,s,r,q,v,u⟩:=hp;obtain ⟨b,m⟩:=q2n s hw;exact ⟨_,_,j,b,r.trans m (Nat.le_refl _),q,hw.bs,u⟩
theorem qq6 {o p : Oper} {i j : Nat} (d : Behind ops o i) (hp : ops[i]? = some p) (c : Behind ops p j) : Behind ops o j:=fun S a f=>c S a fun e b hb=>a i p (d S a f) hp e b hb
theorem qs2 {F : List Fp} (hD : q8o F ops) {w0 : World} {Z0 : Nat→Prop} {inj0 : Inj} {x : AS} {a0 : Act} {Ds0 : List Nat} {ro : Option Nat} {Q : Exit→Act→World→Prop} (hd : ∀ (i : Nat) (o : Oper),ops[i]? = some o→Jd a0.tmps.size o.dst = true) :
    ∀ (n : Nat) (l : List Oper) (lo : Nat) (st st' : AS),l.length = n→ops.toList.drop lo = l→lo≤ops.size→Jx P base ops F l st st'→(∀ a' w',Kv base w0 Z0 inj0 x a0 Ds0 st' a' w'→Q .normal a' w')→∀ (fuel : Nat) (listed : Array Bool) (a : Act) (w : World),
      listed.size = ops.size→listed.toList.count false = fuel→Adm ops (fun i=>listed[i]? = some true)→(∀ (i : Nat),listed[i]? = some true↔i < lo)→Kv base w0 Z0 inj0 x a0 Ds0 st a w→Yh ro w→wpAnyIn (Fw ro) 0 P .any ops Q fuel listed a w:=by
  intro n
  induction n using Nat.strongRecOn with
  | _ n ihn=>
  intro l lo st st' cr aq cd hc hQ fuel listed a w bk bo au aj hp bl;obtain ⟨k,S,hk,e0,hS,ak⟩:=qir hc;have bw : l.length + lo = ops.size:=by rw [← aq];simp;omega
  have ac : ∀ (i : Nat),l[i]? = ops[lo + i]?:=fun i=>by rw [← aq,List.getElem?_drop,Array.getElem?_toList]
  subst e0
  have v : Steps P F ops (fun i=>S (i - lo)) lo (lo + k):=fun i o u h2 ho=>by
    have:=hS (i - lo) o q0 (by rw [ac,show lo + (i - lo) = i by omega];exact ho);rw [show l.length - (i - lo + 1) = ops.size - (i + 1) by omega] at this;show U0 P ops o (fpO F ops i) (S (i - lo)) (S (i + 1 - lo));rw [show i + 1 - lo = i - lo + 1 by omega];exact this
  have ao : ∀ (i j : Nat) (oj : Oper),i < lo + k→lo + k≤j→ops[j]? = some oj→Behind ops oj i:=fun i j oj hi hj ag=>by
    rcases ak with ⟨u,_⟩ | ⟨o,st1,u,h2,_,_⟩
    · have:=Zh ag;omega
    · rw [ac] at u;rw [show l.length - (k + 1) = ops.size - (lo + k + 1) by omega] at h2;have bm : i < ops.size:=by have:=Zh u;omega
      obtain ⟨oi,ad⟩:=Yb (xs:=ops) (i:=i) bm;have hb:=hD.pivs i (lo + k) oi o hi ad u (.inr h2);by_cases bq : j = lo + k
      · subst bq;rw [u] at ag;cases ag;exact hb
      · exact qq6 (hD.pivs (lo + k) j o oj q0 u ag (.inl h2)) u hb
  obtain ⟨Z,inj,Ds,u,h2,h3,h4,h5⟩:=hp
  have hN : (S 0).nx≤(S k).nx:=by
    have:=q24 q0 v (Nat.le_refl _) (lo + k) q0 (Nat.le_refl _);simpa using this
  have h0 : ∀ q,(S 0).nx≤q→find (S 0).hp q = none:=fun q hq=>by
    cases hf : find (S 0).hp q with
    | none=>rfl
    | some b=>have:=(u.heap.blk q b hf).1;omega
  have ay : Ext w0 Z0 inj0 x.hp w Z (fun m=>if m < (S 0).nx then inj m else none) (S 0).hp base:=by
    refine {h2 with imm:=fun b bj=>h2.imm b ?_,pinj:=fun n hn=>(qr (show n < (S 0).nx by omega)).trans (h2.pinj n hn)};obtain ⟨n,c,o,s,g2,g3⟩:=bj;refine ⟨n,c,o,s,g2,?_⟩;have:=(u.heap.blk n c s).1;simpa [this] using g3
  have al : ∀ (i : Nat),lo≤i→listed[i]?≠some true:=fun i hi h=>by have:=(aj i).1 h;omega
  refine qs3 (lo:=lo) (hi:=lo + k) (S:=fun i=>S (i - lo)) (hp0:=x.hp) (Ds0:=Ds0) q0 q0 hD v ao (by simpa using h0) (by simpa using h4) hd ?_ fuel listed a w {S 0 with nx:=(S k).nx} bk bo au (fun i hi=>(aj i).2 hi) (fun i hi=>al i q0) ⟨Z,_,Ds,qxl u hN,ay,h3,h5,fun i o af ap ho _ m g2 g3=>?_⟩ bl ⟨qd,fun t m an hm ae=>?_,fun q m an hm ae=>?_⟩
  · intro r d a' w' y ab aa f hp' av
    have hp' : Kv base w0 Z0 inj0 x a0 Ds0 (S k) a' w':=by
      obtain ⟨Z',inj',br,s,g2,g3,g4,g5⟩:=hp';simp only [Nat.add_sub_cancel_left] at s g2 g4;exact ⟨Z',inj',br,s,g2,g3,g4,g5⟩
    rcases ak with ⟨e1,e2⟩ | ⟨o,st1,e1,e2,e3,e4⟩
    ·
      subst e2
      have hz : r = 0:=by
        rw [← ab,List.count_eq_zero];intro hm;obtain ⟨i,hi⟩:=List.getElem?_of_mem hm;have ap : d[i]? = some false:=by simpa using hi
        have:=(f i).2 (by have:=Zh ap;omega);rw [ap] at this;cases this
      subst hz;refine ⟨?_,hQ _ _ hp'⟩;rw [List.eq_nil_iff_forall_not_mem];intro j hj;obtain ⟨s,o,ho,_⟩:=mem_ready.1 hj;rw [qc3,(f j).2 (by have:=Zh ho;omega)] at s;cases s
    ·
      have p : ops[lo + k]? = some o:=by rw [← ac];exact e1
      rw [show l.length - (k + 1) = ops.size - (lo + k + 1) by omega] at e2
      have g : d[lo + k]? = some false:=by
        obtain ⟨b,hb⟩:=Yb (xs:=d) (i:=lo + k) (by rw [y];exact Zh p)
        cases b with
        | true=>have:=(f _).1 hb;omega
        | false=>exact hb
      cases r with
      | zero=>
        have:=List.count_eq_zero.1 ab;exact absurd (by simpa using Array.mem_of_getElem? g) this
      | succ r=>
        refine ⟨fun ax=>absurd ax (qmu hD y _ _ rfl g),fun i hi=>?_⟩;obtain ⟨s,oi,ad,bb⟩:=mem_ready.1 hi;rw [qc3] at s;have z : ∀ e∈oi.after,Region.binds .any e = true→d[e.on]? = some true:=fun e he hb=>qfj.1 (bb e he hb)
        have bn : i = lo + k:=by
          rcases Nat.lt_trichotomy i (lo + k) with h | h | h
          · have:=(f i).2 h;rw [s] at this;cases this
          · exact h
          · have:=hD.pivs (lo + k) i o oi h p ad (.inl e2) _ aa z;rw [g] at this;cases this
        subst bn;rw [p] at ad;cases ad;obtain ⟨az,am⟩:=qi3 aa p s z;refine qhg p ?_;refine qr6 e3 o rfl (hd _ _ p) a' w' hp' av fun a2 w2 hp2 aw=>?_;refine ihn (l.drop (k + 1)).length (by have:=Zh p;simp;omega) _ (lo + k + 1) st1 st' rfl (by rw [← aq,List.drop_drop,Nat.add_assoc]) (Zh p) e4 hQ _ _ a2 w2 (by simp [y]) (qjc s ab) am (fun j=>?_) hp2 aw;rw [az,f];omega
  · have this : (S 0).nx≤(S (i - lo)).nx:=by simpa using q24 q0 v (Nat.le_refl lo) i af q0
    have cc : (S (i - lo)).nx≤m:=g2;exact qq q0
  · have:=qej q0 v (t:=t) (Nat.le_refl lo) m an hm fun i o af hi ho bi=>al i af ((ae i o ho bi).2 hi);simp at this ⊢;exact this.symm
  · have:=qei q0 v (q:=q) (Nat.le_refl lo) m an hm fun i o af hi ho bp=>al i af ((ae i o ho bp).2 hi);simp at this ⊢;exact this.symm
theorem qxg {F : List Fp} {id : Nat} {w : World} {Z : Nat→Prop} {inj : Inj} {st st' : AS} {a : Act} {Ds : List Nat} {ro : Option Nat} {Q : Exit→Act→World→Prop} (s : P.follows .mixedOrders = true) (n : q8o F ops) (u : Jx P base ops F ops.toList st st')
    (h : RelS w Z inj st a Ds) (d : codeOk a.tmps.size (.region id ops true) = true) (hb : base≤st.nx) (m : Yh ro w) (r : ∀ a' w',Kv base w Z inj st a Ds st' a' w'→Q .normal a' w') : (Code.region id ops true).wpIn (Fw ro) 0 P Q a w:=by
  refine wpIn_region_any s ?_;have hs : RelS {w with drawn:=w.drawn + 1} Z inj st a Ds:=⟨h.slots.mono (fun _ _=>rfl) (fun _ h=>h) (fun b c e f hb=>⟨c,e,f,hb,rfl⟩) (fun _ _=>rfl) (Nat.le_refl _),h.heap.same rfl,h.defs,h.nodup,h.marks⟩
  have g : ∀ (i : Nat) (o : Oper),ops[i]? = some o→Jd a.tmps.size o.dst = true:=by
    intro i o q;simp only [codeOk,List.all_eq_true] at d;exact d o (by simpa using Array.mem_of_getElem? q)
  have k : ∀ (i : Nat),(Array.replicate ops.size false)[i]?≠some true:=by
    intro i hi;rw [Array.getElem?_replicate] at hi;split at hi <;> simp at hi
  exact qs2 n g ops.toList.length ops.toList 0 st st' rfl qd (Nat.zero_le _) u r ops.size _ a _ qd qd (fun j o t _=>absurd t (k j)) (fun i=>⟨fun hi=>absurd hi (k i),fun hi=>q0⟩) ⟨Z,inj,Ds,hs,.same rfl rfl rfl rfl,rfl,hb,fun _ h=>.inl h⟩ (fun l p=>m l p)
end
end Go.Am
namespace Go.Am
open Go
variable {P : Program} {T : Tab}
section
variable {w w' : World} {Z Z' : Nat→Prop} {inj inj' : Inj} {hp hp' : List (Nat × Blk)} {nx nx' pin : Nat}
theorem RelH.grow (h : RelH w Z inj hp nx) (d : ∀ b,b < w.heap.size→w'.heap[b]? = w.heap[b]?) : RelH w' Z inj hp nx:=by
  have hb : J1 w w':=fun b c e f k=>⟨c,e,f,(d b (Jb k)).trans k,rfl⟩
  refine ⟨fun n b l=>?_,h.sep,h.out,?_,?_⟩
  · obtain ⟨j,o⟩:=h.blk n b l;exact ⟨j,o.mono (fun b a=>d b (h.zs b a)) (fun _ h=>h) hb (fun _ _=>rfl) (Nat.le_refl _) j fun p hp m=>d _ (h.im_lt ⟨n,b,p.2,l,m,hp⟩)⟩
  · intro b a;obtain ⟨c,e,f,g⟩:=h.zc b a;have:=d b (h.zs b a);exact Jb (this.trans g)
  · intro b a;obtain ⟨c,e,f,g⟩:=h.zc b a;exact ⟨c,e,f,(d b (h.zs b a)).trans g⟩
theorem Ext.alloc (o : Obj) (a : Unfr o:=by first | exact rfl | exact trivial) : Ext w Z inj hp (w.alloc o) Z inj hp pin:=
  ⟨qd,fun b hb _=>J3 w o hb,fun _ h=>.inl h,q35 w o,ql5 w o,fun _ h=>h,fun _ h=>.inl h,fun _ _=>rfl,rfl,rfl,rfl,qkh w a⟩
theorem qn4 (h : RelH w Z inj hp nx) {n : Nat} {b0 blk : Blk} (s : find hp n = some b0) (z : live b0 = true) {b off : Nat} (hi : inj n = some (b,off)) {r v : Loop} (hb : w.heap[b]? = some (.loop r)) (hd : v.defers = r.defers)
    (ab : RelB (w.putObj b (.loop v)) Z inj nx n blk) (ag : live blk = true→True) : RelH (w.putObj b (.loop v)) Z inj (repl hp n blk) nx∧Ext w Z inj hp (w.putObj b (.loop v)) Z inj (repl hp n blk) pin:=by
  have a : ∀ k,k≠b→(w.putObj b (.loop v)).heap[k]? = w.heap[k]?:=fun k g=>World.putObj_heap_other g
  have al : ¬ Z b:=fun hz=>by
    obtain ⟨c,e,f,hc⟩:=h.zc b hz;rw [hb] at hc;cases hc
  have j : J1 w (w.putObj b (.loop v)):=fun k c e f g=>by
    by_cases j : k = b
    · subst j;rw [hb] at g;cases g
    · exact ⟨c,e,f,(a k j).trans g,rfl⟩
  have hz : ∀ k,Z k→(w.putObj b (.loop v)).heap[k]? = w.heap[k]?:=fun k g=>a k (fun e=>al (e ▸ g))
  have d : ∀ m c,find (repl hp n blk) m = some c→(m = n∧c = blk)∨(m≠n∧find hp m = some c):=by
    intro m c t;rw [Z7] at t;split at t
    · rename_i e;subst e;rw [s] at t;simp at t;exact .inl ⟨rfl,t.symm⟩
    · rename_i e;exact .inr ⟨fun h=>e h.symm,t⟩
  have ac : ∀ k,im (repl hp n blk) inj k→im hp inj k:=by
    rintro k ⟨m,c,o,h1,h2,u⟩;rcases d m c h1 with ⟨rfl,rfl⟩ | ⟨_,y⟩
    · exact ⟨m,b0,o,s,z,u⟩
    · exact ⟨m,c,o,y,h2,u⟩
  refine ⟨⟨?_,?_,?_,?_,?_⟩,⟨qd,?_,fun k g=>.inl (ac k g),j,?_,fun _ h=>h,fun _ h=>.inl h,fun _ _=>rfl,rfl,rfl,rfl,qfi (fun _ _ _=>by rw [hb];simp) (fun _ _ _=>qd)⟩⟩
  · intro m c t;rcases d m c t with ⟨rfl,rfl⟩ | ⟨l,y⟩
    · exact ⟨(h.blk _ _ s).1,ab⟩
    · obtain ⟨h5,h6⟩:=h.blk m c y;exact ⟨h5,h6.mono hz (fun _ h=>h) j (fun _ _=>rfl) (Nat.le_refl _) h5 fun p hp ag=>a _ fun e=>h.sep m n c b0 p (b,off) y s ag z hp hi l e⟩
  · intro m m' c c' p q h1 h2 u y h5 h6 l;rcases d m c h1 with ⟨rfl,rfl⟩ | ⟨e1,k1⟩ <;> rcases d m' c' h2 with ⟨rfl,rfl⟩ | ⟨e2,k2⟩
    · exact absurd rfl l
    · exact h.sep _ _ _ _ p q s k2 z y h5 h6 l
    · exact h.sep _ _ _ _ p q k1 s u z h5 h6 l
    · exact h.sep _ _ _ _ p q k1 k2 u y h5 h6 l
  · intro m c p h1 h2 u;rcases d m c h1 with ⟨rfl,rfl⟩ | ⟨e1,k1⟩
    · exact h.out _ _ p s z u
    · exact h.out _ _ p k1 h2 u
  · intro k g;simpa using h.zs k g
  · intro k g;obtain ⟨c,e,f,hc⟩:=h.zc k g;exact ⟨c,e,f,(hz k g).trans hc⟩
  · intro k _ g;exact a k fun e=>g ⟨n,b0,off,s,z,e ▸ hi⟩
  · intro k x g;by_cases j : k = b
    · subst j;rw [hb] at g;cases g;exact ⟨v,World.putObj_heap_same (Jb hb),hd⟩
    · exact ⟨x,(a k j).trans g,rfl⟩
theorem qgw (h : RelH w Z inj hp nx) {n : Nat} {s : List (Nat × V)} {l : List Tmp} {as d : Code} {v ls' : LoopState} {pe pe' : Option Code} (t : find hp n = some (.loop s l as d v pe)) : ∃ b r,inj n = some (b,0)∧w.heap[b]? = some (.loop r)∧
    r.state = v∧r.pending = pe∧r.params = l.toArray∧r.assign = as∧r.body = d∧(codeOk r.tmps.size as = true∧codeOk r.tmps.size d = true∧∀ p∈l,p < r.tmps.size)∧Yu w Z inj nx s r.tmps∧
    RelH (w.putObj b (.loop {r with state:=ls',pending:=pe'})) Z inj (repl hp n (.loop s l as d ls' pe')) nx∧Ext w Z inj hp (w.putObj b (.loop {r with state:=ls',pending:=pe'})) Z inj (repl hp n (.loop s l as d ls' pe')) pin:=by
  obtain ⟨z,b,tmps,D,fn,m,a,q,u⟩:=h.blk n _ t;refine ⟨b,_,m,a,rfl,rfl,rfl,rfl,rfl,q,u,?_⟩;refine qn4 h t rfl m a rfl ?_ (fun _=>trivial);refine ⟨b,tmps,D,fn,m,World.putObj_heap_same (Jb a),q,?_⟩
  have o : ¬ Z b:=fun y=>by
    obtain ⟨c,e,f,x⟩:=h.zc b y;rw [a] at x;cases x
  refine u.mono (fun k j=>World.putObj_heap_other (fun e=>o (e ▸ j))) (fun _ h=>h) ?_ (fun _ _=>rfl) (Nat.le_refl _);intro k c e f j;by_cases g : k = b
  · subst g;rw [a] at j;cases j
  · exact ⟨c,e,f,(World.putObj_heap_other g).trans j,rfl⟩
theorem qxk (h : RelH w Z inj hp nx) {n : Nat} {s : List (Nat × V)} {l : List Tmp} {as m : Code} {g : LoopState} {pe : Option Code} (f : find hp n = some (.loop s l as m g pe)) : ∃ b r,inj n = some (b,0)∧w.heap[b]? = some (.loop r)∧
    r.state = g∧r.pending = pe∧∀ a : Loop,a.defers = r.defers→RelH (w.putObj b (.loop a)) Z inj (repl hp n .dead) nx∧Ext w Z inj hp (w.putObj b (.loop a)) Z inj (repl hp n .dead) pin:=by
  obtain ⟨k,b,tmps,D,fn,d,c,o,p⟩:=h.blk n _ f;exact ⟨b,_,d,c,rfl,rfl,fun a j=>qn4 h f rfl d c j trivial (fun _=>trivial)⟩
theorem qk2 : ∀ (b : List V) (k t : Nat) (v : V),find (Y7 k b) t = some v→k≤t∧b[t - k]? = some v
  | [],k,t,v,h=>by simp [Y7,find] at h
  | x::r,k,t,v,h=>by
    simp only [Y7,Ku] at h
    split at h
    · rename_i e;subst e;cases h;simp
    · rename_i e
      obtain ⟨d,a⟩:=qk2 r (k + 1) t v h
      refine ⟨q0,?_⟩
      obtain ⟨m,c⟩ : ∃ m,t - k = m + 1:=⟨t - k - 1,q0⟩
      have : t - (k + 1) = m:=by omega
      rw [this] at a
      rw [c];simpa using a
theorem qxn {c : List V} {xs : Array Value} (n : Nat) (h : LRel w Z inj nx c xs) : Yu w Z inj nx (Y7 0 c) (xs ++ Array.replicate (n - xs.size) undef):=by
  intro t v f;obtain ⟨_,b⟩:=qk2 c 0 t v f;simp at b;have a : t < xs.size:=by rw [← h.1];exact Kc b
  obtain ⟨x,d⟩:=Yb a;exact ⟨x,by rw [Array.getElem?_append_left a];exact d,h.2 t v x b d⟩
theorem qn6 : ∀ (f : List Tmp) (g : List V) (xs : List Value) (s : List (Nat × V)) (tmps : Array Value),g.length = xs.length→(∀ (i : Nat) (d : V) (c : Value),g[i]? = some d→xs[i]? = some c→RelV w Z inj nx d c)→(∀ p∈f,p < tmps.size)→
    Yu w Z inj nx s tmps→Yu w Z inj nx (q2a s f g) ((f.zip xs).foldl (fun tmps (x : Tmp × Value)=>tmps.setIfInBounds x.1 x.2) tmps)∧((f.zip xs).foldl (fun tmps (x : Tmp × Value)=>tmps.setIfInBounds x.1 x.2) tmps).size = tmps.size
  | [],g,xs,s,tmps,hl,hr,hp,h=>by simpa [q2a] using h
  | p::f,[],[],s,tmps,hl,hr,hp,h=>by simpa [q2a] using h
  | p::f,v::g,x::xs,s,tmps,hl,hr,hp,h=>by
    have l:=hr 0 v x rfl rfl
    have j:=h.put l (hp p qd)
    obtain ⟨a,b⟩:=qn6 f g xs _ _ (by simpa using hl) (fun i d c hd m=>hr (i + 1) d c (by simpa using hd) (by simpa using m)) (fun q k=>by simpa using hp q (by simp [k])) j
    refine ⟨by simpa [q2a] using a,by simpa using b⟩
  | p::f,[],x::xs,s,tmps,hl,hr,hp,h=>by simp at hl
  | p::f,v::g,[],s,tmps,hl,hr,hp,h=>by simp at hl
theorem qla {fn : Func} {st : AS} {v : V} (hT : Z5 P T) {w0 : World} {Z0 : Nat→Prop} {inj0 : Inj} {hp0 : List (Nat × Blk)} {R : Ending→World→Prop} (l : resV T st fn.results.toList = some v)
    (hR : ∀ x w' Z' inj',RelH w' Z' inj' st.hp st.nx→Ext w0 Z0 inj0 hp0 w' Z' inj' st.hp pin→RelV w' Z' inj' st.nx v x→R (.returned x) w') : ∀ (Ds : List Nat) (w : World) (Z : Nat→Prop) (inj : Inj) (a : Act),
      Yu w Z inj st.nx st.sl a.tmps→RelH w Z inj st.hp st.nx→Ext w0 Z0 inj0 hp0 w Z inj st.hp pin→Ds.Nodup→(∀ D∈Ds,w.heap[D]? = some (.deferred (some []))∧w0.heap.size≤D)→
      LeavesInM (Fw none) 0 P fn a.tmps R (Ds.map fun D=>{target:=.collected D,args:=#[]}) .returning w
  | [],w,Z,inj,a,hs,hh,he,_,_=>by
    obtain ⟨x,hx,hv⟩:=qxu (a:=a) hT hh hs l
    exact ⟨x,hx,hR x w Z inj hh he hv⟩
  | D::Ds,w,Z,inj,a,hs,hh,he,hnd,hm=>by
    obtain ⟨s,ak⟩:=hm D qd
    have m:=List.nodup_cons.1 hnd
    refine ⟨qd,.inl ⟨D,_,rfl,run_takeDeferred s,?_⟩⟩
    have d : ∀ k,k≠D→(w.putObj D (.deferred none)).heap[k]? = w.heap[k]?:=fun k g=>World.putObj_heap_other g
    have ac : ¬ Z D:=fun u=>by obtain ⟨c,e,f,hc⟩:=hh.zc D u;rw [s] at hc;cases hc
    have t : ¬ im st.hp inj D:=fun hi=>by rcases hh.im_obj hi with ⟨_,_,e⟩ | ⟨_,e⟩ | ⟨_,_,e⟩ <;> rw [s] at e <;> cases e
    have u : ∀ k,Z k→(w.putObj D (.deferred none)).heap[k]? = w.heap[k]?:=fun k g=>d k fun e=>ac (e ▸ g)
    have o : J1 w (w.putObj D (.deferred none)):=fun k c e f g=>by
      by_cases y : k = D
      · subst y;rw [s] at g;cases g
      · exact ⟨c,e,f,(d k y).trans g,rfl⟩
    refine qla hT l hR Ds _ Z inj a (hs.mono u (fun _ h=>h) o (fun _ _=>rfl) (Nat.le_refl _)) ⟨?_,hh.sep,hh.out,fun k g=>by simpa using hh.zs k g,?_⟩ ?_ m.2 ?_
    · intro n b hn
      obtain ⟨j,z⟩:=hh.blk n b hn
      exact ⟨j,z.mono u (fun _ h=>h) o (fun _ _=>rfl) (Nat.le_refl _) j fun p hp hl=>d _ fun e=>t ⟨n,b,p.2,hn,hl,by rw [← e];exact hp⟩⟩
    · intro k g
      obtain ⟨c,e,f,hc⟩:=hh.zc k g
      exact ⟨c,e,f,(u k g).trans hc⟩
    · refine ⟨by simpa using he.size,fun b hb hi=>(d b q0).trans (he.keep b hb hi),he.imm,?_,?_,he.zin,he.zout,he.pinj,he.tape,he.os,he.output,fun x=>(qfi (fun _ _ _=>by rw [s];simp) (fun _ _ _=>qd) x).trans (he.frz x)⟩
      · intro b c e f hb
        obtain ⟨c1,e1,f1,j,s1⟩:=he.big b c e f hb
        obtain ⟨c2,e2,f2,z,s2⟩:=o b c1 e1 f1 j
        exact ⟨c2,e2,f2,z,s2.trans s1⟩
      · intro b r hb
        obtain ⟨r1,j,s1⟩:=he.loops b r hb
        exact ⟨r1,(d b (by have:=Jb hb;omega)).trans j,s1⟩
    · intro D' q
      obtain ⟨j,z⟩:=hm D' (by simp [q])
      exact ⟨(d D' (fun e=>m.1 (e ▸ q))).trans j,z⟩
end
end Go.Am
