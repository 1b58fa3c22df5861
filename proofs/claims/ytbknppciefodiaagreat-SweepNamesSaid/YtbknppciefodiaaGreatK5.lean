/- Am23 Am24 Am25 -/
import Derived.Test.YtbknppciefodiaaGreatK4
namespace Go.Am
open Go
variable {P : Program} {T : Tab}
section
variable {base : Nat} {w : World} {Z : Nat→Prop} {inj : Inj} {st st1 st2 : AS} {a : Act} {Ds : List Nat} {ops : Array Oper} {o : Oper}
structure Uf (ops : Array Oper) (o : Oper) (x : Fp) (st st2 : AS) : Prop where
  blk : qc9 x st st2
  sl : ∀ t∈reads ops o,st2.get t = st.get t
theorem Uf.ev {x : Fp} (h : Uf ops o x st st2) {y : Operand} (a : y∈o.op.operands) : st2.ev y = st.ev y:=by
  cases y with
  | tmp t=>exact h.sl t (List.mem_append_left _ (by unfold slotsOf;rw [List.mem_filterMap];exact ⟨.tmp t,by simpa using a,rfl⟩))
  | const v=>rfl
  | func f=>rfl
  | global g=>rfl
theorem Uf.guard {x : Fp} (h : Uf ops o x st st2) : Qp ops st2 o = Qp ops st o:=by
  have hs:=h.sl;unfold reads at hs;unfold Qp;grind
theorem Uf.callee {x : Fp} (h : Uf ops o x st st2) {c : Call} (d : o.op = .call c) : callee st2 c = callee st c:=by
  obtain ⟨a,args,argTypes⟩:=c;unfold Am.callee
  cases a with
  | builtin b=>rfl
  | invoke r n=>rfl
  | value f=>
    simp only;rw [h.ev (y:=f) (by rw [d];simp [Op.operands,Call.operands]),q7h (fun x g=>h.ev (y:=x) (by rw [d];simp [Op.operands,Call.operands];exact .inr (by simpa using g)))]
theorem Z4 {st : AS} {d : Option Tmp} {v : V} {t : Tmp} : (st.putD d v).get t = if d = some t then some v else st.get t:=by
  cases d with
  | none=>simp [AS.putD]
  | some d=>simp only [AS.putD,AS.put,AS.get,Ks,Option.some.injEq]
theorem qfo {w : World} {Z : Nat→Prop} {inj : Inj} {nx : Nat} {fz : List Nat} {b : AS} {v : V} {x : Value} (h : RelV w Z inj nx v x) : Wv b (fun n=>n) fz [] nx v v:=by
  induction h with
  | d h=>exact .d (.refl _)
  | @agg ds cs hl _ ih=>
    exact .agg rfl fun i c d a hd=>by
      rw [a] at hd;cases hd;obtain ⟨y,g⟩:=Ya (xs:=cs) (i:=i) (by rw [← hl];exact Ke a);grind
  | @tup ds cs hl _ ih=>
    exact .tup rfl fun i c d a hd=>by
      rw [a] at hd;cases hd;obtain ⟨y,g⟩:=Ya (xs:=cs) (i:=i) (by rw [← hl];exact Ke a);grind
  | @fn f ds cs hl _ ih=>
    exact .fn rfl fun i c d a hd=>by
      rw [a] at hd;cases hd;obtain ⟨y,g⟩:=Ya (xs:=cs) (i:=i) (by rw [← hl];exact Ke a);grind
  | ref h1 h2=>exact .ref rfl qe h1
  | @dref cs j _ _ _ _ _=>exact .dref cs j
  | hsnil h1=>exact .hs rfl qe h1
  | hs h1 _ _ _=>exact .hs rfl qe h1
  | yld h1 _=>exact .yld rfl qe h1
  | mp h1 _=>exact .mp rfl qe h1
  | dead v=>exact .dead _
theorem q10m {w : World} {Z : Nat→Prop} {inj : Inj} {nx n : Nat} {fz : List Nat} {a : AS} {b : Blk} (h : RelB w Z inj nx n b) : Wb a (fun n=>n) fz [] nx b b:=by
  cases b with
  | dead=>exact .dead _
  | dat es xs=>exact .dat _ _
  | mp es=>exact .mp _
  | cel es xs=>
    obtain ⟨_,_,z⟩:=h;refine .cel rfl fun i x y f m=>?_;rw [f] at m;cases m;refine ⟨rfl,fun j c d k hd=>?_⟩;rw [k] at hd;cases hd;rcases z with ⟨rfl,_⟩ | ⟨b,o,arr,ty,_,_,v⟩
    · simp at f
    · obtain ⟨u,c',_,p⟩:=v i x j c f k;exact ⟨qfo p,u⟩
  | loop s ps assign body dn pe=>
    obtain ⟨b,tmps,D,fn,_,_,_,q⟩:=h;refine .loop fun t g l=>?_;obtain ⟨x,_,r⟩:=q t g l;exact ⟨g,l,qfo r⟩
theorem qi0 {w' : World} {Z' : Nat→Prop} {inj' : Inj} {a' : Act} {o : List Nat} {dst : Option Tmp} {n es : Nat} {xs : List (List DV)} {hp2 : List (Nat × Blk)} (z : RelS w' Z' inj' (st1.putD dst (.hs n es 0 xs.length)) a' o) (w : st1.hp = (n,.dat es xs)::hp2) (hf : find hp2 n = none) (hn : base≤n) (h4 : base≤st1.nx) :
    Wk base (fun n=>n) [n] [] (st1.putD dst (.hs n es 0 xs.length)) (({sl:=st1.sl,hp:=hp2,nx:=st1.nx} : AS).putD dst (.d (.sl es xs))):=by
  have f : (({sl:=st1.sl,hp:=hp2,nx:=st1.nx} : AS).putD dst (.d (.sl es xs))).nx = st1.nx:=Yl _ _ _;have p : (({sl:=st1.sl,hp:=hp2,nx:=st1.nx} : AS).putD dst (.d (.sl es xs))).hp = hp2:=Yk _ _ _
  have g : ∀ m b,find hp2 m = some b→m≠n∧find (st1.putD dst (.hs n es 0 xs.length)).hp m = some b:=by
    intro m b a;have c : m≠n:=by rintro rfl;rw [hf] at a;cases a
    refine ⟨c,?_⟩;rw [Yk,w,Ks,ql (by intro e;exact c e.symm)];exact a
  refine ⟨?_,?_,?_,?_,fun _ _=>rfl,by rw [f];exact h4,fun m a=>by simp at a;omega,fun m a=>by cases a⟩
  · intro t r j;rw [f];rw [Z4] at j;by_cases l : dst = some t
    · rw [qm l] at j;cases j;refine ⟨_,by rw [Z4,qm l],.frz (k:=es) (xs:=xs) ?_ qe q0 qe rfl⟩;show find (st1.putD dst _).hp n = _;rw [Yk,w,Ks,qm rfl]
    · rw [ql l] at j;have y : (st1.putD dst (.hs n es 0 xs.length)).get t = some r:=by rw [Z4,ql l];exact j
      obtain ⟨x,_,u⟩:=z.slots t r y;rw [Yl] at u;exact ⟨r,y,qfo u⟩
  · intro m q a;rw [f];unfold AS.blk at a;rw [p] at a;obtain ⟨c,h⟩:=g m q a;obtain ⟨s,v⟩:=z.heap.blk m q h;rw [Yl] at s v;exact ⟨s,.inr ⟨qe,q,h,q10m v⟩⟩
  · omega
  · intro m b a _ hc;unfold AS.blk at a;grind
theorem qt6 {w : World} {Z : Nat→Prop} {inj : Inj} {a a' : Act} {Ds : List Nat} {w' : World} {dst : Option Tmp} {n es : Nat} {xs : List (List DV)} {hp2 : List (Nat × Blk)}
    (h : Kt base w Z inj st a Ds (st1.putD dst (.hs n es 0 xs.length)) a' w') (o : st1.hp = (n,.dat es xs)::hp2) (q : find hp2 n = none) (p : base≤n) :
    Kt base w Z inj st a Ds (({sl:=st1.sl,hp:=hp2,nx:=st1.nx} : AS).putD dst (.d (.sl es xs))) a' w':=by
  obtain ⟨Z',inj',g,j,k,m,f,l⟩:=h;obtain ⟨b,c⟩:=q20 j (qi0 j o q p (by rw [Yl] at f;exact f));exact ⟨_,_,g,b,k.trans c (Nat.le_refl _),m,by rw [Yl];rw [Yl] at f;exact f,l⟩
theorem qpx {n es : Nat} {xs : List (List DV)} {hp2 : List (Nat × Blk)} (g : Yy P T) (f : Qp ops st o = some true) (c : opFn T st o.op = some (.hs n es 0 xs.length,st1)) (k : st.nx≤n) (j : st1.hp = (n,.dat es xs)::hp2) (m : find hp2 n = none) :
    Jl P base ops o st (({sl:=st1.sl,hp:=hp2,nx:=st1.nx} : AS).putD o.dst (.d (.sl es xs))):=by
  intro ro Q w Z inj a Ds K h hd hb b l;exact qdo g f c ro Q w Z inj a Ds K h hd hb b fun a' w' hp=>l a' w' (qt6 hp j m (Nat.le_trans hb k))
theorem q85 {w : World} {Z : Nat→Prop} {inj inj' : Inj} {nx : Nat} {v : V} {x : Value} (h : RelV w Z inj nx v x) (hi : ∀ n p,n < nx→inj n = some p→inj' n = some p) : RelV w Z inj' nx v x:=by
  induction h with
  | d h=>exact .d h
  | agg hl _ ih=>exact .agg hl ih
  | tup hl _ ih=>exact .tup hl ih
  | fn hl _ ih=>exact .fn hl ih
  | ref h1 h2=>exact .ref h1 (hi _ _ h1 h2)
  | dref h1 h2 h3=>exact .dref h1 h2 h3
  | hsnil h1=>exact .hsnil h1
  | hs h1 h2 hsp h3=>
    refine .hs h1 h2 hsp fun a=>?_;grind
  | yld h1 h2=>exact .yld h1 (hi _ _ h1 h2)
  | mp h1 h2=>exact .mp h1 (hi _ _ h1 h2)
  | dead v=>exact .dead v
theorem qkg {w : World} {Z : Nat→Prop} {inj inj' : Inj} {nx n : Nat} {b : Blk} (h : RelB w Z inj nx n b) (hi : ∀ n p,n < nx→inj n = some p→inj' n = some p) (q : n < nx) (r : inj n = none→inj' n = none) : RelB w Z inj' nx n b:=by
  cases b with
  | dead=>trivial
  | dat es xs=>
    obtain ⟨g,a,f⟩:=h;refine ⟨g,a,?_⟩;grind
  | mp es=>
    obtain ⟨b,k,cl,g,a⟩:=h;exact ⟨b,k,cl,hi _ _ q g,a⟩
  | cel es xs=>
    obtain ⟨g,a,f⟩:=h;refine ⟨g,a,?_⟩;rcases f with ⟨f,l⟩ | ⟨b,o,arr,ty,f,l,h5⟩
    · grind
    · refine .inr ⟨b,o,arr,ty,hi _ _ q f,l,fun i x j d m hd=>?_⟩;obtain ⟨z,c,h7,u⟩:=h5 i x j d m hd;exact ⟨z,c,h7,q85 u hi⟩
  | loop s ps assign body dn pe=>
    obtain ⟨b,tmps,D,fn,g,a,f,l⟩:=h;refine ⟨b,tmps,D,fn,hi _ _ q g,a,f,fun t v ht=>?_⟩;obtain ⟨x,m,y⟩:=l t v ht;exact ⟨x,m,q85 y hi⟩
def qa1 (base lo hi : Nat) (w : World) (Z : Nat→Prop) (inj : Inj) (st : AS) (a : Act) (Ds : List Nat) (st' : AS) (a' : Act) (w' : World) : Prop:=
  ∃ Z' inj' Ds',RelS w' Z' inj' st' a' Ds'∧Ext w Z inj st.hp w' Z' inj' st'.hp base∧a'.tmps.size = a.tmps.size∧(∀ D∈Ds',D∈Ds∨w.heap.size≤D)∧∀ m,m < st.nx→(m < lo∨hi≤m)→inj' m = inj m
def qcb (P : Program) (base : Nat) (ops : Array Oper) (o : Oper) (st st' : AS) (lo hi : Nat) : Prop:=
  ∀ (ro : Option Nat) (Q : Exit→Act→World→Prop) (w : World) (Z : Nat→Prop) (inj : Inj) (a : Act) (Ds : List Nat) (K : Act→World→Prop),RelS w Z inj st a Ds→J7 a.tmps.size o.dst = true→base≤lo→base≤st.nx→Yg ro w→(∀ m,lo≤m→m < hi→inj m = none)→
    (∀ a' w',qa1 base lo hi w Z inj st a Ds st' a' w'→K a' w')→Ue P (Fw ro) ops Q o K a w
theorem qi6 {st' : AS} {lo hi : Nat} (h : Jl P st.nx ops o st st') : qcb P base ops o st st' lo hi:=by
  intro ro Q w Z inj a Ds K f hd _ hb c _ n;refine h ro Q w Z inj a Ds K f hd (Nat.le_refl _) c fun a' w' hp=>n a' w' ?_;obtain ⟨Z',inj',b,k,d,j,p,g⟩:=hp;exact ⟨Z',inj',b,k,d.pin_le hb,j,g,fun m l _=>d.pinj m l⟩
theorem qkm {w : World} {Z : Nat→Prop} {inj : Inj} {w' : World} {Z' : Nat→Prop} {inj' b : Inj} {N l : Nat} {v : V} {x k : Value} (h : RelV w Z inj N v x) (g : RelV w' Z' inj' l v k) (hi : ∀ m p,m < N→inj' m = some p→b m = some p) : RelV w' Z' b N v k:=by
  induction g generalizing x with
  | d g=>exact .d g
  | @agg ds cs hl _ ih=>
    cases h with | @agg _ cs0 hl0 h0=>
    refine .agg hl fun i d c hd j=>?_;grind
  | @tup ds cs hl _ ih=>
    cases h with | @tup _ cs0 hl0 h0=>
    refine .tup hl fun i d c hd j=>?_;grind
  | @fn f ds cs hl _ ih=>
    cases h with | @fn _ _ cs0 hl0 h0=>
    refine .fn hl fun i d c hd j=>?_;grind
  | ref h1 h2=>
    have a:=by cases h with | ref h1 _=>exact h1
    exact .ref a (hi _ _ a h2)
  | dref h1 h2 h3=>exact .dref h1 h2 h3
  | hsnil h1=>
    have a:=by cases h with
      | hsnil h1=>exact h1
      | hs h1 _ _ _=>exact h1
    exact .hsnil a
  | hs h1 h2 hsp h3=>
    have a:=by cases h with
      | hsnil h1=>exact h1
      | hs h1 _ _ _=>exact h1
    refine .hs a h2 hsp fun j=>?_;grind
  | yld h1 h2=>
    have a:=by cases h with | yld h1 _=>exact h1
    exact .yld a (hi _ _ a h2)
  | mp h1 h2=>
    have a:=by cases h with | mp h1 _=>exact h1
    exact .mp a (hi _ _ a h2)
  | dead v=>exact .dead v
theorem qtq {w : World} {Z : Nat→Prop} {inj : Inj} {w' : World} {Z' : Nat→Prop} {inj' a : Inj} {N N' n : Nat} {b : Blk} (h : RelB w Z inj N n b) (r : RelB w' Z' inj' N' n b) (hi : ∀ m p,m < N→inj' m = some p→a m = some p) (z : a n = inj' n) : RelB w' Z' a N n b:=by
  cases b with
  | dead=>trivial
  | dat es xs=>
    obtain ⟨k,f,g⟩:=r;refine ⟨k,f,?_⟩;grind
  | mp es=>
    obtain ⟨b,q,cl,k,f⟩:=r;exact ⟨b,q,cl,z.trans k,f⟩
  | cel es xs=>
    obtain ⟨k,f,g⟩:=r;refine ⟨k,f,?_⟩;rw [z];rcases g with g | ⟨b,o,arr,ty,g,u,h5⟩
    · grind
    · refine .inr ⟨b,o,arr,ty,g,u,fun i x j d l hd=>?_⟩;obtain ⟨h6,c,h7,h8⟩:=h5 i x j d l hd;obtain ⟨_,_,k3⟩:=h;rcases k3 with ⟨rfl,_⟩ | ⟨_,_,_,_,_,_,k5⟩
      · simp at l
      · obtain ⟨_,c0,_,k8⟩:=k5 i x j d l hd;exact ⟨h6,c,h7,qkm k8 h8 hi⟩
  | loop s ps assign body dn pe=>
    obtain ⟨b,tmps,D,fn,k,f,g,u⟩:=r;obtain ⟨_,_,_,_,_,_,_,k4⟩:=h;refine ⟨b,tmps,D,fn,z.trans k,f,g,fun t v ht=>?_⟩;obtain ⟨x,l,hr⟩:=u t v ht;obtain ⟨x0,_,y⟩:=k4 t v ht;exact ⟨x,l,qkm y hr hi⟩
theorem qi5 {mk : Nat→V} {es q : Nat} {xs : List (List DV)} {f : List (Nat × Blk)} (hT : Yy P T) (hg : Qp ops st o = some true) (hk : (∃ es,mk = fun n=>.ref n es 0 0)∨(∃ es l,mk = fun n=>.hs n es 0 l)∨(mk = fun n=>.mp n))
    (ho : opFn T st o.op = some (mk st.nx,⟨st.sl,(st.nx,.dat es xs)::f,st.nx + 1⟩)) (hq : q < st.nx) (au : find st.hp q = none) (hold : ∀ m c,find f m = some c→c = .dead∨find st.hp m = some c) (ae : ∀ m,find st.hp m = none→find f m = none) :
    qcb P base ops o st (({sl:=st.sl,hp:=(q,.dat es xs)::f,nx:=st.nx} : AS).putD o.dst (mk q)) q (q + 1):=by
  intro ro Q w Z inj a Ds K h hd bt hb _ ak hK;have ap : inj q = none:=ak q (Nat.le_refl _) q0;unfold Ue;rw [q3i h hg];simp only [if_true];refine ⟨fun _ _=>trivial,?_⟩;rw [show (Fw ro).round = ro from rfl,Oper.semAt_eq ro _ o (qjs ho)];obtain ⟨x,w',inj',hr,hv,hh,j,-,-⟩:=qjt hT h ho;simp only at hv hh j;obtain ⟨d,ai⟩ : ∃ d : Inj,d = fun m=>if m = q then inj' st.nx else inj' m:=⟨_,rfl⟩
  have ab : d q = inj' st.nx:=by rw [ai];simp
  have ad : ∀ m,m≠q→d m = inj' m:=fun m g=>by rw [ai];simp [g]
  have hi : ∀ m p,m < st.nx→inj' m = some p→d m = some p:=fun m p g hp=>by
    by_cases k : m = q
    · subst k;rw [j.pinj m g,ap] at hp;cases hp
    grind
  have am : ∀ m c,find f m = some c→m < st.nx:=fun m c g=>by
    cases hf : find st.hp m with
    | none=>rw [ae m hf] at g;cases g
    | some b=>exact (h.heap.blk m b hf).1
  have bj : ∀ m c,find f m = some c→m≠q:=fun m c g e=>by grind
  have up : ∀ m c,find f m = some c→find ((st.nx,Blk.dat es xs)::f) m = some c:=fun m c g=>by
    rw [Ks,ql (by have:=am m c g;omega)];exact g
  have aj : find ((st.nx,Blk.dat es xs)::f) st.nx = some (.dat es xs):=by rw [Ks,qm rfl]
  have back : ∀ m c,find ((q,Blk.dat es xs)::f) m = some c→∃ z,find ((st.nx,Blk.dat es xs)::f) z = some c∧d m = inj' z∧((m = q∧z = st.nx)∨(m≠q∧z = m)):=by
    intro m c g;rw [Ks] at g;grind
  have hH : RelH w' Z d ((q,Blk.dat es xs)::f) st.nx:=by
    refine ⟨fun m c g=>?_,fun m n b c p r h1 u h3 h4 h5 h6 aw=>?_,fun m b p h1 u h3=>?_,hh.zs,hh.zc⟩
    · rw [Ks] at g;by_cases k : q = m
      · subst k;rw [qm rfl] at g;cases g;refine ⟨hq,?_⟩;obtain ⟨_,k1,k2,k3⟩:=hh.blk st.nx _ aj;exact ⟨k1,k2,by rw [ab];exact k3⟩
      · rw [ql k] at g;refine ⟨am m c g,?_⟩;rcases hold m c g with rfl | ax
        · trivial
        · exact qtq (h.heap.blk m c ax).2 (hh.blk m c (up m c g)).2 hi (ad m (Ne.symm k))
    · obtain ⟨z,a1,a2,a3⟩:=back m b h1;obtain ⟨n',b1,b2,b3⟩:=back n c u;refine hh.sep z n' b c p r a1 b1 h3 h4 (a2 ▸ h5) (b2 ▸ h6) ?_;rcases a3 with ⟨rfl,rfl⟩ | ⟨a3,rfl⟩ <;> rcases b3 with ⟨rfl,rfl⟩ | ⟨b3,rfl⟩
      · omega
      · intro e;have : find f n' = some c:=by rw [Ks,ql (Ne.symm b3)] at u;exact u
        grind
      · intro e;have : find f z = some b:=by rw [Ks,ql (Ne.symm a3)] at h1;exact h1
        grind
      · exact aw
    · obtain ⟨z,a1,a2,_⟩:=back m b h1;exact hh.out z b p a1 u (a2 ▸ h3)
  have hE : Ext w Z inj st.hp w' Z d ((q,Blk.dat es xs)::f) base:=by
    refine ⟨j.size,j.keep,?_,j.big,j.loops,j.zin,j.zout,fun n hn=>?_,j.tape,j.os,j.output,j.frz⟩
    · rintro b ⟨m,c,off,g1,g2,g3⟩;obtain ⟨z,a1,a2,_⟩:=back m c g1;exact j.imm b ⟨z,c,off,a1,g2,a2 ▸ g3⟩
    · rw [ad n q0];exact j.pinj n q0
  have hV : RelV w' Z d st.nx (mk q) x:=by
    rcases hk with ⟨es,rfl⟩ | ⟨es,l,rfl⟩ | rfl
    rotate_right
    · cases hv with | mp h1 u=>exact .mp hq (ab.trans u)
    · cases hv with | ref h1 u=>exact .ref hq (ab.trans u)
    · cases hv with
      | hsnil h1=>exact .hsnil hq
      | hs h1 u hsp h3=>
        refine .hs hq u hsp fun hc=>?_;grind
  have hS : Yq w' Z d st.nx st.sl a.tmps:=fun t v ht=>by
    obtain ⟨y,hy,hr⟩:=h.slots t v ht;exact ⟨y,hy,q85 (hr.mono (j.zkeep h.heap) j.zin j.big j.pinj (Nat.le_refl _)) hi⟩
  have s : qa1 base q (q + 1) w Z inj st a Ds (({sl:=st.sl,hp:=(q,.dat es xs)::f,nx:=st.nx} : AS).putD o.dst (mk q)) (a.put o.dst x) w':=by
    refine ⟨Z,d,Ds,?_,by rw [Yk];exact hE,qk4 _ _ _,fun _ h=>.inl h,fun m g k=>?_⟩
    · generalize ba : o.dst = dst at hd
      cases dst with
      | none=>exact ⟨hS,hH,h.defs,h.nodup,fun D hD=>j.marks h.heap (h.marks D hD)⟩
      | some t=>exact ⟨hS.put hV (qh7 hd),hH,h.defs,h.nodup,fun D hD=>j.marks h.heap (h.marks D hD)⟩
    · rw [ad m q0];exact j.pinj m g
  rcases hr with hr | ⟨hr,rfl⟩
  · rw [hr];exact hK _ _ s
  · rw [hr];exact hK _ _ s
theorem qt5 {w : World} {Z : Nat→Prop} {inj : Inj} {a a' : Act} {Ds : List Nat} {w' : World} {dst : Option Tmp} {n es lo hi : Nat} {xs : List (List DV)} {hp2 : List (Nat × Blk)} (c : base≤st1.nx)
    (h : qa1 base lo hi w Z inj st a Ds (st1.putD dst (.hs n es 0 xs.length)) a' w') (r : st1.hp = (n,.dat es xs)::hp2) (u : find hp2 n = none) (s : base≤n) :
    qa1 base lo hi w Z inj st a Ds (({sl:=st1.sl,hp:=hp2,nx:=st1.nx} : AS).putD dst (.d (.sl es xs))) a' w':=by
  obtain ⟨Z',inj',b,k,l,p,o,q⟩:=h;have hp : Kt base w Z inj st a Ds (st1.putD dst (.hs n es 0 xs.length)) a' w':=⟨Z',inj',b,k,l,p,by rw [Yl];exact c,o⟩
  obtain ⟨f,g⟩:=q20 k (qi0 k r u s c);refine ⟨_,_,b,f,l.trans g (Nat.le_refl _),p,o,fun m t j=>?_⟩;rw [← q m t j];simp [wkI]
structure Jn (P : Program) (ops : Array Oper) (o : Oper) (x : Fp) (st st1 : AS) : Prop where
  nx : st.nx≤st1.nx
  sl : ∀ t,o.dst≠some t→st1.get t = st.get t
  hp : ∀ m,m ∉ x.2→find st1.hp m = find st.hp m
  keys : ∀ m,st1.nx≤m→find st.hp m = none→find st1.hp m = none
  fresh : ∀ m,st.nx≤m→m < st1.nx→m∈x.2
  other : ∀ st2,st1.nx≤st2.nx→Uf ops o x st st2→(∀ m,st.nx≤m→m < st1.nx→find st2.hp m = none)→∃ st3,st3.nx = st2.nx∧(∀ base,qcb P base ops o st2 st3 st.nx st1.nx)∧
    (∀ t,o.dst≠some t→st3.get t = st2.get t)∧(∀ t,o.dst = some t→st3.get t = st1.get t)∧(∀ m∈x.2,find st3.hp m = find st1.hp m)∧(∀ m,m ∉ x.2→find st3.hp m = find st2.hp m)
theorem qfd : ∀ {b : List Nat} {n : Nat},hasN b n = true→n∈b
  | a::r,n,h=>by
    simp only [hasN,Bool.or_eq_true] at h
    rcases h with h | h
    · rw [Nat.eq_of_beq_eq_true h];simp
    · exact List.mem_cons_of_mem _ (qfd h)
theorem qj8 : ∀ {b : List Nat} {n : Nat},n∈b→hasN b n = true
  | a::r,n,h=>by
    simp only [hasN,Bool.or_eq_true]
    rcases List.mem_cons.1 h with rfl | h
    · left;exact Nat.beq_refl _
    · exact .inr (qj8 h)
theorem qhw (y : Fp) : fpLe (some [],[]) y = true:=by
  unfold fpLe;cases y.1 <;> rfl
theorem Jn.mono {x y : Fp} (h : Jn P ops o x st st1) (j : fpLe x y = true) : Jn P ops o y st st1:=by
  simp only [fpLe,Bool.and_eq_true,subN,List.all_eq_true] at j;obtain ⟨p,g⟩:=j;have c : ∀ m∈x.2,m∈y.2:=fun m a=>qfd (p m a);refine ⟨h.nx,h.sl,fun m a=>h.hp m fun e=>a (c m e),h.keys,fun m b hb=>c m (h.fresh m b hb),fun st2 u b v=>?_⟩
  have d : Uf ops o x st st2:=by
    refine ⟨⟨fun m a=>b.blk.1 m (c m a),?_⟩,b.sl⟩;have hb:=b.blk.2;revert g hb
    cases y.1 with
    | none=>grind
    | some r=>
      cases x.1 with
      | none=>simp
      | some r'=>
        intro g hb m a;exact hb m (qfd (by simpa using List.all_eq_true.1 g m a))
  obtain ⟨f,n,q,t,s,w,l⟩:=h.other st2 u d v;refine ⟨f,n,q,t,s,fun m a=>?_,fun m a=>l m fun e=>a (c m e)⟩;by_cases k : m∈x.2
  · grind
  · rw [l m k,h.hp m k];exact b.blk.1 m a
theorem qlu {v : V} {x : Fp} (d : x.2 = []) (a : ∀ st2,Uf ops o x st st2→Jl P st2.nx ops o st2 (st2.putD o.dst v)) : Jn P ops o x st (st.putD o.dst v):=by
  refine ⟨by rw [Yl];exact Nat.le_refl _,fun t h=>by rw [Z4,ql h],fun m _=>by rw [Yk],fun m _ h=>by rw [Yk];exact h,fun m g a=>by rw [Yl] at a;omega,fun st2 f c _=>?_⟩;refine ⟨st2.putD o.dst v,Yl _ _ _,fun base=>qi6 (a st2 c),fun t h=>by rw [Z4,ql h],fun t h=>by rw [Z4,Z4,qm h,qm h],fun m b=>(by rw [d] at b;cases b),fun m _=>by rw [Yk]⟩
theorem qzb (b : Qp ops st o = some false) : Jn P ops o (some [],[]) st (st.putD o.dst (.d (.tup []))):=
  qlu rfl fun _ a=>qi8 (a.guard.trans b)
theorem qow {b : Blk} {n : Nat} {sl : List (Nat × V)} {hp1 : List (Nat × Blk)} {v : V} {op : Op} (c : opFn T st op = some (v,⟨sl,(st.nx,b)::hp1,n + 1⟩)) (f : st.nx = n) (h : q3f st op ⟨sl,(st.nx,b)::hp1,n + 1⟩ = true) : ∃ es xs,b = .dat es xs:=by
  by_cases d : touch op = 2
  · simp only [q3f,d] at h
    cases b with
    | dat es xs=>exact ⟨es,xs,rfl⟩
    | _=>simp at h
  · have a : touch op≤1:=by
      have : touch op≤2:=by unfold touch;split <;> omega
      omega
    have g:=(qel (st2:=st) c a (fun _=>rfl) (fun _ _=>rfl)).1;grind
theorem qz9 {v : V} (z : Yy P T) (w : Qp ops st o = some true) (u : opFn T st o.op = some (v,st1)) (hd : q3f st o.op st1 = true) : Jn P ops o (fp st o.op) st (st1.putD o.dst v):=by
  cases qjo u with
  | calm hsl hnx hhp hnone hall=>
    have g : ∀ t,st1.get t = st.get t:=fun t=>by unfold AS.get;rw [hsl]
    refine ⟨by rw [Yl];omega,fun t h=>by rw [Z4,ql h,g],fun m a=>by rw [Yk];exact hhp m a,fun m _ h=>by rw [Yk];exact hnone m h,fun m r j=>by rw [Yl] at j;omega,fun st2 p c _=>?_⟩;obtain ⟨f,k,l,q⟩:=hall st2 (fun x n=>c.ev n) c.blk;refine ⟨(⟨st2.sl,f,st2.nx⟩ : AS).putD o.dst v,Yl _ _ _,fun base=>qi6 (qdo z (c.guard.trans w) k),fun t h=>by rw [Z4,ql h];rfl,fun t h=>by rw [Z4,Z4,qm h,qm h],fun m a=>?_,fun m a=>?_⟩
    · rw [Yk,Yk];exact l m a
    · rw [Yk];exact q m a
  | new mk b hp1 hk hv r hmem hhp hnone hall=>
    subst r;obtain ⟨es,xs,rfl⟩:=qow u rfl hd;refine ⟨by rw [Yl];exact Nat.le_succ _,fun t h=>by rw [Z4,ql h];rfl,fun m a=>?_,fun m a h=>?_,fun m r j=>?_,fun st2 p c s=>?_⟩
    · rw [Yk,Ks,ql (by rintro rfl;exact a hmem)];exact hhp m a
    · rw [Yl] at a;rw [Yk,Ks,ql (by simp only at a;omega)];exact hnone m h
    · rw [Yl] at j;grind
    · rw [Yl] at p s ⊢;simp only at p s;obtain ⟨f,k,l,q,k4⟩:=hall st2 (fun x n=>c.ev n) c.blk;have d:=s st.nx (Nat.le_refl _) q0;refine ⟨(⟨st2.sl,(st.nx,.dat es xs)::f,st2.nx⟩ : AS).putD o.dst (mk st.nx),Yl _ _ _,fun base=>qi5 z (c.guard.trans w) hk k q0 d k4 (fun m a=>?_),fun t h=>by rw [Z4,ql h];rfl,fun t h=>by rw [Z4,Z4,qm h,qm h,hv],fun m a=>?_,fun m a=>?_⟩
      · by_cases y : m∈(fp st o.op).2
        · rw [l m y];refine hnone m ?_;rw [← c.blk.1 m y];exact a
        grind
      · rw [Yk,Yk,Ks,Ks];grind
      · rw [Yk,Ks,ql (by rintro rfl;exact a hmem)];exact q m a
theorem qza {n es : Nat} {xs : List (List DV)} {hp2 : List (Nat × Blk)} (hT : Yy P T) (hg : Qp ops st o = some true) (ho : opFn T st o.op = some (.hs n es 0 xs.length,st1)) (r : n = st.nx∧st1.nx = n + 1) (u : st1.hp = (n,.dat es xs)::hp2) (hf : find hp2 n = none) :
    Jn P ops o (fp st o.op) st (({sl:=st1.sl,hp:=hp2,nx:=st1.nx} : AS).putD o.dst (.d (.sl es xs))):=by
  obtain ⟨rfl,aj⟩:=r
  cases qjo ho with
  | calm hsl hnx hhp hnone hall=>omega
  | new mk b hp1 hk hv z hmem hhp hnone hall=>
    subst z;simp only [List.cons.injEq,Prod.mk.injEq,true_and] at u;obtain ⟨rfl,rfl⟩:=u;refine ⟨by rw [Yl];exact Nat.le_succ _,fun t h=>by rw [Z4,ql h];rfl,fun m g=>by rw [Yk];exact hhp m g,fun m g h=>by rw [Yk];exact hnone m h,fun m z h2=>?_,fun st2 r q j=>?_⟩
    · rw [Yl] at h2;grind
    · rw [Yl] at r j ⊢;simp only at r j;obtain ⟨k,k1,y,k3,k4⟩:=hall st2 (fun x hx=>q.ev hx) q.blk;have c:=j st.nx (Nat.le_refl _) q0
      have f : ∀ m,find st2.hp m = none→find k m = none:=fun m g=>by
        by_cases v : m∈(fp st o.op).2
        · rw [y m v];refine hnone m ?_;rw [← q.blk.1 m v];exact g
        grind
      refine ⟨(⟨st2.sl,k,st2.nx⟩ : AS).putD o.dst (.d (.sl es xs)),Yl _ _ _,fun base=>?_,fun t h=>by rw [Z4,ql h];rfl,fun t h=>by rw [Z4,Z4,qm h,qm h],fun m g=>by rw [Yk,Yk];exact y m g,fun m g=>by rw [Yk];exact k3 m g⟩;intro ro Q w Z inj a Ds K h hd l hb s p hK;refine qi5 (base:=base) hT (q.guard.trans hg) hk k1 q0 c k4 f ro Q w Z inj a Ds K h hd l hb s p fun a' w' hp=>hK a' w' ?_;rw [← hv] at hp;exact qt5 (st1:=⟨st2.sl,(st.nx,.dat es xs)::k,st2.nx⟩) hb hp rfl (f _ c) l
theorem q101 {hp hp2 : List (Nat × Blk)} (h : ∀ m,find hp2 m = find hp m) : ∀ k,toD hp2 k = toD hp k:=by
  intro k
  induction k with
  | zero=>funext v;cases v <;> rfl
  | succ k ih=>funext v;cases v <;> simp only [toD,ih,h]
theorem qfy {hp hp2 : List (Nat × Blk)} (h : ∀ m,find hp2 m = find hp m) : ∀ {a : List V},Kq hp2 a = Kq hp a
  | []=>rfl
  | v::r=>by simp only [Kq,q101 h,qfy h]
theorem qfz {hp hp2 : List (Nat × Blk)} : ∀ {a : List V},a.all V.isD = true→Kq hp2 a = Kq hp a
  | [],_=>rfl
  | v::r,h=>by
    simp only [List.all_cons,Bool.and_eq_true] at h
    have e : toD hp2 8 v = toD hp 8 v:=by
      cases v <;> first | rfl | (simp [V.isD] at h;done)
    rw [Kq,Kq,e,qfz (hp:=hp) (hp2:=hp2) h.2]
theorem qz8 {c : Call} {f : FuncId} {b : List V} {ds : List DV} {v : V} {hp' : List (Nat × Blk)} {nx' : Nat} {n r : DV} (p : Qp ops st o = some true) (m : o.op = .call c) (q : callee st c = some (f,b))
    (k : Kq st.hp b = some ds) (a : Jj P f (ds.map .d) [] 0 v hp' nx') (j : toD hp' 8 v = some n) (l : DLe n r) (hs : b.all V.isD = true∨r.scalar = true) : Jn P ops o (fpC b) st (st.putD o.dst (.d r)):=by
  refine qlu (by unfold fpC;cases b.all V.isD <;> rfl) fun st2 g=>qi7 (g.guard.trans p) m ((g.callee m).trans q) ?_ a j l hs;rw [← k];by_cases hd : b.all V.isD = true
  · exact qfz hd
  · have h:=g.blk.2;simp only [fpC,hd,Q3] at h;exact qfy h
theorem qpv {ops : Array Oper} {o : Oper} {c : Call} {f : FuncId} {vs az : List V} {hp0 hp' ar ba : List (Nat × Blk)} {k k' am : Nat} {v' vN : V} {ρ ρ3 : Nat→Nat} {ce ap : List Nat} (hg : Qp ops st o = some true) (ho : o.op = .call c) (hc : callee st c = some (f,vs)) (cj : vs.length = az.length)
    (cc : Wk 0 ρ [] [] {sl:=Y5 0 vs,hp:=st.hp,nx:=st.nx} {sl:=Y5 0 az,hp:=hp0,nx:=k}) (ao : Jj P f az hp0 k v' hp' k') (ci : Wk 0 ρ3 ce ap {sl:=[(0,v')],hp:=hp',nx:=k'} {sl:=[(0,vN)],hp:=ar,nx:=am})
    (hb : Back ρ ρ3 ap k k' st.nx am st.hp ar ba) : Jl P base ops o st ({sl:=st.sl,hp:=ba,nx:=am : AS}.putD o.dst vN):=by
  intro ro Q w Z inj a Ds K h hd bh _ hK;unfold Ue;rw [q3i h hg];simp only [if_true];refine ⟨fun _ _=>trivial,?_⟩;obtain ⟨xs,hr,hl⟩:=qcq h ho hc ao.1;rw [show (Fw ro).round = ro from rfl,Oper.semAt_eq ro _ o (by rintro c' h';rw [ho] at h';cases h'),hr,Oper.uponIn_enter];refine ⟨fun h=>by simp [Fw] at h,?_⟩
  have bi : RelS w Z inj {sl:=Y5 0 vs,hp:=st.hp,nx:=st.nx} {a with tmps:=xs,defers:=[]} []:=by
    refine ⟨fun t v ht=>?_,h.heap,rfl,List.nodup_nil,qe⟩;rw [qa6] at ht;simp only [Nat.zero_le,if_true,Nat.sub_zero] at ht;obtain ⟨y,hy⟩:=Ya (xs:=xs) (i:=t) (by rw [← hl.1];exact Ke ht);exact ⟨y,hy,hl.2 t v y ht hy⟩
  obtain ⟨bu,ai⟩:=q20 bi cc
  have cw : LRel w (wkZ Z inj {sl:=Y5 0 vs,hp:=st.hp,nx:=st.nx} []) (wkI inj ρ []) k az xs:=by
    refine ⟨by rw [← cj];exact hl.1,fun i d y cz da=>?_⟩;obtain ⟨y',bs,hr⟩:=bu.slots i d (by rw [qa6];simpa using cz);rw [da] at bs;cases bs;exact hr
  refine CallsIn.mono (ao.2 w _ _ xs bu.heap cw) ?_;rintro e w' ⟨x,Z',inj',rfl,hh,cd,hv,hn⟩;obtain ⟨s,ag⟩ : ∃ s : Inj,s = fun n=>if n < k' then inj' n else none:=⟨_,rfl⟩
  have ad : ∀ n,n < k'→s n = inj' n:=fun n hn=>by rw [ag];simp [hn]
  have de : RelH w' Z' s hp' k':=by
    refine ⟨fun n b hb=>?_,fun n m b c p q l j u h4 h5 h6=>?_,fun n b p l j u=>?_,hh.zs,hh.zc⟩
    · obtain ⟨k1,k2⟩:=hh.blk n b hb;exact ⟨k1,qkg k2 (fun m p hm hp=>(ad m hm).trans hp) k1 (fun hp=>(ad n k1).trans hp)⟩
    · rw [ad n (hh.blk n b l).1] at h5;rw [ad m (hh.blk m c j).1] at h6;exact hh.sep n m b c p q l j u h4 h5 h6
    · rw [ad n (hh.blk n b l).1] at u;exact hh.out n b p l j u
  have dg : RelV w' Z' s k' v' x:=q85 hv fun n p hn hp=>(ad n hn).trans hp
  have bo : ∀ b,im hp' s b→im hp' inj' b:=by
    rintro b ⟨n,blk,o,l,j,u⟩;exact ⟨n,blk,o,l,j,by rw [← ad n (hh.blk n blk l).1];exact u⟩
  have bn : RelS w' Z' s {sl:=[(0,v')],hp:=hp',nx:=k'} {a with tmps:=#[x],defers:=[]} []:=by
    refine ⟨fun t v ht=>?_,de,rfl,List.nodup_nil,qe⟩;rw [Ks] at ht;split at ht
    · rename_i e;subst e;cases ht;exact ⟨x,rfl,dg⟩
    · simp [find] at ht
  obtain ⟨ac,ah⟩:=q20 bn ci;generalize dn : wkZ Z' s {sl:=[(0,v')],hp:=hp',nx:=k'} ce = Z3 at ac ah;generalize ch : wkI s ρ3 ap = z at ac ah
  have ct : RelV w' Z3 z am vN x:=by
    obtain ⟨y,hy,hr⟩:=ac.slots 0 vN (by simp [find]);simp at hy;subst hy;exact hr
  have bg : ∀ i,i < k→inj' i = inj (ρ i):=fun i hi=>by rw [cd.pinj i hi];simp [wkI]
  have bt : ∀ m,m < st.nx→∀ p,z m = some p→inj m = some p:=by
    intro m hm p hp;have ax : m ∉ ap:=fun hc=>by have:=hb.phn m hc;omega
    rw [← ch] at hp;simp only [wkI,ax,if_false] at hp;rcases hb.snd m hm with ⟨l,j⟩ | l
    · rw [ag] at hp;simp only [show ρ3 m < k' by omega,if_true] at hp;rw [bg _ l,j] at hp;exact hp
    · rw [ag] at hp;simp [show ¬ ρ3 m < k' by omega] at hp
  obtain ⟨r,af⟩ : ∃ r : Inj,r = fun m=>if m < st.nx then inj m else z m:=⟨_,rfl⟩
  have aa : ∀ m,m < st.nx→r m = inj m:=fun m hm=>by rw [af];simp [hm]
  have ca : ∀ m p,z m = some p→r m = some p:=fun m p hp=>by
    by_cases hm : m < st.nx
    · rw [aa m hm];exact bt m hm p hp
    · rw [af];simp [hm,hp]
  have hR : ∀ m b,find ar m = some b→∀ p,r m = some p→z m = some p:=by
    intro m b bj p hp;by_cases hm : m < st.nx
    · rw [aa m hm] at hp;have ax : m ∉ ap:=fun hc=>by have:=hb.phn m hc;omega
      obtain ⟨_,j⟩:=ci.blocks m b bj;rcases j with ⟨j,_⟩ | ⟨_,b0,u,_⟩
      · exact absurd j ax
      · have dc:=(hh.blk _ _ u).1;rcases hb.snd m hm with ⟨k1,k2⟩ | k1
        · rw [← ch];simp only [wkI,ax,if_false];rw [ad _ q0,bg _ k1,k2];exact hp
        · omega
    · rw [af] at hp;simpa [hm] using hp
  have hE : Ext w (wkZ Z inj {sl:=Y5 0 vs,hp:=st.hp,nx:=st.nx} []) (wkI inj ρ []) hp0 w' Z' inj' hp' 0:=cd.pin_le (Nat.zero_le _)
  have cx : ∀ b,im ar z b→im st.hp inj b∨w.heap.size≤b:=by
    intro b cv;rcases ah.imm b cv with l | l
    · rcases hE.imm b (bo b l) with j | j
      · exact ai.imm b j
      · exact .inr j
    · exact .inr (Nat.le_trans hE.size l)
  have keep : ∀ b,b < w.heap.size→¬ im hp0 (wkI inj ρ []) b→w'.heap[b]? = w.heap[b]?:=fun b dh cu=>hE.keep b dh cu
  have aq : ∀ m b p,find st.hp m = some b→live b = true→inj m = some p→(∀ i,i < k→ρ i≠m)→¬ im hp0 (wkI inj ρ []) p.1:=by
    rintro m b p l j u h4 ⟨i,blk,o,g1,g2,g3⟩;obtain ⟨j1,j2⟩:=cc.blocks i blk g1;rcases j2 with ⟨j2,_⟩ | ⟨_,b0,j3,j4⟩
    · cases j2
    · have cy : inj (ρ i) = some (p.1,o):=by simpa [wkI] using g3
      exact h.heap.sep (ρ i) m b0 b _ p j3 l (qmr j4 g2) j cy u (h4 i j1) rfl
  have hZ : ∀ b,Z b→Z3 b:=fun b hz=>ah.zin b (hE.zin b (ai.zin b hz))
  have co : ∀ b,Z3 b→Z b∨im hp0 (wkI inj ρ []) b∨w.heap.size≤b:=by
    intro b hz;rcases ah.zout b hz with l | l | l
    · rcases hE.zout b l with j | j | j
      · rcases ai.zout b j with u | u | u
        · exact .inl u
        · rcases j with j | ⟨n,hn,_⟩
          · exact .inl j
          · cases hn
        · exact .inr (.inr u)
      · exact .inr (.inl j)
      · exact .inr (.inr j)
    · rcases hE.imm b (bo b l) with j | j
      · exact .inr (.inl j)
      · exact .inr (.inr j)
    · exact .inr (.inr (Nat.le_trans hE.size l))
  have bf : Zu w w':=hE.big;have bb : qa0 w w':=hE.loops
  have cb : Ext w Z inj st.hp w' Z3 r ba st.nx:=by
    refine ⟨hE.size,fun b l j=>keep b l (fun u=>(ai.imm b u).elim j (fun h4=>q0)),?_,bf,bb,hZ,?_,aa,hE.tape,hE.os,hE.output,hE.frz⟩
    · rintro b ⟨m,blk,o,g1,g2,g3⟩;rcases hb.old m blk g1 with g4 | ⟨g4,_⟩
      · exact cx b ⟨m,blk,o,g4,g2,hR m blk g4 _ g3⟩
      · exact .inl ⟨m,blk,o,g4,g2,by rw [← aa m (h.heap.blk m blk g4).1];exact g3⟩
    · intro b hz;rcases co b hz with l | l | l
      · exact .inl l
      · exact .inr ((ai.imm b l).imp (fun x=>x) (fun x=>x))
      · exact .inr (.inr l)
  have hH : RelH w' Z3 r ba am:=by
    refine ⟨fun m b bj=>?_,fun m n b c p q l j u h4 h5 h6 bz=>?_,fun m b p l j u hz=>?_,ac.heap.zs,ac.heap.zc⟩
    · rcases hb.old m b bj with g | ⟨g,gi⟩
      · obtain ⟨k1,k2⟩:=ac.heap.blk m b g;refine ⟨k1,qkg k2 (fun n p _ hp=>ca n p hp) k1 fun hp=>?_⟩
        cases hq : r m with
        | none=>rfl
        | some p=>rw [hR m b g p hq] at hp;cases hp
      · obtain ⟨k1,k2⟩:=h.heap.blk m b g;refine ⟨Nat.lt_of_lt_of_le k1 hb.nxs,k2.mono (fun b' hz=>?_) hZ bf (fun n hn=>aa n hn) hb.nxs k1 fun p hp bv=>?_⟩
        · refine keep b' (h.heap.zs b' hz) fun hi=>?_;rcases ai.imm b' hi with l | l
          · exact h.heap.z_im hz l
          · have:=h.heap.zs b' hz;omega
        · exact keep _ (h.heap.im_lt ⟨m,b,p.2,g,bv,hp⟩) (aq m b p g bv hp gi)
    · have au : ∀ (m n : Nat) (b c : Blk) (p q : Nat × Nat),find ar m = some b→live b = true→r m = some p→find st.hp n = some c→live c = true→r n = some q→(∀ i,i < k→ρ i≠n)→p.1≠q.1:=by
        intro m n b c p q l u h5 j h4 h6 hn e;have hq : inj n = some q:=by rw [← aa n (h.heap.blk n c j).1];exact h6
        have dc:=h.heap.im_lt (b:=q.1) ⟨n,c,q.2,j,h4,hq⟩;rcases ah.imm p.1 ⟨m,b,p.2,l,u,hR m b l p h5⟩ with g1 | g1
        · rcases hE.imm p.1 (bo _ g1) with g2 | g2
          · exact aq n c q j h4 hq hn (e ▸ g2)
          · omega
        · have:=hE.size;omega
      rcases hb.old m b l with g | ⟨g,gi⟩ <;> rcases hb.old n c j with g' | ⟨g',df⟩
      · exact ac.heap.sep m n b c p q g g' u h4 (hR m b g p h5) (hR n c g' q h6) bz
      · exact au m n b c p q g u h5 g' h4 h6 df
      · exact fun e=>au n m c b q p g' h4 h6 g u h5 gi e.symm
      · exact h.heap.sep m n b c p q g g' u h4 (by rw [← aa m (h.heap.blk m b g).1];exact h5) (by rw [← aa n (h.heap.blk n c g').1];exact h6) bz
    · rcases hb.old m b l with g | ⟨g,gi⟩
      · exact ac.heap.out m b p g j (hR m b g p u) hz
      · have hq : inj m = some p:=by rw [← aa m (h.heap.blk m b g).1];exact u
        rcases co p.1 hz with h4 | h4 | h4
        · exact h.heap.out m b p g j hq h4
        · exact aq m b p g j hq gi h4
        · have:=h.heap.im_lt (b:=p.1) ⟨m,b,p.2,g,j,hq⟩;omega
  exact hK _ _ (q3m h bh cb hH hb.nxs (q85 ct fun n p _ hp=>ca n p hp) hd)
theorem qzc {c : Call} {f : FuncId} {b : List V} {v : V} {hp' : List (Nat × Blk)} {nx' : Nat} (h : Qp ops st o = some true) (d : o.op = .call c) (g : callee st c = some (f,b)) (a : Jj P f b st.hp st.nx v hp' nx') :
    Jl P base ops o st ({sl:=st.sl,hp:=hp',nx:=nx' : AS}.putD o.dst v):=qpw h d g a
inductive Zm (P : Program) (base : Nat) (ops : Array Oper) : List Oper→AS→AS→Prop
  | nil {st : AS} : Zm P base ops [] st st
  | cons {o : Oper} {l : List Oper} {st st1 st2 : AS} : Jl P base ops o st st1→Zm P base ops l st1 st2→Zm P base ops (o::l) st st2
  | wk {ρ : Nat→Nat} {fz ph : List Nat} {l : List Oper} {st st1 st2 : AS} : Wk base ρ fz ph st st1→Zm P base ops l st1 st2→Zm P base ops l st st2
inductive Jk (P : Program) (base : Nat) (ops : Array Oper) (F : List Fp) : List Oper→AS→AS→Prop
  | nil {st : AS} : Jk P base ops F [] st st
  | cons {o : Oper} {l : List Oper} {st st1 st2 : AS} : Jn P ops o (fpAt F l.length) st st1→Jk P base ops F l st1 st2→Jk P base ops F (o::l) st st2
  | piv {o : Oper} {l : List Oper} {st st1 st2 : AS} : U8 (fpAt F l.length) = true→Zm P base ops [o] st st1→Jk P base ops F l st1 st2→Jk P base ops F (o::l) st st2
def q13 (P : Program) (base : Nat) (ops : Array Oper) (dr : Dr) (l : List Oper) (st st' : AS) : Prop:=match dr with
  | none=>Zm P base ops l st st'
  | some F=>Jk P base ops F l st st'
theorem qgj {F : List Fp} : ∀ {l : List Oper} {st st' : AS},Jk P base ops F l st st'→∃ (n : Nat) (S : Nat→AS),n≤l.length∧S 0 = st∧(∀ i o,i < n→l[i]? = some o→Jn P ops o (fpAt F (l.length - (i + 1))) (S i) (S (i + 1)))∧
    ((n = l.length∧S n = st')∨∃ o st1,l[n]? = some o∧U8 (fpAt F (l.length - (n + 1))) = true∧Zm P base ops [o] (S n) st1∧Jk P base ops F (l.drop (n + 1)) st1 st')
  | [],st,st',h=>by cases h;exact ⟨0,fun _=>st,Nat.le_refl _,rfl,fun i o h=>q0,.inl ⟨rfl,rfl⟩⟩
  | o::l,st,st',h=>by
    cases h with
    | @cons _ _ _ st1 _ h1 h2=>
      obtain ⟨n,S,p,k,hs,a⟩:=qgj h2
      refine ⟨n + 1,fun i=>match i with | 0=>st | i + 1=>S i,by simp;omega,rfl,fun i d hi c=>?_,?_⟩
      · cases i with
        | zero=>simp at c;subst c;simp only [k,List.length_cons,Nat.zero_add,Nat.add_sub_cancel];exact h1
        | succ i=>
          have:=hs i d q0 (by simpa using c)
          simp only [List.length_cons]
          rw [show l.length + 1 - (i + 1 + 1) = l.length - (i + 1) by omega]
          exact this
      · rcases a with ⟨b,f⟩ | ⟨d,g,b,f,m,j⟩
        · exact .inl ⟨by simp [b],f⟩
        · refine .inr ⟨d,g,by simpa using b,?_,m,by simpa using j⟩
          rw [List.length_cons,show l.length + 1 - (n + 1 + 1) = l.length - (n + 1) by omega]
          exact f
    | @piv _ _ _ st1 _ h1 h2 b=>exact ⟨0,fun _=>st,Nat.zero_le _,rfl,fun i o h=>q0,.inr ⟨o,st1,rfl,by simpa using h1,h2,by simpa using b⟩⟩
theorem qnu {dr : Dr} {l : List Oper} {st2 : AS} (a : Qp ops st o = some false) (h : q13 P base ops dr l (st.putD o.dst (.d (.tup []))) st2) : q13 P base ops dr (o::l) st st2:=by
  cases dr with
  | none=>exact .cons (qi8 a) h
  | some F=>exact .cons ((qzb a).mono (qhw _)) h
theorem qns {dr : Dr} {l : List Oper} {st2 : AS} {v : V} (b : Yy P T) (d : Qp ops st o = some true) (c : opFn T st o.op = some (v,st1)) (a : okO dr l.length st o.op st1 = true) (h : q13 P base ops dr l (st1.putD o.dst v) st2) : q13 P base ops dr (o::l) st st2:=by
  cases dr with
  | none=>exact .cons (qdo b d c) h
  | some F=>
    simp only [okO,Bool.and_eq_true] at a;exact .cons ((qz9 b d c a.2).mono a.1) h
theorem qnt {dr : Dr} {l : List Oper} {st2 : AS} {n es : Nat} {xs : List (List DV)} {hp2 : List (Nat × Blk)} (a : Yy P T) (g : Qp ops st o = some true) (b : opFn T st o.op = some (.hs n es 0 xs.length,st1)) (f : n = st.nx∧st1.nx = n + 1) (c : st1.hp = (n,.dat es xs)::hp2) (j : find hp2 n = none) (k : okF dr l.length (fp st o.op) = true)
    (h : q13 P base ops dr l (({sl:=st1.sl,hp:=hp2,nx:=st1.nx} : AS).putD o.dst (.d (.sl es xs))) st2) : q13 P base ops dr (o::l) st st2:=by
  cases dr with
  | none=>exact .cons (qpx a g b (Nat.le_of_eq f.1.symm) c j) h
  | some F=>exact .cons ((qza a g b f c j).mono k) h
theorem qnr {dr : Dr} {l : List Oper} {st2 : AS} {c : Call} {f : FuncId} {k : List V} {ds : List DV} {v : V} {hp' : List (Nat × Blk)} {nx' : Nat} {p r : DV} (n : Qp ops st o = some true) (m : o.op = .call c) (q : callee st c = some (f,k))
    (g : Kq st.hp k = some ds) (a : Jj P f (ds.map .d) [] 0 v hp' nx') (b : toD hp' 8 v = some p) (j : DLe p r) (hs : k.all V.isD = true∨r.scalar = true) (s : okF dr l.length (fpC k) = true) (h : q13 P base ops dr l (st.putD o.dst (.d r)) st2) : q13 P base ops dr (o::l) st st2:=by
  cases dr with
  | none=>exact .cons (qi7 n m q g a b j hs) h
  | some F=>exact .cons ((qz8 n m q g a b j hs).mono s) h
def Adm (ops : Array Oper) (S : Nat→Prop) : Prop:=∀ j o,S j→ops[j]? = some o→∀ e∈o.after,Region.binds .any e = true→S e.on
def Behind (ops : Array Oper) (o : Oper) (j : Nat) : Prop:=∀ S : Nat→Prop,Adm ops S→(∀ e∈o.after,Region.binds .any e = true→S e.on)→S j
theorem qj5 (acc : List Nat) (j : Nat) : ∀ (l : List Edge) (s : Nat),(l.foldl (fun s e=>if Region.binds .any e then s ||| 2 ^ e.on ||| acc.getD e.on 0 else s) s).testBit j = true→
    s.testBit j = true∨∃ e∈l,Region.binds .any e = true∧(e.on = j∨(acc.getD e.on 0).testBit j = true)
  | [],s,h=>.inl h
  | e::l,s,h=>by
    simp only [List.foldl_cons] at h
    rcases qj5 acc j l _ h with h | ⟨d,c,b,a⟩
    · by_cases hb : Region.binds .any e = true
      · simp only [hb,if_true,Nat.testBit_or,Bool.or_eq_true,Nat.testBit_two_pow] at h
        rcases h with (h | h) | h
        · exact .inl h
        · exact .inr ⟨e,qe,hb,.inl (by simpa using h)⟩
        · exact .inr ⟨e,qe,hb,.inr h⟩
      · simp only [hb] at h;exact .inl (by simpa using h)
    · exact .inr ⟨d,List.mem_cons_of_mem _ c,b,a⟩
theorem qj6 : ∀ (r : List Oper) (pre : List Oper) (acc : List Nat),ops.toList = pre ++ r→acc.length = pre.length→
    (∀ (i m : Nat),acc[i]? = some m→∃ o,ops[i]? = some o∧∀ j,m.testBit j = true→Behind ops o j)→
    (masks acc r).length = ops.size∧∀ (i m : Nat),(masks acc r)[i]? = some m→∃ o,ops[i]? = some o∧∀ j,m.testBit j = true→Behind ops o j
  | [],pre,acc,h,hl,ha=>by
    refine ⟨?_,ha⟩
    have:=congrArg List.length h
    simp at this
    simp [masks,hl,this]
  | o::r,pre,acc,h,hl,ha=>by
    refine qj6 r (pre ++ [o]) (acc ++ [qj4 acc o]) (by rw [h];simp) (by simp [hl]) ?_
    intro i m b
    by_cases hi : i < acc.length
    · rw [List.getElem?_append_left hi] at b;exact ha i m b
    · rw [List.getElem?_append_right q0] at b
      have k : i = acc.length:=by
        have:=Ke b;simp at this;omega
      subst k
      simp at b;subst b
      refine ⟨o,by rw [← Array.getElem?_toList,h,hl];simp,fun j s S n v=>?_⟩
      rcases qj5 acc j _ _ s with q | ⟨e,u,p,a⟩
      · simp at q
      · have c:=v e (by simpa using u) p
        rcases a with a | a
        · exact a ▸ c
        · rw [List.getD_eq_getElem?_getD] at a
          cases l : acc[e.on]? with
          | none=>rw [l] at a;simp at a
          | some m'=>
            rw [l] at a;obtain ⟨w,g,hb⟩:=ha _ _ l;exact hb j a S n (fun t d f=>n _ _ c g t d f)
theorem qh8 : ∀ (l : List Oper) (n : Nat),qag n l = true→∀ i o,l[i]? = some o→∀ e∈o.after,Region.binds .any e = true→e.on < n + i
  | [],_,_,i,o,h=>by simp at h
  | x::l,n,h,i,o,ho=>by
    simp only [qag,Bool.and_eq_true,List.all_eq_true] at h
    cases i with
    | zero=>
      simp at ho;subst ho
      intro e a hb
      have:=h.1 e (by simpa using a)
      simp [hb] at this
      exact this
    | succ i=>
      intro e a hb
      have:=qh8 l (n + 1) h.2 i o (by simpa using ho) e a hb
      omega
structure q6x (x y : Fp) : Prop where
  ww : ∀ m∈x.2,m ∉ y.2
  rw : ∀ m∈y.2,match x.1 with | none=>False | some r=>m ∉ r
  wr : ∀ m∈x.2,match y.1 with | none=>False | some r=>m ∉ r
theorem qcg {a b : List Nat} (h : q71 a b = true) : ∀ m∈a,m ∉ b:=fun m c hb=>by
  simp only [q71,List.all_eq_true] at h
  have:=h m c
  rw [qj8 hb] at this;cases this
theorem qn3 {x y : Fp} (h : qcf x y = true) : q6x x y:=by
  simp only [qcf,Bool.and_eq_true] at h;obtain ⟨⟨f,c⟩,b⟩:=h;refine ⟨qcg f,fun m a=>?_,fun m a=>?_⟩
  · revert c
    cases x.1 with
    | none=>intro c;rw [List.isEmpty_iff] at c;rw [c] at a;cases a
    | some r=>intro c d;exact qcg c m d a
  · revert b
    cases y.1 with
    | none=>intro b;rw [List.isEmpty_iff] at b;rw [b] at a;cases a
    | some r=>intro b d;exact qcg b m d a
structure q6y (F : List Fp) (ops : Array Oper) : Prop where
  edges : ∀ j o,ops[j]? = some o→∀ e∈o.after,Region.binds .any e = true→e.on < j
  pairs : ∀ i j a b,i < j→ops[i]? = some a→ops[j]? = some b→Behind ops b i∨(q6x (fpAt F (ops.size - (i + 1))) (fpAt F (ops.size - (j + 1)))∧(∀ t∈reads ops a,b.dst≠some t)∧(∀ t∈reads ops b,a.dst≠some t)∧∀ t,a.dst = some t→b.dst≠some t)
  pivs : ∀ i j a b,i < j→ops[i]? = some a→ops[j]? = some b→(U8 (fpAt F (ops.size - (i + 1))) = true∨U8 (fpAt F (ops.size - (j + 1))) = true)→Behind ops b i
theorem qmw {α : Type} {l : List α} {i : Nat} {x : α} (h : l[i]? = some x) : (x,i)∈l.zipIdx:=by grind
theorem qd7 {o : Oper} {t : Tmp} : q7e o t = true↔o.dst = some t:=by
  unfold q7e
  cases o.dst with
  | none=>simp
  | some d=>simp
theorem qoz {F : List Fp} (h : q7d F ops = true) : q6y F ops:=by
  simp only [q7d,Bool.and_eq_true,List.all_eq_true] at h;obtain ⟨m,r⟩:=h;obtain ⟨v,w⟩:=qj6 (ops:=ops) ops.toList [] [] rfl rfl qe;have d : ∀ (i : Nat) (o : Oper),ops[i]? = some o→ops.toList[i]? = some o:=fun i o l=>by rw [Array.getElem?_toList];exact l
  have main : ∀ i j a b,i < j→ops[i]? = some a→ops[j]? = some b→Behind ops b i∨((U8 (fpAt F (ops.size - (i + 1))) = false∧U8 (fpAt F (ops.size - (j + 1))) = false)∧(q6x (fpAt F (ops.size - (i + 1))) (fpAt F (ops.size - (j + 1)))∧(∀ t∈reads ops a,b.dst≠some t)∧(∀ t∈reads ops b,a.dst≠some t)∧∀ t,a.dst = some t→b.dst≠some t)):=fun i j a b c g hb=>by
    have:=r _ (qmw (d j b hb)) _ (qmw (d i a g));simp only [Bool.or_eq_true] at this;rcases this with (h | h) | h
    · have s : Nat.blt i j = true:=by rw [Nat.blt_eq];exact c
      grind
    · grind
    · right;simp only [Bool.and_eq_true,Bool.not_eq_true'] at h;obtain ⟨⟨⟨hp1,hp2⟩,h⟩,q⟩:=h;simp only [qg1,Bool.and_eq_true,List.all_eq_true,Bool.not_eq_true'] at h;obtain ⟨⟨n,p⟩,k⟩:=h;refine ⟨⟨hp1,hp2⟩,qn3 q,fun t f hd=>?_,fun t f hd=>?_,fun t f hd=>?_⟩
      · have:=n t f;rw [qd7.2 hd] at this;cases this
      · have:=p t f;rw [qd7.2 hd] at this;cases this
      · rw [f] at k;simp only at k;rw [qd7.2 hd] at k;simp at k
  refine ⟨fun j o l e u hb=>?_,fun i j a b c g hb=>(main i j a b c g hb).imp id And.right,fun i j a b c g hb hp=>?_⟩
  · have:=qh8 _ 0 m j o (d j o l) e u hb;omega
  grind
end
end Go.Am
namespace Go.Am
open Go
variable {P : Program}
section
variable {base : Nat} {ops : Array Oper}
theorem qdn {l : Array Bool} {i : Nat} : l.getD i false = true↔l[i]? = some true:=by
  rw [Array.getD_eq_getD_getElem?];cases l[i]? <;> simp
theorem qaj {l : Array Bool} {i : Nat} : l.getD i true = false↔l[i]? = some false:=by
  rw [Array.getD_eq_getD_getElem?];cases l[i]? <;> simp
theorem qtr {w : World} {Z : Nat→Prop} {inj : Inj} {hp hp2 : List (Nat × Blk)} {nx : Nat} (h : RelH w Z inj hp nx) (hs : ∀ m,find hp2 m = find hp m) : RelH w Z inj hp2 nx:=by
  refine ⟨fun n b hb=>h.blk n b (by rw [← hs];exact hb),fun n m b c p q a d=>h.sep n m b c p q (by rw [← hs];exact a) (by rw [← hs];exact d),fun n b p a=>h.out n b p (by rw [← hs];exact a),h.zs,h.zc⟩
theorem qpf {w w' : World} {Z Z' : Nat→Prop} {inj inj' : Inj} {hp hp' hp2 : List (Nat × Blk)} {pin : Nat} (h : Ext w Z inj hp w' Z' inj' hp' pin) (hs : ∀ m,find hp2 m = find hp' m) : Ext w Z inj hp w' Z' inj' hp2 pin:=
  {h with imm:=fun b hb=>h.imm b (by
      obtain ⟨n,c,o,f,a,d⟩:=hb
      exact ⟨n,c,o,by rw [← hs];exact f,a,d⟩)}
abbrev fpO (F : List Fp) (ops : Array Oper) (i : Nat) : Fp:=fpAt F (ops.size - (i + 1))
def CutS (ops : Array Oper) (listed : Array Bool) (t : Tmp) (m : Nat) : Prop:=∀ (i : Nat) (o : Oper),ops[i]? = some o→o.dst = some t→(listed[i]? = some true↔i < m)
def CutB (F : List Fp) (ops : Array Oper) (listed : Array Bool) (q m : Nat) : Prop:=∀ (i : Nat) (o : Oper),ops[i]? = some o→q∈(fpO F ops i).2→(listed[i]? = some true↔i < m)
structure Mid (F : List Fp) (ops : Array Oper) (S : Nat→AS) (lo hi : Nat) (listed : Array Bool) (st : AS) : Prop where
  nx : st.nx = (S hi).nx
  sl : ∀ t m,lo≤m→m≤hi→CutS ops listed t m→st.get t = (S m).get t
  hp : ∀ q m,lo≤m→m≤hi→CutB F ops listed q m→find st.hp q = find (S m).hp q
abbrev Steps (P : Program) (F : List Fp) (ops : Array Oper) (S : Nat→AS) (lo hi : Nat) : Prop:=∀ (i : Nat) (o : Oper),lo≤i→i < hi→ops[i]? = some o→Jn P ops o (fpO F ops i) (S i) (S (i + 1))
theorem qcn {F : List Fp} {S : Nat→AS} {lo hi : Nat} (b : hi≤ops.size) (d : Steps P F ops S lo hi) {t : Tmp} {j : Nat} (a : lo≤j) : ∀ m,j≤m→m≤hi→(∀ (i : Nat) (o : Oper),j≤i→i < m→ops[i]? = some o→o.dst≠some t)→(S m).get t = (S j).get t
  | 0,h,_,_=>by have : j = 0:=q0;subst this;rfl
  | m + 1,h,hm,hno=>by
    by_cases f : j = m + 1
    · subst f;rfl
    · obtain ⟨o,c⟩:=Ya (xs:=ops) (i:=m) q0
      rw [(d m o q0 q0 c).sl t (hno m o q0 q0 c)]
      exact qcn b d a m q0 q0 fun i o g k=>hno i o g q0
theorem qcm {F : List Fp} {S : Nat→AS} {lo hi : Nat} (b : hi≤ops.size) (d : Steps P F ops S lo hi) {q j : Nat} (a : lo≤j) : ∀ m,j≤m→m≤hi→(∀ (i : Nat) (o : Oper),j≤i→i < m→ops[i]? = some o→q ∉ (fpO F ops i).2)→find (S m).hp q = find (S j).hp q
  | 0,h,_,_=>by have : j = 0:=q0;subst this;rfl
  | m + 1,h,hm,hno=>by
    by_cases f : j = m + 1
    · subst f;rfl
    · obtain ⟨o,c⟩:=Ya (xs:=ops) (i:=m) q0
      rw [(d m o q0 q0 c).hp q (hno m o q0 q0 c)]
      exact qcm b d a m q0 q0 fun i o g k=>hno i o g q0
theorem q1l {F : List Fp} {S : Nat→AS} {lo hi : Nat} (b : hi≤ops.size) (c : Steps P F ops S lo hi) {j : Nat} (a : lo≤j) : ∀ m,j≤m→m≤hi→(S j).nx≤(S m).nx
  | 0,h,_=>by have : j = 0:=q0;subst this;exact Nat.le_refl _
  | m + 1,h,hm=>by
    by_cases f : j = m + 1
    · subst f;exact Nat.le_refl _
    · obtain ⟨o,d⟩:=Ya (xs:=ops) (i:=m) q0
      exact Nat.le_trans (q1l b c a m q0 q0) (c m o q0 q0 d).nx
theorem qit {F : List Fp} {S : Nat→AS} {lo hi : Nat} (b : hi≤ops.size) (c : Steps P F ops S lo hi) (a : ∀ q,(S lo).nx≤q→find (S lo).hp q = none) : ∀ m,lo≤m→m≤hi→∀ q,(S m).nx≤q→find (S m).hp q = none
  | 0,hl,_,q,hq=>by have : lo = 0:=q0;subst this;exact a q hq
  | m + 1,hl,hm,q,hq=>by
    by_cases f : lo = m + 1
    · subst f;exact a q hq
    obtain ⟨o,d⟩:=Ya (xs:=ops) (i:=m) q0
    have hs:=c m o q0 q0 d
    exact hs.keys q hq (qit b c a m q0 q0 q (Nat.le_trans hs.nx hq))
def Keep (ops : Array Oper) (S : Nat→AS) (lo hi : Nat) (base : Nat) (w0 : World) (Z0 : Nat→Prop) (inj0 : Inj) (hp0 : List (Nat × Blk)) (a0 : Act) (Ds0 : List Nat) (listed : Array Bool) (st : AS) (a : Act) (w : World) : Prop:=
  ∃ Z inj Ds,RelS w Z inj st a Ds∧Ext w0 Z0 inj0 hp0 w Z inj st.hp base∧a.tmps.size = a0.tmps.size∧(∀ D∈Ds,D∈Ds0∨w0.heap.size≤D)∧
    ∀ (i : Nat) (o : Oper),lo≤i→i < hi→ops[i]? = some o→listed[i]?≠some true→∀ m,(S i).nx≤m→m < (S (i + 1)).nx→inj m = none
theorem qh0 {l : Array Bool} {i : Nat} {n : Nat} (hi : l[i]? = some false) (b : l.toList.count false = n + 1) : (l.setIfInBounds i true).toList.count false = n:=by
  have a : i < l.toList.length:=by simpa using Zj hi
  rw [Array.toList_setIfInBounds,List.count_set a]
  have : l.toList[i] = false:=by
    have:=hi;rw [← Array.getElem?_toList,List.getElem?_eq_getElem a] at this;simpa using this
  simp [this,b]
theorem qka {F : List Fp} (l : q6y F ops) {listed : Array Bool} (h : listed.size = ops.size) : ∀ (n i : Nat),i = n→listed[i]? = some false→Region.ready .any ops listed≠[]:=by
  intro n
  induction n using Nat.strongRecOn with
  | _ n ihn=>
    intro i f hi;subst f;obtain ⟨o,k⟩:=Ya (xs:=ops) (i:=i) (by rw [← h];exact Zj hi);by_cases a : ∀ e∈o.after,Region.binds .any e = true→listed.getD e.on false = true
    · intro c;have : i∈Region.ready .any ops listed:=mem_ready.2 ⟨qaj.2 hi,o,k,a⟩;rw [c] at this;cases this
    · simp only [Classical.not_forall] at a;obtain ⟨e,m,hb,j⟩:=a;have g:=l.edges i o k e m hb;obtain ⟨b,d⟩:=Ya (xs:=listed) (i:=e.on) (by have:=Zj hi;omega)
      cases b with
      | true=>exact absurd (qdn.2 d) j
      | false=>exact ihn e.on g e.on rfl d
theorem qfw {listed : Array Bool} {i : Nat} {o : Oper} (f : Adm ops (fun i=>listed[i]? = some true)) (l : ops[i]? = some o) (m : listed[i]? = some false) (d : ∀ e∈o.after,Region.binds .any e = true→listed[e.on]? = some true) :
    (∀ (j : Nat),(listed.setIfInBounds i true)[j]? = some true↔(j = i∨listed[j]? = some true))∧Adm ops (fun j=>(listed.setIfInBounds i true)[j]? = some true):=by
  have a : ∀ (j : Nat),(listed.setIfInBounds i true)[j]? = some true↔(j = i∨listed[j]? = some true):=by
    intro j;by_cases b : j = i
    · subst b;simp [Zj m]
    · rw [Array.getElem?_setIfInBounds_ne (Ne.symm b)];simp [b]
  refine ⟨a,?_⟩;intro j k g c e h hb;rw [a] at g ⊢;rcases g with rfl | g
  · rw [l] at c;cases c;exact .inr (d e h hb)
  · exact .inr (f j k g c e h hb)
theorem qp1 {F : List Fp} {S : Nat→AS} {lo hi : Nat} (bh : lo≤hi) (aa : hi≤ops.size) (hD : q6y F ops) (hS : Steps P F ops S lo hi) (be : ∀ (i j : Nat) (d : Oper),i < hi→hi≤j→ops[j]? = some d→Behind ops d i) (h0 : ∀ q,(S lo).nx≤q→find (S lo).hp q = none)
    {w0 : World} {Z0 : Nat→Prop} {inj0 : Inj} {hp0 : List (Nat × Blk)} {a0 : Act} {Ds0 : List Nat} {ro : Option Nat} {Q : Exit→Act→World→Prop} (bl : base≤(S lo).nx)
    (hd : ∀ (i : Nat) (o : Oper),ops[i]? = some o→J7 a0.tmps.size o.dst = true)
    (hQ : ∀ (fuel : Nat) (listed : Array Bool) (a' : Act) (w' : World),listed.size = ops.size→listed.toList.count false = fuel→Adm ops (fun i=>listed[i]? = some true)→(∀ (i : Nat),listed[i]? = some true↔i < hi)→
      (∃ Z inj Ds,RelS w' Z inj (S hi) a' Ds∧Ext w0 Z0 inj0 hp0 w' Z inj (S hi).hp base∧a'.tmps.size = a0.tmps.size∧base≤(S hi).nx∧(∀ D∈Ds,D∈Ds0∨w0.heap.size≤D))→Yg ro w'→wpAnyIn (Fw ro) 0 P .any ops Q fuel listed a' w') : ∀ (fuel : Nat) (listed : Array Bool) (a : Act) (w : World) (st : AS),
      listed.size = ops.size→listed.toList.count false = fuel→Adm ops (fun i=>listed[i]? = some true)→(∀ (i : Nat),i < lo→listed[i]? = some true)→(∀ (i : Nat),hi≤i→listed[i]?≠some true)→Keep ops S lo hi base w0 Z0 inj0 hp0 a0 Ds0 listed st a w→Yg ro w→Mid F ops S lo hi listed st→
      wpAnyIn (Fw ro) 0 P .any ops Q fuel listed a w:=by
  have fin : ∀ (fuel : Nat) (listed : Array Bool) (a : Act) (w : World) (st : AS),
      listed.size = ops.size→listed.toList.count false = fuel→Adm ops (fun i=>listed[i]? = some true)→(∀ (i : Nat),i < lo→listed[i]? = some true)→(∀ (i : Nat),hi≤i→listed[i]?≠some true)→Keep ops S lo hi base w0 Z0 inj0 hp0 a0 Ds0 listed st a w→Yg ro w→Mid F ops S lo hi listed st→
      (∀ (i : Nat),lo≤i→i < hi→listed[i]? = some true)→wpAnyIn (Fw ro) 0 P .any ops Q fuel listed a w:=by
    intro fuel listed a w st ad hc n s aj hp ae g ab
    have an : ∀ (i : Nat),listed[i]? = some true↔i < hi:=fun i=>⟨fun h=>by
      rcases Nat.lt_or_ge i hi with z | z
      · exact z
      · exact absurd h (aj i z),fun h=>by
      rcases Nat.lt_or_ge i lo with z | z
      · exact s i z
      · exact ab i z h⟩
    refine hQ fuel listed a w ad hc n an ?_ ae
    obtain ⟨Z,inj,Ds,z,h2,h3,h4,_⟩:=hp
    have bq : ∀ q,find (S hi).hp q = find st.hp q:=fun q=>(g.hp q hi bh (Nat.le_refl _) fun i o ho _=>an i).symm
    refine ⟨Z,inj,Ds,⟨fun t v ht=>?_,?_,z.defs,z.nodup,z.marks⟩,qpf h2 bq,h3,Nat.le_trans bl (q1l aa hS (Nat.le_refl _) _ bh (Nat.le_refl _)),h4⟩
    · rw [← g.nx]
      refine z.slots t v ?_
      have:=g.sl t hi bh (Nat.le_refl _) fun i o ho _=>an i
      exact this.trans ht
    · rw [← g.nx];exact qtr z.heap bq
  intro fuel
  induction fuel with
  | zero=>
    intro listed a w st ad hc n s aj hp ae g;refine fin 0 listed a w st ad hc n s aj hp ae g fun i _ hi=>?_;have h:=List.count_eq_zero.1 hc;obtain ⟨b,hb⟩:=Ya (xs:=listed) (i:=i) q0
    cases b with
    | true=>exact hb
    | false=>exact absurd (by simpa using Array.mem_of_getElem? hb) h
  | succ fuel ih=>
    intro listed a w st ad hc n s aj hp ae g;by_cases ab : ∀ (i : Nat),lo≤i→i < hi→listed[i]? = some true
    · exact fin _ listed a w st ad hc n s aj hp ae g ab
    have bi : ∃ k : Nat,(lo≤k∧k < hi)∧listed[k]? = some false:=by
      simp only [Classical.not_forall] at ab;obtain ⟨k,z,h2,h3⟩:=ab;obtain ⟨b,hb⟩:=Ya (xs:=listed) (i:=k) q0
      cases b with
      | true=>exact absurd hb h3
      | false=>exact ⟨k,⟨z,h2⟩,hb⟩
    obtain ⟨k0,⟨df,ch⟩,bz⟩:=bi;refine ⟨fun br=>?_,fun i cp=>?_⟩
    · exact absurd br (qka hD ad k0 k0 rfl bz)
    · obtain ⟨z,o,ho,bj⟩:=mem_ready.1 cp;rw [qaj] at z;have ak : ∀ e∈o.after,Region.binds .any e = true→(fun i=>listed[i]? = some true) e.on:=fun e he hb=>qdn.1 (bj e he hb);have ay : ∀ j,Behind ops o j→listed[j]? = some true:=fun j hb=>hb _ n ak;have x : lo≤i:=Nat.le_of_not_lt fun h=>by have:=s i h;rw [z] at this;cases this
      have ax : i < hi:=Nat.lt_of_not_le fun h=>by
        have:=ay k0 (be k0 i o ch h ho);rw [bz] at this;cases this
      have av : ∀ (j : Nat) (d : Oper),ops[j]? = some d→Behind ops d i→listed[j]?≠some true:=by
        intro j d c hb hj;have:=hb (fun i=>listed[i]? = some true) n (fun e he cb=>n j d hj c e he cb);rw [z] at this;cases this
      obtain ⟨l,bf⟩:=qfw n ho z ak;have bv : (listed.setIfInBounds i true).size = ops.size:=by simp [ad]
      have cs:=qh0 z hc;have da : i < ops.size:=Zj ho;have bk : listed[i]?≠some true:=by rw [z];simp
      have u : ∀ (j : Nat) (d : Oper),ops[j]? = some d→j≠i→(listed[j]? = some true↔j < i)∨(q6x (fpO F ops i) (fpO F ops j)∧(∀ t∈reads ops o,d.dst≠some t)∧∀ t,o.dst = some t→d.dst≠some t):=by
        intro j d c f;rcases Nat.lt_or_gt_of_ne f with h | h
        · rcases hD.pairs j i d o h c ho with hb | ⟨ha,h2,h3,h4⟩
          · exact .inl ⟨fun _=>h,fun _=>ay j hb⟩
          · exact .inr ⟨⟨fun m h5 h6=>ha.ww m h6 h5,ha.wr,ha.rw⟩,h3,fun t h5 h6=>h4 t h6 h5⟩
        · rcases hD.pairs i j o d h ho c with hb | ⟨ha,h2,h3,h4⟩
          · exact .inl ⟨fun p=>absurd p (av j d c hb),fun p=>q0⟩
          · exact .inr ⟨ha,h2,h4⟩
      have aq : ∀ m∈(fpO F ops i).2,find st.hp m = find (S i).hp m:=fun m hm=>by
        refine g.hp m i x q0 fun j d c ac=>?_;by_cases f : j = i
        · subst f;exact ⟨fun p=>absurd p bk,fun p=>absurd p (Nat.lt_irrefl _)⟩
        · rcases u j d c f with h | ⟨ha,_⟩
          · exact h
          · exact absurd ac (ha.ww m hm)
      have cn : Uf ops o (fpO F ops i) (S i) st:=by
        refine ⟨⟨aq,?_⟩,fun t ht=>?_⟩
        · have key : ∀ m,(∀ (j : Nat) (d : Oper),ops[j]? = some d→j≠i→q6x (fpO F ops i) (fpO F ops j)→m ∉ (fpO F ops j).2)→find st.hp m = find (S i).hp m:=fun m hm=>by
            by_cases bp : m∈(fpO F ops i).2
            · exact aq m bp
            refine g.hp m i x q0 fun j d c ac=>?_;by_cases f : j = i
            · subst f;exact absurd ac bp
            · rcases u j d c f with h | ⟨ha,_⟩
              · exact h
              · exact absurd ac (hm j d c f ha)
          cases hR : (fpO F ops i).1 with
          | none=>exact fun m=>key m fun j d _ _ ha ac=>by have:=ha.rw m ac;rw [hR] at this;exact this
          | some r=>exact fun m cc=>key m fun j d _ _ ha ac=>by have:=ha.rw m ac;rw [hR] at this;exact this cc
        · refine g.sl t i x q0 fun j d c ag=>?_;by_cases f : j = i
          · subst f;exact ⟨fun p=>absurd p bk,fun p=>absurd p (Nat.lt_irrefl _)⟩
          · rcases u j d c f with h | ⟨_,hr,_⟩
            · exact h
            · exact absurd ag (hr t ht)
      have ah:=hS i o x ax ho;have bg : (S (i + 1)).nx≤st.nx:=by rw [g.nx];exact q1l aa hS q0 _ q0 (Nat.le_refl _)
      have ba : ∀ m,(S i).nx≤m→m < (S (i + 1)).nx→find st.hp m = none:=fun m h2 h3=>by
        rw [aq m (ah.fresh m h2 h3)];exact qit aa hS h0 i x q0 m h2
      obtain ⟨cd,bm,bd,cf,ci,cg,cj⟩:=ah.other st bg cn ba;refine qfa ho ?_;obtain ⟨Z,inj,Ds,k1,k2,k3,k4,k5⟩:=hp;have cq : base≤(S i).nx:=Nat.le_trans bl (q1l aa hS (Nat.le_refl _) _ x q0);refine bd base ro Q w Z inj a Ds _ k1 (by rw [k3];exact hd i o ho) cq (by have:=ah.nx;omega) ae (k5 i o x ax ho bk) fun a' w' hp'=>?_;obtain ⟨Z',inj',ck,g1,g2,g3,g4,g5⟩:=hp';refine ih _ a' w' cd bv cs bf (fun j hj=>(l j).2 (.inr (s j hj))) (fun j hj p=>?_) ⟨Z',inj',ck,g1,k2.trans g2 (Nat.le_refl _),g3.trans k3,fun D hD=>?_,fun j d az al c bu m h2 h3=>?_⟩ (ae.ext g2) ⟨bm.trans g.nx,fun t m bb hm y=>?_,fun q m bb hm y=>?_⟩
      · rcases (l j).1 p with rfl | p
        · omega
        · exact aj j hj p
      · rcases g4 D hD with h | h
        · exact k4 D h
        · exact .inr (Nat.le_trans k2.size h)
      · have f : j≠i:=by rintro rfl;exact bu ((l j).2 (.inl rfl))
        have bw : listed[j]?≠some true:=fun e=>bu ((l j).2 (.inr e))
        rw [g5 m (by
          have:=q1l aa hS (j:=j + 1) q0 hi q0 (Nat.le_refl _)
          have:=g.nx;omega) (by
          rcases Nat.lt_or_gt_of_ne f with h | h
          · left;have:=q1l aa hS (j:=j + 1) q0 i q0 q0;omega
          · right;have:=q1l aa hS (j:=i + 1) q0 j q0 q0;omega)]
        exact k5 j d az al c bw m h2 h3
      · by_cases am : o.dst = some t
        · have ct : i < m:=(y i o ho am).1 ((l i).2 (.inl rfl));rw [ci t am];refine (qcn aa hS q0 m q0 hm fun j d az al c ag=>?_).symm;have p:=(l j).1 ((y j d c ag).2 al);rcases p with p | p
          · omega
          · rcases u j d c q0 with h | ⟨_,_,hw⟩
            · have:=h.1 p;omega
            · exact hw t am ag
        · rw [cf t am];refine g.sl t m bb hm fun j d c ag=>?_;have f : j≠i:=by rintro rfl;rw [ho] at c;cases c;exact am ag
          rw [← y j d c ag,l];simp [f]
      · by_cases hq : q∈(fpO F ops i).2
        · have ct : i < m:=(y i o ho hq).1 ((l i).2 (.inl rfl));rw [cg q hq];refine (qcm aa hS q0 m q0 hm fun j d az al c ap=>?_).symm;have p:=(l j).1 ((y j d c ap).2 al);rcases p with p | p
          · omega
          · rcases u j d c q0 with h | ⟨ha,_⟩
            · have:=h.1 p;omega
            · exact ha.ww q hq ap
        · rw [cj q hq];refine g.hp q m bb hm fun j d c ap=>?_;have f : j≠i:=by rintro rfl;exact hq ap
          rw [← y j d c ap,l];simp [f]
theorem qtt {w : World} {Z : Nat→Prop} {inj : Inj} {st : AS} {a : Act} {Ds : List Nat} {N : Nat} (h : RelS w Z inj st a Ds) (l : st.nx≤N) : RelS w Z (fun m=>if m < st.nx then inj m else none) {st with nx:=N} a Ds:=by
  have hi : ∀ n,n < st.nx→(fun m=>if m < st.nx then inj m else none) n = inj n:=fun n v=>by simp [v]
  have d : Zu w w:=fun _ c e f h=>⟨c,e,f,h,rfl⟩
  refine ⟨h.slots.mono (fun _ _=>rfl) (fun _ h=>h) d hi l,⟨fun n b hb=>?_,fun n m b c p q g j k t s r=>?_,fun n b p g j k=>?_,h.heap.zs,h.heap.zc⟩,h.defs,h.nodup,h.marks⟩
  · obtain ⟨o,u⟩:=h.heap.blk n b hb;exact ⟨Nat.lt_of_lt_of_le o l,u.mono (fun _ _=>rfl) (fun _ h=>h) d hi l o (fun _ _ _=>rfl)⟩
  · rw [qm (h.heap.blk n b g).1] at s;rw [qm (h.heap.blk m c j).1] at r;exact h.heap.sep n m b c p q g j k t s r
  · rw [qm (h.heap.blk n b g).1] at k;exact h.heap.out n b p g j k
theorem qob {w0 : World} {Z0 : Nat→Prop} {inj0 : Inj} {b : AS} {g : Act} {Ds0 : List Nat} {l : List Oper} {st st' : AS} (h : Zm P base ops l st st') : l = []→∀ a w,Kt base w0 Z0 inj0 b g Ds0 st a w→Kt base w0 Z0 inj0 b g Ds0 st' a w:=by
  induction h with
  | nil=>exact fun _ a w hp=>hp
  | cons _ _ _=>intro h;cases h
  | wk hw _ ih=>
    intro j a w hp;refine ih j a w ?_;obtain ⟨Z',inj',f,o,k,n,p,m⟩:=hp;obtain ⟨c,d⟩:=q20 o hw;exact ⟨_,_,f,c,k.trans d (Nat.le_refl _),n,hw.bs,m⟩
theorem qoa {w0 : World} {Z0 : Nat→Prop} {inj0 : Inj} {k : AS} {p : Act} {Ds0 : List Nat} {ro : Option Nat} {Q : Exit→Act→World→Prop} {K : Act→World→Prop} {l : List Oper} {st st' : AS} (h : Zm P base ops l st st') : ∀ o,l = [o]→J7 p.tmps.size o.dst = true→∀ a w,Kt base w0 Z0 inj0 k p Ds0 st a w→Yg ro w→
    (∀ a' w',Kt base w0 Z0 inj0 k p Ds0 st' a' w'→Yg ro w'→K a' w')→Ue P (Fw ro) ops Q o K a w:=by
  induction h with
  | nil=>intro o h;cases h
  | cons hs hl _=>
    intro o h hd a w hp c n;simp only [List.cons.injEq] at h;obtain ⟨rfl,rfl⟩:=h;refine hp.bind fun Z' inj' g b f j _ d=>?_;exact hs ro Q w Z' inj' a g _ b (by rw [f];exact hd) j c fun a' w' hp'=>n a' w' (qob hl rfl _ _ (d _ _ _ hp')) (by obtain ⟨_,_,_,_,r,_⟩:=hp';exact c.ext r)
  | wk hw _ ih=>
    intro o h hd a w hp c n;refine ih o h hd a w ?_ c n;obtain ⟨Z',inj',g,u,q,t,v,s⟩:=hp;obtain ⟨b,m⟩:=q20 u hw;exact ⟨_,_,g,b,q.trans m (Nat.le_refl _),t,hw.bs,s⟩
theorem qnd {o p : Oper} {i j : Nat} (d : Behind ops o i) (hp : ops[i]? = some p) (b : Behind ops p j) : Behind ops o j:=fun S a f=>b S a fun e c hb=>a i p (d S a f) hp e c hb
theorem qp0 {F : List Fp} (hD : q6y F ops) {w0 : World} {Z0 : Nat→Prop} {inj0 : Inj} {ae : AS} {a0 : Act} {Ds0 : List Nat} {ro : Option Nat} {Q : Exit→Act→World→Prop} (hd : ∀ (i : Nat) (o : Oper),ops[i]? = some o→J7 a0.tmps.size o.dst = true) :
    ∀ (n : Nat) (l : List Oper) (lo : Nat) (st st' : AS),l.length = n→ops.toList.drop lo = l→lo≤ops.size→Jk P base ops F l st st'→(∀ a' w',Kt base w0 Z0 inj0 ae a0 Ds0 st' a' w'→Q .normal a' w')→∀ (fuel : Nat) (listed : Array Bool) (a : Act) (w : World),
      listed.size = ops.size→listed.toList.count false = fuel→Adm ops (fun i=>listed[i]? = some true)→(∀ (i : Nat),listed[i]? = some true↔i < lo)→Kt base w0 Z0 inj0 ae a0 Ds0 st a w→Yg ro w→wpAnyIn (Fw ro) 0 P .any ops Q fuel listed a w:=by
  intro n
  induction n using Nat.strongRecOn with
  | _ n ihn=>
  intro l lo st st' ci al cm hc hQ fuel listed a w bj bo az ah hp bl;obtain ⟨k,S,hk,e0,hS,ak⟩:=qgj hc;have bv : l.length + lo = ops.size:=by rw [← al];simp;omega
  have af : ∀ (i : Nat),l[i]? = ops[lo + i]?:=fun i=>by rw [← al,List.getElem?_drop,Array.getElem?_toList]
  subst e0
  have z : Steps P F ops (fun i=>S (i - lo)) lo (lo + k):=fun i o u h2 ho=>by
    have:=hS (i - lo) o q0 (by rw [af,show lo + (i - lo) = i by omega];exact ho);rw [show l.length - (i - lo + 1) = ops.size - (i + 1) by omega] at this;show Jn P ops o (fpO F ops i) (S (i - lo)) (S (i + 1 - lo));rw [show i + 1 - lo = i - lo + 1 by omega];exact this
  have ao : ∀ (i j : Nat) (oj : Oper),i < lo + k→lo + k≤j→ops[j]? = some oj→Behind ops oj i:=fun i j oj hi hj ag=>by
    rcases ak with ⟨u,_⟩ | ⟨o,st1,u,h2,_,_⟩
    · have:=Zj ag;omega
    · rw [af] at u;rw [show l.length - (k + 1) = ops.size - (lo + k + 1) by omega] at h2;have br : i < ops.size:=by have:=Zj u;omega
      obtain ⟨oi,y⟩:=Ya (xs:=ops) (i:=i) br;have hb:=hD.pivs i (lo + k) oi o hi y u (.inr h2);by_cases bn : j = lo + k
      · subst bn;rw [u] at ag;cases ag;exact hb
      · exact qnd (hD.pivs (lo + k) j o oj q0 u ag (.inl h2)) u hb
  obtain ⟨Z,inj,Ds,u,h2,h3,h4,h5⟩:=hp
  have hN : (S 0).nx≤(S k).nx:=by
    have:=q1l q0 z (Nat.le_refl _) (lo + k) q0 (Nat.le_refl _);simpa using this
  have h0 : ∀ q,(S 0).nx≤q→find (S 0).hp q = none:=fun q hq=>by
    cases hf : find (S 0).hp q with
    | none=>rfl
    | some b=>have:=(u.heap.blk q b hf).1;omega
  have bc : Ext w0 Z0 inj0 ae.hp w Z (fun m=>if m < (S 0).nx then inj m else none) (S 0).hp base:=by
    refine {h2 with imm:=fun b bk=>h2.imm b ?_,pinj:=fun n hn=>(qm (show n < (S 0).nx by omega)).trans (h2.pinj n hn)};obtain ⟨n,c,o,s,g2,g3⟩:=bk;refine ⟨n,c,o,s,g2,?_⟩;have:=(u.heap.blk n c s).1;simpa [this] using g3
  have aq : ∀ (i : Nat),lo≤i→listed[i]?≠some true:=fun i hi h=>by have:=(ah i).1 h;omega
  refine qp1 (lo:=lo) (hi:=lo + k) (S:=fun i=>S (i - lo)) (hp0:=ae.hp) (Ds0:=Ds0) q0 q0 hD z ao (by simpa using h0) (by simpa using h4) hd ?_ fuel listed a w {S 0 with nx:=(S k).nx} bj bo az (fun i hi=>(ah i).2 hi) (fun i hi=>aq i q0) ⟨Z,_,Ds,qtt u hN,bc,h3,h5,fun i o ad ap ho _ m g2 g3=>?_⟩ bl ⟨qe,fun t m am hm ac=>?_,fun q m am hm ac=>?_⟩
  · intro r d a' w' aa x ab f hp' au
    have hp' : Kt base w0 Z0 inj0 ae a0 Ds0 (S k) a' w':=by
      obtain ⟨Z',inj',bq,s,g2,g3,g4,g5⟩:=hp';simp only [Nat.add_sub_cancel_left] at s g2 g4;exact ⟨Z',inj',bq,s,g2,g3,g4,g5⟩
    rcases ak with ⟨e1,e2⟩ | ⟨o,st1,e1,e2,e3,e4⟩
    ·
      subst e2
      have hz : r = 0:=by
        rw [← x,List.count_eq_zero];intro hm;obtain ⟨i,hi⟩:=List.getElem?_of_mem hm;have ap : d[i]? = some false:=by simpa using hi
        have:=(f i).2 (by have:=Zj ap;omega);rw [ap] at this;cases this
      subst hz;refine ⟨?_,hQ _ _ hp'⟩;rw [List.eq_nil_iff_forall_not_mem];intro j hj;obtain ⟨s,o,ho,_⟩:=mem_ready.1 hj;rw [qaj,(f j).2 (by have:=Zj ho;omega)] at s;cases s
    ·
      have p : ops[lo + k]? = some o:=by rw [← af];exact e1
      rw [show l.length - (k + 1) = ops.size - (lo + k + 1) by omega] at e2
      have g : d[lo + k]? = some false:=by
        obtain ⟨b,hb⟩:=Ya (xs:=d) (i:=lo + k) (by rw [aa];exact Zj p)
        cases b with
        | true=>have:=(f _).1 hb;omega
        | false=>exact hb
      cases r with
      | zero=>
        have:=List.count_eq_zero.1 x;exact absurd (by simpa using Array.mem_of_getElem? g) this
      | succ r=>
        refine ⟨fun ay=>absurd ay (qka hD aa _ _ rfl g),fun i hi=>?_⟩;obtain ⟨s,oi,y,bb⟩:=mem_ready.1 hi;rw [qaj] at s;have v : ∀ e∈oi.after,Region.binds .any e = true→d[e.on]? = some true:=fun e he hb=>qdn.1 (bb e he hb)
        have bm : i = lo + k:=by
          rcases Nat.lt_trichotomy i (lo + k) with h | h | h
          · have:=(f i).2 h;rw [s] at this;cases this
          · exact h
          · have:=hD.pivs (lo + k) i o oi h p y (.inl e2) _ ab v;rw [g] at this;cases this
        subst bm;rw [p] at y;cases y;obtain ⟨av,an⟩:=qfw ab p s v;refine qfa p ?_;refine qoa e3 o rfl (hd _ _ p) a' w' hp' au fun a2 w2 hp2 ax=>?_;refine ihn (l.drop (k + 1)).length (by have:=Zj p;simp;omega) _ (lo + k + 1) st1 st' rfl (by rw [← al,List.drop_drop,Nat.add_assoc]) (Zj p) e4 hQ _ _ a2 w2 (by simp [aa]) (qh0 s x) an (fun j=>?_) hp2 ax;rw [av,f];omega
  · have this : (S 0).nx≤(S (i - lo)).nx:=by simpa using q1l q0 z (Nat.le_refl lo) i ad q0
    have ca : (S (i - lo)).nx≤m:=g2;exact ql q0
  · have:=qcn q0 z (t:=t) (Nat.le_refl lo) m am hm fun i o ad hi ho bi=>aq i ad ((ac i o ho bi).2 hi);simp at this ⊢;exact this.symm
  · have:=qcm q0 z (q:=q) (Nat.le_refl lo) m am hm fun i o ad hi ho bp=>aq i ad ((ac i o ho bp).2 hi);simp at this ⊢;exact this.symm
theorem qtm {F : List Fp} {id : Nat} {w : World} {Z : Nat→Prop} {inj : Inj} {st st' : AS} {a : Act} {Ds : List Nat} {ro : Option Nat} {Q : Exit→Act→World→Prop} (t : P.follows .mixedOrders = true) (r : q6y F ops) (u : Jk P base ops F ops.toList st st')
    (h : RelS w Z inj st a Ds) (d : codeOk a.tmps.size (.region id ops true) = true) (hb : base≤st.nx) (m : Yg ro w) (q : ∀ a' w',Kt base w Z inj st a Ds st' a' w'→Q .normal a' w') : (Code.region id ops true).wpIn (Fw ro) 0 P Q a w:=by
  refine wpIn_region_any t ?_;have hs : RelS {w with drawn:=w.drawn + 1} Z inj st a Ds:=⟨h.slots.mono (fun _ _=>rfl) (fun _ h=>h) (fun b c e f hb=>⟨c,e,f,hb,rfl⟩) (fun _ _=>rfl) (Nat.le_refl _),h.heap.same rfl,h.defs,h.nodup,h.marks⟩
  have g : ∀ (i : Nat) (o : Oper),ops[i]? = some o→J7 a.tmps.size o.dst = true:=by
    intro i o n;simp only [codeOk,List.all_eq_true] at d;exact d o (by simpa using Array.mem_of_getElem? n)
  have k : ∀ (i : Nat),(Array.replicate ops.size false)[i]?≠some true:=by
    intro i hi;rw [Array.getElem?_replicate] at hi;split at hi <;> simp at hi
  exact qp0 r g ops.toList.length ops.toList 0 st st' rfl qe (Nat.zero_le _) u q ops.size _ a _ qe qe (fun j o s _=>absurd s (k j)) (fun i=>⟨fun hi=>absurd hi (k i),fun hi=>q0⟩) ⟨Z,inj,Ds,hs,.same rfl rfl rfl rfl,rfl,hb,fun _ h=>.inl h⟩ (fun l p=>m l p)
end
end Go.Am
namespace Go.Am
open Go
variable {P : Program} {T : Tab}
section
variable {w w' : World} {Z Z' : Nat→Prop} {inj inj' : Inj} {hp hp' : List (Nat × Blk)} {nx nx' pin : Nat}
theorem RelH.grow (h : RelH w Z inj hp nx) (d : ∀ b,b < w.heap.size→w'.heap[b]? = w.heap[b]?) : RelH w' Z inj hp nx:=by
  have hb : Zu w w':=fun b c e f j=>⟨c,e,f,(d b (J5 j)).trans j,rfl⟩
  refine ⟨fun n b k=>?_,h.sep,h.out,?_,?_⟩
  · obtain ⟨l,o⟩:=h.blk n b k;exact ⟨l,o.mono (fun b a=>d b (h.zs b a)) (fun _ h=>h) hb (fun _ _=>rfl) (Nat.le_refl _) l fun p hp m=>d _ (h.im_lt ⟨n,b,p.2,k,m,hp⟩)⟩
  · intro b a;obtain ⟨c,e,f,g⟩:=h.zc b a;have:=d b (h.zs b a);exact J5 (this.trans g)
  · intro b a;obtain ⟨c,e,f,g⟩:=h.zc b a;exact ⟨c,e,f,(d b (h.zs b a)).trans g⟩
theorem Ext.alloc (o : Obj) (a : Unfr o:=by first | exact rfl | exact trivial) : Ext w Z inj hp (w.alloc o) Z inj hp pin:=
  ⟨qe,fun b hb _=>Zv w o hb,fun _ h=>.inl h,q2m w o,qip w o,fun _ h=>h,fun _ h=>.inl h,fun _ _=>rfl,rfl,rfl,rfl,qi1 w a⟩
theorem qki (h : RelH w Z inj hp nx) {n : Nat} {b0 blk : Blk} (u : find hp n = some b0) (z : live b0 = true) {b off : Nat} (hi : inj n = some (b,off)) {r s : Loop} (hb : w.heap[b]? = some (.loop r)) (hd : s.defers = r.defers)
    (ac : RelB (w.putObj b (.loop s)) Z inj nx n blk) (ad : live blk = true→True) : RelH (w.putObj b (.loop s)) Z inj (repl hp n blk) nx∧Ext w Z inj hp (w.putObj b (.loop s)) Z inj (repl hp n blk) pin:=by
  have a : ∀ k,k≠b→(w.putObj b (.loop s)).heap[k]? = w.heap[k]?:=fun k g=>World.putObj_heap_other g
  have al : ¬ Z b:=fun hz=>by
    obtain ⟨c,e,f,hc⟩:=h.zc b hz;rw [hb] at hc;cases hc
  have j : Zu w (w.putObj b (.loop s)):=fun k c e f g=>by
    by_cases j : k = b
    · subst j;rw [hb] at g;cases g
    · exact ⟨c,e,f,(a k j).trans g,rfl⟩
  have hz : ∀ k,Z k→(w.putObj b (.loop s)).heap[k]? = w.heap[k]?:=fun k g=>a k (fun e=>al (e ▸ g))
  have d : ∀ m c,find (repl hp n blk) m = some c→(m = n∧c = blk)∨(m≠n∧find hp m = some c):=by
    intro m c v;rw [Z2] at v;split at v
    · rename_i e;subst e;rw [u] at v;simp at v;exact .inl ⟨rfl,v.symm⟩
    · rename_i e;exact .inr ⟨fun h=>e h.symm,v⟩
  have ae : ∀ k,im (repl hp n blk) inj k→im hp inj k:=by
    rintro k ⟨m,c,o,h1,h2,t⟩;rcases d m c h1 with ⟨rfl,rfl⟩ | ⟨_,y⟩
    · exact ⟨m,b0,o,u,z,t⟩
    · exact ⟨m,c,o,y,h2,t⟩
  refine ⟨⟨?_,?_,?_,?_,?_⟩,⟨qe,?_,fun k g=>.inl (ae k g),j,?_,fun _ h=>h,fun _ h=>.inl h,fun _ _=>rfl,rfl,rfl,rfl,qdl (fun _ _ _=>by rw [hb];simp) (fun _ _ _=>qe)⟩⟩
  · intro m c v;rcases d m c v with ⟨rfl,rfl⟩ | ⟨l,y⟩
    · exact ⟨(h.blk _ _ u).1,ac⟩
    · obtain ⟨h5,h6⟩:=h.blk m c y;exact ⟨h5,h6.mono hz (fun _ h=>h) j (fun _ _=>rfl) (Nat.le_refl _) h5 fun p hp ad=>a _ fun e=>h.sep m n c b0 p (b,off) y u ad z hp hi l e⟩
  · intro m m' c c' p q h1 h2 t y h5 h6 l;rcases d m c h1 with ⟨rfl,rfl⟩ | ⟨e1,k1⟩ <;> rcases d m' c' h2 with ⟨rfl,rfl⟩ | ⟨e2,k2⟩
    · exact absurd rfl l
    · exact h.sep _ _ _ _ p q u k2 z y h5 h6 l
    · exact h.sep _ _ _ _ p q k1 u t z h5 h6 l
    · exact h.sep _ _ _ _ p q k1 k2 t y h5 h6 l
  · intro m c p h1 h2 t;rcases d m c h1 with ⟨rfl,rfl⟩ | ⟨e1,k1⟩
    · exact h.out _ _ p u z t
    · exact h.out _ _ p k1 h2 t
  · intro k g;simpa using h.zs k g
  · intro k g;obtain ⟨c,e,f,hc⟩:=h.zc k g;exact ⟨c,e,f,(hz k g).trans hc⟩
  · intro k _ g;exact a k fun e=>g ⟨n,b0,off,u,z,e ▸ hi⟩
  · intro k x g;by_cases j : k = b
    · subst j;rw [hb] at g;cases g;exact ⟨s,World.putObj_heap_same (J5 hb),hd⟩
    · exact ⟨x,(a k j).trans g,rfl⟩
theorem qet (h : RelH w Z inj hp nx) {n : Nat} {s : List (Nat × V)} {l : List Tmp} {as a : Code} {ls ls' : LoopState} {pe pe' : Option Code} (u : find hp n = some (.loop s l as a ls pe)) : ∃ b r,inj n = some (b,0)∧w.heap[b]? = some (.loop r)∧
    r.state = ls∧r.pending = pe∧r.params = l.toArray∧r.assign = as∧r.body = a∧(codeOk r.tmps.size as = true∧codeOk r.tmps.size a = true∧∀ p∈l,p < r.tmps.size)∧Yq w Z inj nx s r.tmps∧
    RelH (w.putObj b (.loop {r with state:=ls',pending:=pe'})) Z inj (repl hp n (.loop s l as a ls' pe')) nx∧Ext w Z inj hp (w.putObj b (.loop {r with state:=ls',pending:=pe'})) Z inj (repl hp n (.loop s l as a ls' pe')) pin:=by
  obtain ⟨y,b,tmps,D,fn,o,d,t,q⟩:=h.blk n _ u;refine ⟨b,_,o,d,rfl,rfl,rfl,rfl,rfl,t,q,?_⟩;refine qki h u rfl o d rfl ?_ (fun _=>trivial);refine ⟨b,tmps,D,fn,o,World.putObj_heap_same (J5 d),t,?_⟩
  have m : ¬ Z b:=fun x=>by
    obtain ⟨c,e,f,v⟩:=h.zc b x;rw [d] at v;cases v
  refine q.mono (fun k g=>World.putObj_heap_other (fun e=>m (e ▸ g))) (fun _ h=>h) ?_ (fun _ _=>rfl) (Nat.le_refl _);intro k c e f g;by_cases j : k = b
  · subst j;rw [d] at g;cases g
  · exact ⟨c,e,f,(World.putObj_heap_other j).trans g,rfl⟩
theorem qts (h : RelH w Z inj hp nx) {n : Nat} {s : List (Nat × V)} {l : List Tmp} {as g : Code} {ls : LoopState} {pe : Option Code} (d : find hp n = some (.loop s l as g ls pe)) : ∃ b r,inj n = some (b,0)∧w.heap[b]? = some (.loop r)∧
    r.state = ls∧r.pending = pe∧∀ a : Loop,a.defers = r.defers→RelH (w.putObj b (.loop a)) Z inj (repl hp n .dead) nx∧Ext w Z inj hp (w.putObj b (.loop a)) Z inj (repl hp n .dead) pin:=by
  obtain ⟨k,b,tmps,D,fn,f,c,o,m⟩:=h.blk n _ d;exact ⟨b,_,f,c,rfl,rfl,fun a j=>qki h d rfl f c j trivial (fun _=>trivial)⟩
theorem qhm : ∀ (b : List V) (k t : Nat) (v : V),find (Y5 k b) t = some v→k≤t∧b[t - k]? = some v
  | [],k,t,v,h=>by simp [Y5,find] at h
  | x::r,k,t,v,h=>by
    simp only [Y5,Ks] at h
    split at h
    · rename_i e;subst e;cases h;simp
    · rename_i e
      obtain ⟨d,a⟩:=qhm r (k + 1) t v h
      refine ⟨q0,?_⟩
      obtain ⟨m,c⟩ : ∃ m,t - k = m + 1:=⟨t - k - 1,q0⟩
      have : t - (k + 1) = m:=by omega
      rw [this] at a
      rw [c];simpa using a
theorem qtv {c : List V} {xs : Array Value} (n : Nat) (h : LRel w Z inj nx c xs) : Yq w Z inj nx (Y5 0 c) (xs ++ Array.replicate (n - xs.size) undef):=by
  intro t v f;obtain ⟨_,b⟩:=qhm c 0 t v f;simp at b;have a : t < xs.size:=by rw [← h.1];exact Ke b
  obtain ⟨x,d⟩:=Ya a;exact ⟨x,by rw [Array.getElem?_append_left a];exact d,h.2 t v x b d⟩
theorem qkk : ∀ (f : List Tmp) (g : List V) (xs : List Value) (s : List (Nat × V)) (tmps : Array Value),g.length = xs.length→(∀ (i : Nat) (d : V) (c : Value),g[i]? = some d→xs[i]? = some c→RelV w Z inj nx d c)→(∀ p∈f,p < tmps.size)→
    Yq w Z inj nx s tmps→Yq w Z inj nx (q1p s f g) ((f.zip xs).foldl (fun tmps (x : Tmp × Value)=>tmps.setIfInBounds x.1 x.2) tmps)∧((f.zip xs).foldl (fun tmps (x : Tmp × Value)=>tmps.setIfInBounds x.1 x.2) tmps).size = tmps.size
  | [],g,xs,s,tmps,hl,hr,hp,h=>by simpa [q1p] using h
  | p::f,[],[],s,tmps,hl,hr,hp,h=>by simpa [q1p] using h
  | p::f,v::g,x::xs,s,tmps,hl,hr,hp,h=>by
    have m:=hr 0 v x rfl rfl
    have l:=h.put m (hp p qe)
    obtain ⟨a,b⟩:=qkk f g xs _ _ (by simpa using hl) (fun i d c hd k=>hr (i + 1) d c (by simpa using hd) (by simpa using k)) (fun q j=>by simpa using hp q (by simp [j])) l
    refine ⟨by simpa [q1p] using a,by simpa using b⟩
  | p::f,[],x::xs,s,tmps,hl,hr,hp,h=>by simp at hl
  | p::f,v::g,[],s,tmps,hl,hr,hp,h=>by simp at hl
theorem qiu {fn : Func} {st : AS} {v : V} (hT : Yy P T) {w0 : World} {Z0 : Nat→Prop} {inj0 : Inj} {hp0 : List (Nat × Blk)} {R : Ending→World→Prop} (j : resV T st fn.results.toList = some v)
    (hR : ∀ x w' Z' inj',RelH w' Z' inj' st.hp st.nx→Ext w0 Z0 inj0 hp0 w' Z' inj' st.hp pin→RelV w' Z' inj' st.nx v x→R (.returned x) w') : ∀ (Ds : List Nat) (w : World) (Z : Nat→Prop) (inj : Inj) (a : Act),
      Yq w Z inj st.nx st.sl a.tmps→RelH w Z inj st.hp st.nx→Ext w0 Z0 inj0 hp0 w Z inj st.hp pin→Ds.Nodup→(∀ D∈Ds,w.heap[D]? = some (.deferred (some []))∧w0.heap.size≤D)→
      LeavesInM (Fw none) 0 P fn a.tmps R (Ds.map fun D=>{target:=.collected D,args:=#[]}) .returning w
  | [],w,Z,inj,a,hs,hh,he,_,_=>by
    obtain ⟨x,hx,hv⟩:=qtz (a:=a) hT hh hs j
    exact ⟨x,hx,hR x w Z inj hh he hv⟩
  | D::Ds,w,Z,inj,a,hs,hh,he,hnd,hm=>by
    obtain ⟨u,ao⟩:=hm D qe
    have l:=List.nodup_cons.1 hnd
    refine ⟨qe,.inl ⟨D,_,rfl,run_takeDeferred u,?_⟩⟩
    have d : ∀ k,k≠D→(w.putObj D (.deferred none)).heap[k]? = w.heap[k]?:=fun k g=>World.putObj_heap_other g
    have ac : ¬ Z D:=fun s=>by obtain ⟨c,e,f,hc⟩:=hh.zc D s;rw [u] at hc;cases hc
    have t : ¬ im st.hp inj D:=fun hi=>by rcases hh.im_obj hi with ⟨_,_,e⟩ | ⟨_,e⟩ | ⟨_,_,e⟩ <;> rw [u] at e <;> cases e
    have s : ∀ k,Z k→(w.putObj D (.deferred none)).heap[k]? = w.heap[k]?:=fun k g=>d k fun e=>ac (e ▸ g)
    have o : Zu w (w.putObj D (.deferred none)):=fun k c e f g=>by
      by_cases z : k = D
      · subst z;rw [u] at g;cases g
      · exact ⟨c,e,f,(d k z).trans g,rfl⟩
    refine qiu hT j hR Ds _ Z inj a (hs.mono s (fun _ h=>h) o (fun _ _=>rfl) (Nat.le_refl _)) ⟨?_,hh.sep,hh.out,fun k g=>by simpa using hh.zs k g,?_⟩ ?_ l.2 ?_
    · intro n b hn
      obtain ⟨m,q⟩:=hh.blk n b hn
      exact ⟨m,q.mono s (fun _ h=>h) o (fun _ _=>rfl) (Nat.le_refl _) m fun p hp hl=>d _ fun e=>t ⟨n,b,p.2,hn,hl,by rw [← e];exact hp⟩⟩
    · intro k g
      obtain ⟨c,e,f,hc⟩:=hh.zc k g
      exact ⟨c,e,f,(s k g).trans hc⟩
    · refine ⟨by simpa using he.size,fun b hb hi=>(d b q0).trans (he.keep b hb hi),he.imm,?_,?_,he.zin,he.zout,he.pinj,he.tape,he.os,he.output,fun x=>(qdl (fun _ _ _=>by rw [u];simp) (fun _ _ _=>qe) x).trans (he.frz x)⟩
      · intro b c e f hb
        obtain ⟨c1,e1,f1,m,s1⟩:=he.big b c e f hb
        obtain ⟨c2,e2,f2,q,s2⟩:=o b c1 e1 f1 m
        exact ⟨c2,e2,f2,q,s2.trans s1⟩
      · intro b r hb
        obtain ⟨r1,m,s1⟩:=he.loops b r hb
        exact ⟨r1,(d b (by have:=J5 hb;omega)).trans m,s1⟩
    · intro D' y
      obtain ⟨m,q⟩:=hm D' (by simp [y])
      exact ⟨(d D' (fun e=>l.1 (e ▸ y))).trans m,q⟩
end
end Go.Am
