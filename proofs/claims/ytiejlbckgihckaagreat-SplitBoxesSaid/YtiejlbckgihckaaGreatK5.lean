/- Am23 Am24 Am25 -/
import Derived.Test.YtiejlbckgihckaaGreatK4
namespace Go.Am
open Go
variable {P : Program} {T : Tab}
section
variable {base : Nat} {w : World} {Z : Nat→Prop} {inj : Inj} {st st1 st2 : AS} {a : Act} {Ds : List Nat} {ops : Array Oper} {o : Oper}
structure Uf (ops : Array Oper) (o : Oper) (x : Fp) (st st2 : AS) : Prop where
  blk : qcr x st st2
  sl : ∀ t∈reads ops o,st2.get t = st.get t
theorem Uf.ev {x : Fp} (h : Uf ops o x st st2) {y : Operand} (a : y∈o.op.operands) : st2.ev y = st.ev y:=by
  cases y with
  | tmp t=>exact h.sl t (List.mem_append_left _ (by unfold slotsOf;rw [List.mem_filterMap];exact ⟨.tmp t,by simpa using a,rfl⟩))
  | const v=>rfl
  | func f=>rfl
  | global g=>rfl
theorem Uf.guard {x : Fp} (h : Uf ops o x st st2) : Qr ops st2 o = Qr ops st o:=by
  have hs:=h.sl;unfold reads at hs;unfold Qr;grind
theorem Uf.callee {x : Fp} (h : Uf ops o x st st2) {c : Call} (d : o.op = .call c) : callee st2 c = callee st c:=by
  obtain ⟨a,args,argTypes⟩:=c;unfold Am.callee
  cases a with
  | builtin b=>rfl
  | invoke r n=>rfl
  | value f=>
    simp only;rw [h.ev (y:=f) (by rw [d];simp [Op.operands,Call.operands]),q4v (fun x g=>h.ev (y:=x) (by rw [d];simp [Op.operands,Call.operands];exact .inr (by simpa using g)))]
theorem Zb {st : AS} {d : Option Tmp} {v : V} {t : Tmp} : (st.putD d v).get t = if d = some t then some v else st.get t:=by
  cases d with
  | none=>simp [AS.putD]
  | some d=>simp only [AS.putD,AS.put,AS.get,Kx,Option.some.injEq]
theorem qg7 {w : World} {Z : Nat→Prop} {inj : Inj} {nx : Nat} {fz : List Nat} {b : AS} {v : V} {x : Value} (h : RelV w Z inj nx v x) : Wv b (fun n=>n) fz [] nx v v:=by
  induction h with
  | d h=>exact .d (.refl _)
  | @agg ds cs hl _ ih=>
    exact .agg rfl fun i c d a hd=>by
      rw [a] at hd;cases hd;obtain ⟨y,g⟩:=Yc (xs:=cs) (i:=i) (by rw [← hl];exact Kh a);grind
  | @tup ds cs hl _ ih=>
    exact .tup rfl fun i c d a hd=>by
      rw [a] at hd;cases hd;obtain ⟨y,g⟩:=Yc (xs:=cs) (i:=i) (by rw [← hl];exact Kh a);grind
  | @fn f ds cs hl _ ih=>
    exact .fn rfl fun i c d a hd=>by
      rw [a] at hd;cases hd;obtain ⟨y,g⟩:=Yc (xs:=cs) (i:=i) (by rw [← hl];exact Kh a);grind
  | ref h1 h2=>exact .ref rfl qe h1
  | @dref cs j _ _ _ _ _=>exact .dref cs j
  | hsnil h1=>exact .hs rfl qe h1
  | hs h1 _ _ _=>exact .hs rfl qe h1
  | yld h1 _=>exact .yld rfl qe h1
  | mp h1 _=>exact .mp rfl qe h1
  | dead v=>exact .dead _
theorem q11j {w : World} {Z : Nat→Prop} {inj : Inj} {nx n : Nat} {fz : List Nat} {f : AS} {b : Blk} (h : RelB w Z inj nx n b) : Wb f (fun n=>n) fz [] nx b b:=by
  cases b with
  | dead=>exact .dead _
  | dat es xs=>exact .dat _ _
  | mp es=>exact .mp _
  | cel es xs=>
    obtain ⟨_,_,q⟩:=h;refine .cel rfl fun i x y a k=>?_;rw [a] at k;cases k;refine ⟨rfl,fun j c d m hd=>?_⟩;rw [m] at hd;cases hd;rcases q with ⟨rfl,_⟩ | ⟨b,o,arr,ty,_,_,r⟩
    · simp at a
    · obtain ⟨z,c',_,u⟩:=r i x j c a m;exact ⟨qg7 u,z⟩
  | loop s ps assign body dn pe=>
    obtain ⟨b,tmps,D,fn,_,_,_,v⟩:=h;refine .loop fun t g l=>?_;obtain ⟨x,_,p⟩:=v t g l;exact ⟨g,l,qg7 p⟩
theorem qir {w' : World} {Z' : Nat→Prop} {inj' : Inj} {a' : Act} {r : List Nat} {dst : Option Tmp} {n es : Nat} {xs : List (List DV)} {hp2 : List (Nat × Blk)} (u : RelS w' Z' inj' (st1.putD dst (.hs n es 0 xs.length)) a' r) (w : st1.hp = (n,.dat es xs)::hp2) (hf : find hp2 n = none) (hn : base≤n) (h4 : base≤st1.nx) :
    Wk base (fun n=>n) [n] [] (st1.putD dst (.hs n es 0 xs.length)) (({sl:=st1.sl,hp:=hp2,nx:=st1.nx} : AS).putD dst (.d (.sl es xs))):=by
  have f : (({sl:=st1.sl,hp:=hp2,nx:=st1.nx} : AS).putD dst (.d (.sl es xs))).nx = st1.nx:=Yo _ _ _;have p : (({sl:=st1.sl,hp:=hp2,nx:=st1.nx} : AS).putD dst (.d (.sl es xs))).hp = hp2:=Yn _ _ _
  have g : ∀ m b,find hp2 m = some b→m≠n∧find (st1.putD dst (.hs n es 0 xs.length)).hp m = some b:=by
    intro m b a;have c : m≠n:=by rintro rfl;rw [hf] at a;cases a
    refine ⟨c,?_⟩;rw [Yn,w,Kx,qx (by intro e;exact c e.symm)];exact a
  refine ⟨?_,?_,?_,?_,fun _ _=>rfl,by rw [f];exact h4,fun m a=>by simp at a;omega,fun m a=>by cases a⟩
  · intro t q j;rw [f];rw [Zb] at j;by_cases l : dst = some t
    · rw [qs l] at j;cases j;refine ⟨_,by rw [Zb,qs l],.frz (k:=es) (xs:=xs) ?_ qe q0 qe rfl⟩;show find (st1.putD dst _).hp n = _;rw [Yn,w,Kx,qs rfl]
    · rw [qx l] at j;have s : (st1.putD dst (.hs n es 0 xs.length)).get t = some q:=by rw [Zb,qx l];exact j
      obtain ⟨x,_,v⟩:=u.slots t q s;rw [Yo] at v;exact ⟨q,s,qg7 v⟩
  · intro m o a;rw [f];unfold AS.blk at a;rw [p] at a;obtain ⟨c,h⟩:=g m o a;obtain ⟨z,y⟩:=u.heap.blk m o h;rw [Yo] at z y;exact ⟨z,.inr ⟨qe,o,h,q11j y⟩⟩
  · omega
  · intro m b a _ hc;unfold AS.blk at a;grind
theorem qts {w : World} {Z : Nat→Prop} {inj : Inj} {a a' : Act} {Ds : List Nat} {w' : World} {dst : Option Tmp} {n es : Nat} {xs : List (List DV)} {hp2 : List (Nat × Blk)}
    (h : Kw base w Z inj st a Ds (st1.putD dst (.hs n es 0 xs.length)) a' w') (o : st1.hp = (n,.dat es xs)::hp2) (p : find hp2 n = none) (q : base≤n) :
    Kw base w Z inj st a Ds (({sl:=st1.sl,hp:=hp2,nx:=st1.nx} : AS).putD dst (.d (.sl es xs))) a' w':=by
  obtain ⟨Z',inj',g,j,m,k,f,l⟩:=h;obtain ⟨c,b⟩:=q1w j (qir j o p q (by rw [Yo] at f;exact f));exact ⟨_,_,g,c,m.trans b (Nat.le_refl _),k,by rw [Yo];rw [Yo] at f;exact f,l⟩
theorem qqm {n es : Nat} {xs : List (List DV)} {hp2 : List (Nat × Blk)} (k : Z6 P T) (c : Qr ops st o = some true) (g : opFn T st o.op = some (.hs n es 0 xs.length,st1)) (m : st.nx≤n) (j : st1.hp = (n,.dat es xs)::hp2) (l : find hp2 n = none) :
    Js P base ops o st (({sl:=st1.sl,hp:=hp2,nx:=st1.nx} : AS).putD o.dst (.d (.sl es xs))):=by
  intro ro Q w Z inj a Ds K h hd hb b f;exact qe7 k c g ro Q w Z inj a Ds K h hd hb b fun a' w' hp=>f a' w' (qts hp j l (Nat.le_trans hb m))
theorem q8k {w : World} {Z : Nat→Prop} {inj inj' : Inj} {nx : Nat} {v : V} {x : Value} (h : RelV w Z inj nx v x) (hi : ∀ n p,n < nx→inj n = some p→inj' n = some p) : RelV w Z inj' nx v x:=by
  induction h with
  | d h=>exact .d h
  | agg hl _ ih=>exact .agg hl ih
  | tup hl _ ih=>exact .tup hl ih
  | fn hl _ ih=>exact .fn hl ih
  | ref h1 h2=>exact .ref h1 (hi _ _ h1 h2)
  | dref h1 h2 h3=>exact .dref h1 h2 h3
  | hsnil h1=>exact .hsnil h1
  | hs h1 h2 hsp h3=>
    refine .hs h1 h2 hsp fun a=>?_;grind
  | yld h1 h2=>exact .yld h1 (hi _ _ h1 h2)
  | mp h1 h2=>exact .mp h1 (hi _ _ h1 h2)
  | dead v=>exact .dead v
theorem ql6 {w : World} {Z : Nat→Prop} {inj inj' : Inj} {nx n : Nat} {b : Blk} (h : RelB w Z inj nx n b) (hi : ∀ n p,n < nx→inj n = some p→inj' n = some p) (r : n < nx) (q : inj n = none→inj' n = none) : RelB w Z inj' nx n b:=by
  cases b with
  | dead=>trivial
  | dat es xs=>
    obtain ⟨g,f,a⟩:=h;refine ⟨g,f,?_⟩;grind
  | mp es=>
    obtain ⟨b,k,cl,g,f⟩:=h;exact ⟨b,k,cl,hi _ _ r g,f⟩
  | cel es xs=>
    obtain ⟨g,f,a⟩:=h;refine ⟨g,f,?_⟩;rcases a with ⟨a,l⟩ | ⟨b,o,arr,ty,a,l,z⟩
    · grind
    · refine .inr ⟨b,o,arr,ty,hi _ _ r a,l,fun i x j d m hd=>?_⟩;obtain ⟨h6,c,h7,h8⟩:=z i x j d m hd;exact ⟨h6,c,h7,q8k h8 hi⟩
  | loop s ps assign body dn pe=>
    obtain ⟨b,tmps,D,fn,g,f,a,l⟩:=h;refine ⟨b,tmps,D,fn,hi _ _ r g,f,a,fun t v y=>?_⟩;obtain ⟨x,m,u⟩:=l t v y;exact ⟨x,m,q8k u hi⟩
def qac (base lo hi : Nat) (w : World) (Z : Nat→Prop) (inj : Inj) (st : AS) (a : Act) (Ds : List Nat) (st' : AS) (a' : Act) (w' : World) : Prop:=
  ∃ Z' inj' Ds',RelS w' Z' inj' st' a' Ds'∧Ext w Z inj st.hp w' Z' inj' st'.hp base∧a'.tmps.size = a.tmps.size∧(∀ D∈Ds',D∈Ds∨w.heap.size≤D)∧∀ m,m < st.nx→(m < lo∨hi≤m)→inj' m = inj m
def qct (P : Program) (base : Nat) (ops : Array Oper) (o : Oper) (st st' : AS) (lo hi : Nat) : Prop:=
  ∀ (ro : Option Nat) (Q : Exit→Act→World→Prop) (w : World) (Z : Nat→Prop) (inj : Inj) (a : Act) (Ds : List Nat) (K : Act→World→Prop),RelS w Z inj st a Ds→Jc a.tmps.size o.dst = true→base≤lo→base≤st.nx→Yh ro w→(∀ m,lo≤m→m < hi→inj m = none)→
    (∀ a' w',qac base lo hi w Z inj st a Ds st' a' w'→K a' w')→Ue P (Fw ro) ops Q o K a w
theorem qix {st' : AS} {lo hi : Nat} (h : Js P st.nx ops o st st') : qct P base ops o st st' lo hi:=by
  intro ro Q w Z inj a Ds K g hd _ hb c _ j;refine h ro Q w Z inj a Ds K g hd (Nat.le_refl _) c fun a' w' hp=>j a' w' ?_;obtain ⟨Z',inj',b,f,d,k,p,l⟩:=hp;exact ⟨Z',inj',b,f,d.pin_le hb,k,l,fun m n _=>d.pinj m n⟩
theorem qlc {w : World} {Z : Nat→Prop} {inj : Inj} {w' : World} {Z' : Nat→Prop} {inj' b : Inj} {N l : Nat} {v : V} {x k : Value} (h : RelV w Z inj N v x) (g : RelV w' Z' inj' l v k) (hi : ∀ m p,m < N→inj' m = some p→b m = some p) : RelV w' Z' b N v k:=by
  induction g generalizing x with
  | d g=>exact .d g
  | @agg ds cs hl _ ih=>
    cases h with | @agg _ cs0 hl0 h0=>
    refine .agg hl fun i d c hd j=>?_;grind
  | @tup ds cs hl _ ih=>
    cases h with | @tup _ cs0 hl0 h0=>
    refine .tup hl fun i d c hd j=>?_;grind
  | @fn f ds cs hl _ ih=>
    cases h with | @fn _ _ cs0 hl0 h0=>
    refine .fn hl fun i d c hd j=>?_;grind
  | ref h1 h2=>
    have a:=by cases h with | ref h1 _=>exact h1
    exact .ref a (hi _ _ a h2)
  | dref h1 h2 h3=>exact .dref h1 h2 h3
  | hsnil h1=>
    have a:=by cases h with
      | hsnil h1=>exact h1
      | hs h1 _ _ _=>exact h1
    exact .hsnil a
  | hs h1 h2 hsp h3=>
    have a:=by cases h with
      | hsnil h1=>exact h1
      | hs h1 _ _ _=>exact h1
    refine .hs a h2 hsp fun j=>?_;grind
  | yld h1 h2=>
    have a:=by cases h with | yld h1 _=>exact h1
    exact .yld a (hi _ _ a h2)
  | mp h1 h2=>
    have a:=by cases h with | mp h1 _=>exact h1
    exact .mp a (hi _ _ a h2)
  | dead v=>exact .dead v
theorem qui {w : World} {Z : Nat→Prop} {inj : Inj} {w' : World} {Z' : Nat→Prop} {inj' a : Inj} {N N' n : Nat} {b : Blk} (h : RelB w Z inj N n b) (r : RelB w' Z' inj' N' n b) (hi : ∀ m p,m < N→inj' m = some p→a m = some p) (z : a n = inj' n) : RelB w' Z' a N n b:=by
  cases b with
  | dead=>trivial
  | dat es xs=>
    obtain ⟨k,g,f⟩:=r;refine ⟨k,g,?_⟩;grind
  | mp es=>
    obtain ⟨b,q,cl,k,g⟩:=r;exact ⟨b,q,cl,z.trans k,g⟩
  | cel es xs=>
    obtain ⟨k,g,f⟩:=r;refine ⟨k,g,?_⟩;rw [z];rcases f with f | ⟨b,o,arr,ty,f,u,h5⟩
    · grind
    · refine .inr ⟨b,o,arr,ty,f,u,fun i x j d l hd=>?_⟩;obtain ⟨h6,c,h7,h8⟩:=h5 i x j d l hd;obtain ⟨_,_,k3⟩:=h;rcases k3 with ⟨rfl,_⟩ | ⟨_,_,_,_,_,_,k5⟩
      · simp at l
      · obtain ⟨_,c0,_,k8⟩:=k5 i x j d l hd;exact ⟨h6,c,h7,qlc k8 h8 hi⟩
  | loop s ps assign body dn pe=>
    obtain ⟨b,tmps,D,fn,k,g,f,u⟩:=r;obtain ⟨_,_,_,_,_,_,_,k4⟩:=h;refine ⟨b,tmps,D,fn,z.trans k,g,f,fun t v ht=>?_⟩;obtain ⟨x,l,hr⟩:=u t v ht;obtain ⟨x0,_,y⟩:=k4 t v ht;exact ⟨x,l,qlc y hr hi⟩
theorem qiw {mk : Nat→V} {es q : Nat} {xs : List (List DV)} {f : List (Nat × Blk)} (hT : Z6 P T) (hg : Qr ops st o = some true) (hk : (∃ es,mk = fun n=>.ref n es 0 0)∨(∃ es l,mk = fun n=>.hs n es 0 l)∨(mk = fun n=>.mp n))
    (ho : opFn T st o.op = some (mk st.nx,⟨st.sl,(st.nx,.dat es xs)::f,st.nx + 1⟩)) (hq : q < st.nx) (aw : find st.hp q = none) (hold : ∀ m c,find f m = some c→c = .dead∨find st.hp m = some c) (af : ∀ m,find st.hp m = none→find f m = none) :
    qct P base ops o st (({sl:=st.sl,hp:=(q,.dat es xs)::f,nx:=st.nx} : AS).putD o.dst (mk q)) q (q + 1):=by
  intro ro Q w Z inj a Ds K h hd bo hb _ ak hK;have ax : inj q = none:=ak q (Nat.le_refl _) q0;unfold Ue;rw [q3k h hg];simp only [if_true];refine ⟨fun _ _=>trivial,?_⟩;rw [show (Fw ro).round = ro from rfl,Oper.semAt_eq ro _ o (qki ho)];obtain ⟨x,w',inj',hr,hv,hh,j,-,-⟩:=qkj hT h ho;simp only at hv hh j;obtain ⟨d,ah⟩ : ∃ d : Inj,d = fun m=>if m = q then inj' st.nx else inj' m:=⟨_,rfl⟩
  have ac : d q = inj' st.nx:=by rw [ah];simp
  have ae : ∀ m,m≠q→d m = inj' m:=fun m g=>by rw [ah];simp [g]
  have hi : ∀ m p,m < st.nx→inj' m = some p→d m = some p:=fun m p g hp=>by
    by_cases k : m = q
    · subst k;rw [j.pinj m g,ax] at hp;cases hp
    grind
  have ag : ∀ m c,find f m = some c→m < st.nx:=fun m c g=>by
    cases hf : find st.hp m with
    | none=>rw [af m hf] at g;cases g
    | some b=>exact (h.heap.blk m b hf).1
  have bx : ∀ m c,find f m = some c→m≠q:=fun m c g e=>by grind
  have up : ∀ m c,find f m = some c→find ((st.nx,Blk.dat es xs)::f) m = some c:=fun m c g=>by
    rw [Kx,qx (by have:=ag m c g;omega)];exact g
  have aj : find ((st.nx,Blk.dat es xs)::f) st.nx = some (.dat es xs):=by rw [Kx,qs rfl]
  have back : ∀ m c,find ((q,Blk.dat es xs)::f) m = some c→∃ u,find ((st.nx,Blk.dat es xs)::f) u = some c∧d m = inj' u∧((m = q∧u = st.nx)∨(m≠q∧u = m)):=by
    intro m c g;rw [Kx] at g;grind
  have hH : RelH w' Z d ((q,Blk.dat es xs)::f) st.nx:=by
    refine ⟨fun m c g=>?_,fun m n b c p r h1 s h3 h4 h5 h6 aq=>?_,fun m b p h1 s h3=>?_,hh.zs,hh.zc⟩
    · rw [Kx] at g;by_cases k : q = m
      · subst k;rw [qs rfl] at g;cases g;refine ⟨hq,?_⟩;obtain ⟨_,k1,k2,k3⟩:=hh.blk st.nx _ aj;exact ⟨k1,k2,by rw [ac];exact k3⟩
      · rw [qx k] at g;refine ⟨ag m c g,?_⟩;rcases hold m c g with rfl | au
        · trivial
        · exact qui (h.heap.blk m c au).2 (hh.blk m c (up m c g)).2 hi (ae m (Ne.symm k))
    · obtain ⟨u,a1,a2,a3⟩:=back m b h1;obtain ⟨n',b1,b2,b3⟩:=back n c s;refine hh.sep u n' b c p r a1 b1 h3 h4 (a2 ▸ h5) (b2 ▸ h6) ?_;rcases a3 with ⟨rfl,rfl⟩ | ⟨a3,rfl⟩ <;> rcases b3 with ⟨rfl,rfl⟩ | ⟨b3,rfl⟩
      · omega
      · intro e;have : find f n' = some c:=by rw [Kx,qx (Ne.symm b3)] at s;exact s
        grind
      · intro e;have : find f u = some b:=by rw [Kx,qx (Ne.symm a3)] at h1;exact h1
        grind
      · exact aq
    · obtain ⟨u,a1,a2,_⟩:=back m b h1;exact hh.out u b p a1 s (a2 ▸ h3)
  have hE : Ext w Z inj st.hp w' Z d ((q,Blk.dat es xs)::f) base:=by
    refine ⟨j.size,j.keep,?_,j.big,j.loops,j.zin,j.zout,fun n hn=>?_,j.tape,j.os,j.output,j.frz⟩
    · rintro b ⟨m,c,off,g1,g2,g3⟩;obtain ⟨u,a1,a2,_⟩:=back m c g1;exact j.imm b ⟨u,c,off,a1,g2,a2 ▸ g3⟩
    · rw [ae n q0];exact j.pinj n q0
  have hV : RelV w' Z d st.nx (mk q) x:=by
    rcases hk with ⟨es,rfl⟩ | ⟨es,l,rfl⟩ | rfl
    rotate_right
    · cases hv with | mp h1 s=>exact .mp hq (ac.trans s)
    · cases hv with | ref h1 s=>exact .ref hq (ac.trans s)
    · cases hv with
      | hsnil h1=>exact .hsnil hq
      | hs h1 s hsp h3=>
        refine .hs hq s hsp fun hc=>?_;grind
  have hS : Yv w' Z d st.nx st.sl a.tmps:=fun t v ht=>by
    obtain ⟨y,hy,hr⟩:=h.slots t v ht;exact ⟨y,hy,q8k (hr.mono (j.zkeep h.heap) j.zin j.big j.pinj (Nat.le_refl _)) hi⟩
  have z : qac base q (q + 1) w Z inj st a Ds (({sl:=st.sl,hp:=(q,.dat es xs)::f,nx:=st.nx} : AS).putD o.dst (mk q)) (a.put o.dst x) w':=by
    refine ⟨Z,d,Ds,?_,by rw [Yn];exact hE,qkr _ _ _,fun _ h=>.inl h,fun m g k=>?_⟩
    · generalize bb : o.dst = dst at hd
      cases dst with
      | none=>exact ⟨hS,hH,h.defs,h.nodup,fun D hD=>j.marks h.heap (h.marks D hD)⟩
      | some t=>exact ⟨hS.put hV (qhu hd),hH,h.defs,h.nodup,fun D hD=>j.marks h.heap (h.marks D hD)⟩
    · rw [ae m q0];exact j.pinj m g
  rcases hr with hr | ⟨hr,rfl⟩
  · rw [hr];exact hK _ _ z
  · rw [hr];exact hK _ _ z
theorem qtr {w : World} {Z : Nat→Prop} {inj : Inj} {a a' : Act} {Ds : List Nat} {w' : World} {dst : Option Tmp} {n es lo hi : Nat} {xs : List (List DV)} {hp2 : List (Nat × Blk)} (g : base≤st1.nx)
    (h : qac base lo hi w Z inj st a Ds (st1.putD dst (.hs n es 0 xs.length)) a' w') (s : st1.hp = (n,.dat es xs)::hp2) (t : find hp2 n = none) (u : base≤n) :
    qac base lo hi w Z inj st a Ds (({sl:=st1.sl,hp:=hp2,nx:=st1.nx} : AS).putD dst (.d (.sl es xs))) a' w':=by
  obtain ⟨Z',inj',f,k,o,l,p,r⟩:=h;have hp : Kw base w Z inj st a Ds (st1.putD dst (.hs n es 0 xs.length)) a' w':=⟨Z',inj',f,k,o,l,by rw [Yo];exact g,p⟩
  obtain ⟨c,b⟩:=q1w k (qir k s t u g);refine ⟨_,_,f,c,o.trans b (Nat.le_refl _),l,p,fun m q j=>?_⟩;rw [← r m q j];simp [wkI]
structure Ju (P : Program) (ops : Array Oper) (o : Oper) (x : Fp) (st st1 : AS) : Prop where
  nx : st.nx≤st1.nx
  sl : ∀ t,o.dst≠some t→st1.get t = st.get t
  hp : ∀ m,m ∉ x.2→find st1.hp m = find st.hp m
  keys : ∀ m,st1.nx≤m→find st.hp m = none→find st1.hp m = none
  fresh : ∀ m,st.nx≤m→m < st1.nx→m∈x.2
  other : ∀ st2,st1.nx≤st2.nx→Uf ops o x st st2→(∀ m,st.nx≤m→m < st1.nx→find st2.hp m = none)→∃ st3,st3.nx = st2.nx∧(∀ base,qct P base ops o st2 st3 st.nx st1.nx)∧
    (∀ t,o.dst≠some t→st3.get t = st2.get t)∧(∀ t,o.dst = some t→st3.get t = st1.get t)∧(∀ m∈x.2,find st3.hp m = find st1.hp m)∧(∀ m,m ∉ x.2→find st3.hp m = find st2.hp m)
theorem qg2 : ∀ {b : List Nat} {n : Nat},hasN b n = true→n∈b
  | a::r,n,h=>by
    simp only [hasN,Bool.or_eq_true] at h
    rcases h with h | h
    · rw [Nat.eq_of_beq_eq_true h];simp
    · exact List.mem_cons_of_mem _ (qg2 h)
theorem qjv : ∀ {b : List Nat} {n : Nat},n∈b→hasN b n = true
  | a::r,n,h=>by
    simp only [hasN,Bool.or_eq_true]
    rcases List.mem_cons.1 h with rfl | h
    · left;exact Nat.beq_refl _
    · exact .inr (qjv h)
theorem qij (y : Fp) : fpLe (some [],[]) y = true:=by
  unfold fpLe;cases y.1 <;> rfl
theorem Ju.mono {x y : Fp} (h : Ju P ops o x st st1) (l : fpLe x y = true) : Ju P ops o y st st1:=by
  simp only [fpLe,Bool.and_eq_true,subN,List.all_eq_true] at l;obtain ⟨q,d⟩:=l;have c : ∀ m∈x.2,m∈y.2:=fun m a=>qg2 (q m a);refine ⟨h.nx,h.sl,fun m a=>h.hp m fun e=>a (c m e),h.keys,fun m b hb=>c m (h.fresh m b hb),fun st2 v b t=>?_⟩
  have f : Uf ops o x st st2:=by
    refine ⟨⟨fun m a=>b.blk.1 m (c m a),?_⟩,b.sl⟩;have hb:=b.blk.2;revert d hb
    cases y.1 with
    | none=>grind
    | some r=>
      cases x.1 with
      | none=>simp
      | some r'=>
        intro d hb m a;exact hb m (qg2 (by simpa using List.all_eq_true.1 d m a))
  obtain ⟨g,u,n,p,s,w,k⟩:=h.other st2 v f t;refine ⟨g,u,n,p,s,fun m a=>?_,fun m a=>k m fun e=>a (c m e)⟩;by_cases j : m∈x.2
  · grind
  · rw [k m j,h.hp m j];exact b.blk.1 m a
theorem qmm {v : V} {x : Fp} (c : x.2 = []) (a : ∀ st2,Uf ops o x st st2→Js P st2.nx ops o st2 (st2.putD o.dst v)) : Ju P ops o x st (st.putD o.dst v):=by
  refine ⟨by rw [Yo];exact Nat.le_refl _,fun t h=>by rw [Zb,qx h],fun m _=>by rw [Yn],fun m _ h=>by rw [Yn];exact h,fun m f a=>by rw [Yo] at a;omega,fun st2 g d _=>?_⟩;refine ⟨st2.putD o.dst v,Yo _ _ _,fun base=>qix (a st2 d),fun t h=>by rw [Zb,qx h],fun t h=>by rw [Zb,Zb,qs h,qs h],fun m b=>(by rw [c] at b;cases b),fun m _=>by rw [Yn]⟩
theorem q10u (a : Qr ops st o = some false) : Ju P ops o (some [],[]) st (st.putD o.dst (.d (.tup []))):=
  qmm rfl fun _ b=>qiz (b.guard.trans a)
theorem qpi {b : Blk} {n : Nat} {sl : List (Nat × V)} {hp1 : List (Nat × Blk)} {v : V} {op : Op} (d : opFn T st op = some (v,⟨sl,(st.nx,b)::hp1,n + 1⟩)) (g : st.nx = n) (h : q3d st op ⟨sl,(st.nx,b)::hp1,n + 1⟩ = true) : ∃ es xs,b = .dat es xs:=by
  by_cases c : touch op = 2
  · simp only [q3d,c] at h
    cases b with
    | dat es xs=>exact ⟨es,xs,rfl⟩
    | _=>simp at h
  · have a : touch op≤1:=by
      have : touch op≤2:=by unfold touch;split <;> omega
      omega
    have f:=(qf8 (st2:=st) d a (fun _=>rfl) (fun _ _=>rfl)).1;grind
theorem q10s {v : V} (z : Z6 P T) (u : Qr ops st o = some true) (w : opFn T st o.op = some (v,st1)) (hd : q3d st o.op st1 = true) : Ju P ops o (fp st o.op) st (st1.putD o.dst v):=by
  cases qke w with
  | calm hsl hnx hhp hnone hall=>
    have g : ∀ t,st1.get t = st.get t:=fun t=>by unfold AS.get;rw [hsl]
    refine ⟨by rw [Yo];omega,fun t h=>by rw [Zb,qx h,g],fun m a=>by rw [Yn];exact hhp m a,fun m _ h=>by rw [Yn];exact hnone m h,fun m k n=>by rw [Yo] at n;omega,fun st2 s c _=>?_⟩;obtain ⟨d,r,p,l⟩:=hall st2 (fun x j=>c.ev j) c.blk;refine ⟨(⟨st2.sl,d,st2.nx⟩ : AS).putD o.dst v,Yo _ _ _,fun base=>qix (qe7 z (c.guard.trans u) r),fun t h=>by rw [Zb,qx h];rfl,fun t h=>by rw [Zb,Zb,qs h,qs h],fun m a=>?_,fun m a=>?_⟩
    · rw [Yn,Yn];exact p m a
    · rw [Yn];exact l m a
  | new mk b hp1 hk hv k hmem hhp hnone hall=>
    subst k;obtain ⟨es,xs,rfl⟩:=qpi w rfl hd;refine ⟨by rw [Yo];exact Nat.le_succ _,fun t h=>by rw [Zb,qx h];rfl,fun m a=>?_,fun m a h=>?_,fun m k n=>?_,fun st2 s c q=>?_⟩
    · rw [Yn,Kx,qx (by rintro rfl;exact a hmem)];exact hhp m a
    · rw [Yo] at a;rw [Yn,Kx,qx (by simp only at a;omega)];exact hnone m h
    · rw [Yo] at n;grind
    · rw [Yo] at s q ⊢;simp only at s q;obtain ⟨d,r,p,l,k4⟩:=hall st2 (fun x j=>c.ev j) c.blk;have f:=q st.nx (Nat.le_refl _) q0;refine ⟨(⟨st2.sl,(st.nx,.dat es xs)::d,st2.nx⟩ : AS).putD o.dst (mk st.nx),Yo _ _ _,fun base=>qiw z (c.guard.trans u) hk r q0 f k4 (fun m a=>?_),fun t h=>by rw [Zb,qx h];rfl,fun t h=>by rw [Zb,Zb,qs h,qs h,hv],fun m a=>?_,fun m a=>?_⟩
      · by_cases y : m∈(fp st o.op).2
        · rw [p m y];refine hnone m ?_;rw [← c.blk.1 m y];exact a
        grind
      · rw [Yn,Yn,Kx,Kx];grind
      · rw [Yn,Kx,qx (by rintro rfl;exact a hmem)];exact l m a
theorem q10t {n es : Nat} {xs : List (List DV)} {hp2 : List (Nat × Blk)} (hT : Z6 P T) (hg : Qr ops st o = some true) (ho : opFn T st o.op = some (.hs n es 0 xs.length,st1)) (r : n = st.nx∧st1.nx = n + 1) (v : st1.hp = (n,.dat es xs)::hp2) (hf : find hp2 n = none) :
    Ju P ops o (fp st o.op) st (({sl:=st1.sl,hp:=hp2,nx:=st1.nx} : AS).putD o.dst (.d (.sl es xs))):=by
  obtain ⟨rfl,ab⟩:=r
  cases qke ho with
  | calm hsl hnx hhp hnone hall=>omega
  | new mk b hp1 hk hv u hmem hhp hnone hall=>
    subst u;simp only [List.cons.injEq,Prod.mk.injEq,true_and] at v;obtain ⟨rfl,rfl⟩:=v;refine ⟨by rw [Yo];exact Nat.le_succ _,fun t h=>by rw [Zb,qx h];rfl,fun m g=>by rw [Yn];exact hhp m g,fun m g h=>by rw [Yn];exact hnone m h,fun m u h2=>?_,fun st2 r q j=>?_⟩
    · rw [Yo] at h2;grind
    · rw [Yo] at r j ⊢;simp only at r j;obtain ⟨k,k1,y,k3,k4⟩:=hall st2 (fun x hx=>q.ev hx) q.blk;have f:=j st.nx (Nat.le_refl _) q0
      have c : ∀ m,find st2.hp m = none→find k m = none:=fun m g=>by
        by_cases z : m∈(fp st o.op).2
        · rw [y m z];refine hnone m ?_;rw [← q.blk.1 m z];exact g
        grind
      refine ⟨(⟨st2.sl,k,st2.nx⟩ : AS).putD o.dst (.d (.sl es xs)),Yo _ _ _,fun base=>?_,fun t h=>by rw [Zb,qx h];rfl,fun t h=>by rw [Zb,Zb,qs h,qs h],fun m g=>by rw [Yn,Yn];exact y m g,fun m g=>by rw [Yn];exact k3 m g⟩;intro ro Q w Z inj a Ds K h hd l hb s p hK;refine qiw (base:=base) hT (q.guard.trans hg) hk k1 q0 f k4 c ro Q w Z inj a Ds K h hd l hb s p fun a' w' hp=>hK a' w' ?_;rw [← hv] at hp;exact qtr (st1:=⟨st2.sl,(st.nx,.dat es xs)::k,st2.nx⟩) hb hp rfl (c _ f) l
theorem q11a {hp hp2 : List (Nat × Blk)} (h : ∀ m,find hp2 m = find hp m) : ∀ k,toD hp2 k = toD hp k:=by
  intro k
  induction k with
  | zero=>funext v;cases v <;> rfl
  | succ k ih=>funext v;cases v <;> simp only [toD,ih,h]
theorem qgi {hp hp2 : List (Nat × Blk)} (h : ∀ m,find hp2 m = find hp m) : ∀ {a : List V},Kv hp2 a = Kv hp a
  | []=>rfl
  | v::r=>by simp only [Kv,q11a h,qgi h]
theorem qgj {hp hp2 : List (Nat × Blk)} : ∀ {a : List V},a.all V.isD = true→Kv hp2 a = Kv hp a
  | [],_=>rfl
  | v::r,h=>by
    simp only [List.all_cons,Bool.and_eq_true] at h
    have e : toD hp2 8 v = toD hp 8 v:=by
      cases v <;> first | rfl | (simp [V.isD] at h;done)
    rw [Kv,Kv,e,qgj (hp:=hp) (hp2:=hp2) h.2]
theorem q10r {c : Call} {f : FuncId} {b : List V} {ds : List DV} {v : V} {hp' : List (Nat × Blk)} {nx' : Nat} {n r : DV} (p : Qr ops st o = some true) (m : o.op = .call c) (q : callee st c = some (f,b))
    (k : Kv st.hp b = some ds) (a : Jq P f (ds.map .d) [] 0 v hp' nx') (g : toD hp' 8 v = some n) (l : DLe n r) (hs : b.all V.isD = true∨r.scalar = true) : Ju P ops o (fpC b) st (st.putD o.dst (.d r)):=by
  refine qmm (by unfold fpC;cases b.all V.isD <;> rfl) fun st2 j=>qiy (j.guard.trans p) m ((j.callee m).trans q) ?_ a g l hs;rw [← k];by_cases hd : b.all V.isD = true
  · exact qgj hd
  · have h:=j.blk.2;simp only [fpC,hd,Q1] at h;exact qgi h
theorem qqk {ops : Array Oper} {o : Oper} {c : Call} {f : FuncId} {vs bc : List V} {hp0 hp' ap az : List (Nat × Blk)} {k k' ao : Nat} {v' vN : V} {ρ ρ3 : Nat→Nat} {ci an : List Nat} (hg : Qr ops st o = some true) (ho : o.op = .call c) (hc : callee st c = some (f,vs)) (bu : vs.length = bc.length)
    (ce : Wk 0 ρ [] [] {sl:=Y8 0 vs,hp:=st.hp,nx:=st.nx} {sl:=Y8 0 bc,hp:=hp0,nx:=k}) (am : Jq P f bc hp0 k v' hp' k') (ca : Wk 0 ρ3 ci an {sl:=[(0,v')],hp:=hp',nx:=k'} {sl:=[(0,vN)],hp:=ap,nx:=ao})
    (hb : Back ρ ρ3 an k k' st.nx ao st.hp ap az) : Js P base ops o st ({sl:=st.sl,hp:=az,nx:=ao : AS}.putD o.dst vN):=by
  intro ro Q w Z inj a Ds K h hd bh _ hK;unfold Ue;rw [q3k h hg];simp only [if_true];refine ⟨fun _ _=>trivial,?_⟩;obtain ⟨xs,hr,hl⟩:=qd7 h ho hc am.1;rw [show (Fw ro).round = ro from rfl,Oper.semAt_eq ro _ o (by rintro c' h';rw [ho] at h';cases h'),hr,Oper.uponIn_enter];refine ⟨fun h=>by simp [Fw] at h,?_⟩
  have bl : RelS w Z inj {sl:=Y8 0 vs,hp:=st.hp,nx:=st.nx} {a with tmps:=xs,defers:=[]} []:=by
    refine ⟨fun t v ht=>?_,h.heap,rfl,List.nodup_nil,qe⟩;rw [qag] at ht;simp only [Nat.zero_le,if_true,Nat.sub_zero] at ht;obtain ⟨y,hy⟩:=Yc (xs:=xs) (i:=t) (by rw [← hl.1];exact Kh ht);exact ⟨y,hy,hl.2 t v y ht hy⟩
  obtain ⟨cg,ah⟩:=q1w bl ce
  have cs : LRel w (wkZ Z inj {sl:=Y8 0 vs,hp:=st.hp,nx:=st.nx} []) (wkI inj ρ []) k bc xs:=by
    refine ⟨by rw [← bu];exact hl.1,fun i d y df de=>?_⟩;obtain ⟨y',cc,hr⟩:=cg.slots i d (by rw [qag];simpa using df);rw [de] at cc;cases cc;exact hr
  refine CallsIn.mono (am.2 w _ _ xs cg.heap cs) ?_;rintro e w' ⟨x,Z',inj',rfl,hh,bz,hv,hn⟩;obtain ⟨s,ag⟩ : ∃ s : Inj,s = fun n=>if n < k' then inj' n else none:=⟨_,rfl⟩
  have ac : ∀ n,n < k'→s n = inj' n:=fun n hn=>by rw [ag];simp [hn]
  have cu : RelH w' Z' s hp' k':=by
    refine ⟨fun n b hb=>?_,fun n m b c p q l j u h4 h5 h6=>?_,fun n b p l j u=>?_,hh.zs,hh.zc⟩
    · obtain ⟨k1,k2⟩:=hh.blk n b hb;exact ⟨k1,ql6 k2 (fun m p hm hp=>(ac m hm).trans hp) k1 (fun hp=>(ac n k1).trans hp)⟩
    · rw [ac n (hh.blk n b l).1] at h5;rw [ac m (hh.blk m c j).1] at h6;exact hh.sep n m b c p q l j u h4 h5 h6
    · rw [ac n (hh.blk n b l).1] at u;exact hh.out n b p l j u
  have cr : RelV w' Z' s k' v' x:=q8k hv fun n p hn hp=>(ac n hn).trans hp
  have bm : ∀ b,im hp' s b→im hp' inj' b:=by
    rintro b ⟨n,blk,o,l,j,u⟩;exact ⟨n,blk,o,l,j,by rw [← ac n (hh.blk n blk l).1];exact u⟩
  have bj : RelS w' Z' s {sl:=[(0,v')],hp:=hp',nx:=k'} {a with tmps:=#[x],defers:=[]} []:=by
    refine ⟨fun t v ht=>?_,cu,rfl,List.nodup_nil,qe⟩;rw [Kx] at ht;split at ht
    · rename_i e;subst e;cases ht;exact ⟨x,rfl,cr⟩
    · simp [find] at ht
  obtain ⟨ad,aj⟩:=q1w bj ca;generalize dt : wkZ Z' s {sl:=[(0,v')],hp:=hp',nx:=k'} ci = Z3 at ad aj;generalize cj : wkI s ρ3 an = z at ad aj
  have cx : RelV w' Z3 z ao vN x:=by
    obtain ⟨y,hy,hr⟩:=ad.slots 0 vN (by simp [find]);simp at hy;subst hy;exact hr
  have bf : ∀ i,i < k→inj' i = inj (ρ i):=fun i hi=>by rw [bz.pinj i hi];simp [wkI]
  have bx : ∀ m,m < st.nx→∀ p,z m = some p→inj m = some p:=by
    intro m hm p hp;have bd : m ∉ an:=fun hc=>by have:=hb.phn m hc;omega
    rw [← cj] at hp;simp only [wkI,bd,if_false] at hp;rcases hb.snd m hm with ⟨l,j⟩ | l
    · rw [ag] at hp;simp only [show ρ3 m < k' by omega,if_true] at hp;rw [bf _ l,j] at hp;exact hp
    · rw [ag] at hp;simp [show ¬ ρ3 m < k' by omega] at hp
  obtain ⟨r,af⟩ : ∃ r : Inj,r = fun m=>if m < st.nx then inj m else z m:=⟨_,rfl⟩
  have aa : ∀ m,m < st.nx→r m = inj m:=fun m hm=>by rw [af];simp [hm]
  have cd : ∀ m p,z m = some p→r m = some p:=fun m p hp=>by
    by_cases hm : m < st.nx
    · rw [aa m hm];exact bx m hm p hp
    · rw [af];simp [hm,hp]
  have hR : ∀ m b,find ap m = some b→∀ p,r m = some p→z m = some p:=by
    intro m b bi p hp;by_cases hm : m < st.nx
    · rw [aa m hm] at hp;have bd : m ∉ an:=fun hc=>by have:=hb.phn m hc;omega
      obtain ⟨_,j⟩:=ca.blocks m b bi;rcases j with ⟨j,_⟩ | ⟨_,b0,u,_⟩
      · exact absurd j bd
      · have cq:=(hh.blk _ _ u).1;rcases hb.snd m hm with ⟨k1,k2⟩ | k1
        · rw [← cj];simp only [wkI,bd,if_false];rw [ac _ q0,bf _ k1,k2];exact hp
        · omega
    · rw [af] at hp;simpa [hm] using hp
  have hE : Ext w (wkZ Z inj {sl:=Y8 0 vs,hp:=st.hp,nx:=st.nx} []) (wkI inj ρ []) hp0 w' Z' inj' hp' 0:=bz.pin_le (Nat.zero_le _)
  have cv : ∀ b,im ap z b→im st.hp inj b∨w.heap.size≤b:=by
    intro b cy;rcases aj.imm b cy with l | l
    · rcases hE.imm b (bm b l) with j | j
      · exact ah.imm b j
      · exact .inr j
    · exact .inr (Nat.le_trans hE.size l)
  have keep : ∀ b,b < w.heap.size→¬ im hp0 (wkI inj ρ []) b→w'.heap[b]? = w.heap[b]?:=fun b cz dc=>hE.keep b cz dc
  have au : ∀ m b p,find st.hp m = some b→live b = true→inj m = some p→(∀ i,i < k→ρ i≠m)→¬ im hp0 (wkI inj ρ []) p.1:=by
    rintro m b p l j u h4 ⟨i,blk,o,g1,g2,g3⟩;obtain ⟨j1,j2⟩:=ce.blocks i blk g1;rcases j2 with ⟨j2,_⟩ | ⟨_,b0,j3,j4⟩
    · cases j2
    · have dd : inj (ρ i) = some (p.1,o):=by simpa [wkI] using g3
      exact h.heap.sep (ρ i) m b0 b _ p j3 l (qn0 j4 g2) j dd u (h4 i j1) rfl
  have hZ : ∀ b,Z b→Z3 b:=fun b hz=>aj.zin b (hE.zin b (ah.zin b hz))
  have bv : ∀ b,Z3 b→Z b∨im hp0 (wkI inj ρ []) b∨w.heap.size≤b:=by
    intro b hz;rcases aj.zout b hz with l | l | l
    · rcases hE.zout b l with j | j | j
      · rcases ah.zout b j with u | u | u
        · exact .inl u
        · rcases j with j | ⟨n,hn,_⟩
          · exact .inl j
          · cases hn
        · exact .inr (.inr u)
      · exact .inr (.inl j)
      · exact .inr (.inr j)
    · rcases hE.imm b (bm b l) with j | j
      · exact .inr (.inl j)
      · exact .inr (.inr j)
    · exact .inr (.inr (Nat.le_trans hE.size l))
  have be : J0 w w':=hE.big;have bb : qab w w':=hE.loops
  have ch : Ext w Z inj st.hp w' Z3 r az st.nx:=by
    refine ⟨hE.size,fun b l j=>keep b l (fun u=>(ah.imm b u).elim j (fun h4=>q0)),?_,be,bb,hZ,?_,aa,hE.tape,hE.os,hE.output,hE.frz⟩
    · rintro b ⟨m,blk,o,g1,g2,g3⟩;rcases hb.old m blk g1 with g4 | ⟨g4,_⟩
      · exact cv b ⟨m,blk,o,g4,g2,hR m blk g4 _ g3⟩
      · exact .inl ⟨m,blk,o,g4,g2,by rw [← aa m (h.heap.blk m blk g4).1];exact g3⟩
    · intro b hz;rcases bv b hz with l | l | l
      · exact .inl l
      · exact .inr ((ah.imm b l).imp (fun x=>x) (fun x=>x))
      · exact .inr (.inr l)
  have hH : RelH w' Z3 r az ao:=by
    refine ⟨fun m b bi=>?_,fun m n b c p q l j u h4 h5 h6 cl=>?_,fun m b p l j u hz=>?_,ad.heap.zs,ad.heap.zc⟩
    · rcases hb.old m b bi with g | ⟨g,gi⟩
      · obtain ⟨k1,k2⟩:=ad.heap.blk m b g;refine ⟨k1,ql6 k2 (fun n p _ hp=>cd n p hp) k1 fun hp=>?_⟩
        cases hq : r m with
        | none=>rfl
        | some p=>rw [hR m b g p hq] at hp;cases hp
      · obtain ⟨k1,k2⟩:=h.heap.blk m b g;refine ⟨Nat.lt_of_lt_of_le k1 hb.nxs,k2.mono (fun b' hz=>?_) hZ be (fun n hn=>aa n hn) hb.nxs k1 fun p hp bw=>?_⟩
        · refine keep b' (h.heap.zs b' hz) fun hi=>?_;rcases ah.imm b' hi with l | l
          · exact h.heap.z_im hz l
          · have:=h.heap.zs b' hz;omega
        · exact keep _ (h.heap.im_lt ⟨m,b,p.2,g,bw,hp⟩) (au m b p g bw hp gi)
    · have ar : ∀ (m n : Nat) (b c : Blk) (p q : Nat × Nat),find ap m = some b→live b = true→r m = some p→find st.hp n = some c→live c = true→r n = some q→(∀ i,i < k→ρ i≠n)→p.1≠q.1:=by
        intro m n b c p q l u h5 j h4 h6 hn e;have hq : inj n = some q:=by rw [← aa n (h.heap.blk n c j).1];exact h6
        have cq:=h.heap.im_lt (b:=q.1) ⟨n,c,q.2,j,h4,hq⟩;rcases aj.imm p.1 ⟨m,b,p.2,l,u,hR m b l p h5⟩ with g1 | g1
        · rcases hE.imm p.1 (bm _ g1) with g2 | g2
          · exact au n c q j h4 hq hn (e ▸ g2)
          · omega
        · have:=hE.size;omega
      rcases hb.old m b l with g | ⟨g,gi⟩ <;> rcases hb.old n c j with g' | ⟨g',cw⟩
      · exact ad.heap.sep m n b c p q g g' u h4 (hR m b g p h5) (hR n c g' q h6) cl
      · exact ar m n b c p q g u h5 g' h4 h6 cw
      · exact fun e=>ar n m c b q p g' h4 h6 g u h5 gi e.symm
      · exact h.heap.sep m n b c p q g g' u h4 (by rw [← aa m (h.heap.blk m b g).1];exact h5) (by rw [← aa n (h.heap.blk n c g').1];exact h6) cl
    · rcases hb.old m b l with g | ⟨g,gi⟩
      · exact ad.heap.out m b p g j (hR m b g p u) hz
      · have hq : inj m = some p:=by rw [← aa m (h.heap.blk m b g).1];exact u
        rcases bv p.1 hz with h4 | h4 | h4
        · exact h.heap.out m b p g j hq h4
        · exact au m b p g j hq gi h4
        · have:=h.heap.im_lt (b:=p.1) ⟨m,b,p.2,g,j,hq⟩;omega
  exact hK _ _ (q3t h bh ch hH hb.nxs (q8k cx fun n p _ hp=>cd n p hp) hd)
theorem q10v {c : Call} {f : FuncId} {b : List V} {v : V} {hp' : List (Nat × Blk)} {nx' : Nat} (d : Qr ops st o = some true) (g : o.op = .call c) (h : callee st c = some (f,b)) (a : Jq P f b st.hp st.nx v hp' nx') :
    Js P base ops o st ({sl:=st.sl,hp:=hp',nx:=nx' : AS}.putD o.dst v):=qql d g h a
inductive Zm (P : Program) (base : Nat) (ops : Array Oper) : List Oper→AS→AS→Prop
  | nil {st : AS} : Zm P base ops [] st st
  | cons {o : Oper} {l : List Oper} {st st1 st2 : AS} : Js P base ops o st st1→Zm P base ops l st1 st2→Zm P base ops (o::l) st st2
  | wk {ρ : Nat→Nat} {fz ph : List Nat} {l : List Oper} {st st1 st2 : AS} : Wk base ρ fz ph st st1→Zm P base ops l st1 st2→Zm P base ops l st st2
inductive Jr (P : Program) (base : Nat) (ops : Array Oper) (F : List Fp) : List Oper→AS→AS→Prop
  | nil {st : AS} : Jr P base ops F [] st st
  | cons {o : Oper} {l : List Oper} {st st1 st2 : AS} : Ju P ops o (fpAt F l.length) st st1→Jr P base ops F l st1 st2→Jr P base ops F (o::l) st st2
  | piv {o : Oper} {l : List Oper} {st st1 st2 : AS} : Ur (fpAt F l.length) = true→Zm P base ops [o] st st1→Jr P base ops F l st1 st2→Jr P base ops F (o::l) st st2
def Uz (P : Program) (base : Nat) (ops : Array Oper) (dr : Dr) (l : List Oper) (st st' : AS) : Prop:=match dr with
  | none=>Zm P base ops l st st'
  | some F=>Jr P base ops F l st st'
theorem qgz {F : List Fp} : ∀ {l : List Oper} {st st' : AS},Jr P base ops F l st st'→∃ (n : Nat) (S : Nat→AS),n≤l.length∧S 0 = st∧(∀ i o,i < n→l[i]? = some o→Ju P ops o (fpAt F (l.length - (i + 1))) (S i) (S (i + 1)))∧
    ((n = l.length∧S n = st')∨∃ o st1,l[n]? = some o∧Ur (fpAt F (l.length - (n + 1))) = true∧Zm P base ops [o] (S n) st1∧Jr P base ops F (l.drop (n + 1)) st1 st')
  | [],st,st',h=>by cases h;exact ⟨0,fun _=>st,Nat.le_refl _,rfl,fun i o h=>q0,.inl ⟨rfl,rfl⟩⟩
  | o::l,st,st',h=>by
    cases h with
    | @cons _ _ _ st1 _ h1 h2=>
      obtain ⟨n,S,p,g,hs,b⟩:=qgz h2
      refine ⟨n + 1,fun i=>match i with | 0=>st | i + 1=>S i,by simp;omega,rfl,fun i d hi c=>?_,?_⟩
      · cases i with
        | zero=>simp at c;subst c;simp only [g,List.length_cons,Nat.zero_add,Nat.add_sub_cancel];exact h1
        | succ i=>
          have:=hs i d q0 (by simpa using c)
          simp only [List.length_cons]
          rw [show l.length + 1 - (i + 1 + 1) = l.length - (i + 1) by omega]
          exact this
      · rcases b with ⟨a,f⟩ | ⟨d,k,a,f,j,m⟩
        · exact .inl ⟨by simp [a],f⟩
        · refine .inr ⟨d,k,by simpa using a,?_,j,by simpa using m⟩
          rw [List.length_cons,show l.length + 1 - (n + 1 + 1) = l.length - (n + 1) by omega]
          exact f
    | @piv _ _ _ st1 _ h1 h2 a=>exact ⟨0,fun _=>st,Nat.zero_le _,rfl,fun i o h=>q0,.inr ⟨o,st1,rfl,by simpa using h1,h2,by simpa using a⟩⟩
theorem qo9 {dr : Dr} {l : List Oper} {st2 : AS} (a : Qr ops st o = some false) (h : Uz P base ops dr l (st.putD o.dst (.d (.tup []))) st2) : Uz P base ops dr (o::l) st st2:=by
  cases dr with
  | none=>exact .cons (qiz a) h
  | some F=>exact .cons ((q10u a).mono (qij _)) h
theorem qo7 {dr : Dr} {l : List Oper} {st2 : AS} {v : V} (c : Z6 P T) (b : Qr ops st o = some true) (d : opFn T st o.op = some (v,st1)) (a : okO dr l.length st o.op st1 = true) (h : Uz P base ops dr l (st1.putD o.dst v) st2) : Uz P base ops dr (o::l) st st2:=by
  cases dr with
  | none=>exact .cons (qe7 c b d) h
  | some F=>
    simp only [okO,Bool.and_eq_true] at a;exact .cons ((q10s c b d a.2).mono a.1) h
theorem qo8 {dr : Dr} {l : List Oper} {st2 : AS} {n es : Nat} {xs : List (List DV)} {hp2 : List (Nat × Blk)} (b : Z6 P T) (a : Qr ops st o = some true) (g : opFn T st o.op = some (.hs n es 0 xs.length,st1)) (f : n = st.nx∧st1.nx = n + 1) (j : st1.hp = (n,.dat es xs)::hp2) (c : find hp2 n = none) (k : okF dr l.length (fp st o.op) = true)
    (h : Uz P base ops dr l (({sl:=st1.sl,hp:=hp2,nx:=st1.nx} : AS).putD o.dst (.d (.sl es xs))) st2) : Uz P base ops dr (o::l) st st2:=by
  cases dr with
  | none=>exact .cons (qqm b a g (Nat.le_of_eq f.1.symm) j c) h
  | some F=>exact .cons ((q10t b a g f j c).mono k) h
theorem qo6 {dr : Dr} {l : List Oper} {st2 : AS} {c : Call} {f : FuncId} {k : List V} {ds : List DV} {v : V} {hp' : List (Nat × Blk)} {nx' : Nat} {p r : DV} (m : Qr ops st o = some true) (n : o.op = .call c) (q : callee st c = some (f,k))
    (b : Kv st.hp k = some ds) (a : Jq P f (ds.map .d) [] 0 v hp' nx') (j : toD hp' 8 v = some p) (g : DLe p r) (hs : k.all V.isD = true∨r.scalar = true) (s : okF dr l.length (fpC k) = true) (h : Uz P base ops dr l (st.putD o.dst (.d r)) st2) : Uz P base ops dr (o::l) st st2:=by
  cases dr with
  | none=>exact .cons (qiy m n q b a j g hs) h
  | some F=>exact .cons ((q10r m n q b a j g hs).mono s) h
def Adm (ops : Array Oper) (S : Nat→Prop) : Prop:=∀ j o,S j→ops[j]? = some o→∀ e∈o.after,Region.binds .any e = true→S e.on
def Behind (ops : Array Oper) (o : Oper) (j : Nat) : Prop:=∀ S : Nat→Prop,Adm ops S→(∀ e∈o.after,Region.binds .any e = true→S e.on)→S j
theorem qjs (acc : List Nat) (j : Nat) : ∀ (l : List Edge) (s : Nat),(l.foldl (fun s e=>if Region.binds .any e then s ||| 2 ^ e.on ||| acc.getD e.on 0 else s) s).testBit j = true→
    s.testBit j = true∨∃ e∈l,Region.binds .any e = true∧(e.on = j∨(acc.getD e.on 0).testBit j = true)
  | [],s,h=>.inl h
  | e::l,s,h=>by
    simp only [List.foldl_cons] at h
    rcases qjs acc j l _ h with h | ⟨b,a,d,c⟩
    · by_cases hb : Region.binds .any e = true
      · simp only [hb,if_true,Nat.testBit_or,Bool.or_eq_true,Nat.testBit_two_pow] at h
        rcases h with (h | h) | h
        · exact .inl h
        · exact .inr ⟨e,qe,hb,.inl (by simpa using h)⟩
        · exact .inr ⟨e,qe,hb,.inr h⟩
      · simp only [hb] at h;exact .inl (by simpa using h)
    · exact .inr ⟨b,List.mem_cons_of_mem _ a,d,c⟩
theorem qjt : ∀ (r : List Oper) (pre : List Oper) (acc : List Nat),ops.toList = pre ++ r→acc.length = pre.length→
    (∀ (i m : Nat),acc[i]? = some m→∃ o,ops[i]? = some o∧∀ j,m.testBit j = true→Behind ops o j)→
    (masks acc r).length = ops.size∧∀ (i m : Nat),(masks acc r)[i]? = some m→∃ o,ops[i]? = some o∧∀ j,m.testBit j = true→Behind ops o j
  | [],pre,acc,h,hl,ha=>by
    refine ⟨?_,ha⟩
    have:=congrArg List.length h
    simp at this
    simp [masks,hl,this]
  | o::r,pre,acc,h,hl,ha=>by
    refine qjt r (pre ++ [o]) (acc ++ [qjr acc o]) (by rw [h];simp) (by simp [hl]) ?_
    intro i m b
    by_cases hi : i < acc.length
    · rw [List.getElem?_append_left hi] at b;exact ha i m b
    · rw [List.getElem?_append_right q0] at b
      have d : i = acc.length:=by
        have:=Kh b;simp at this;omega
      subst d
      simp at b;subst b
      refine ⟨o,by rw [← Array.getElem?_toList,h,hl];simp,fun j v S n u=>?_⟩
      rcases qjs acc j _ _ v with p | ⟨e,q,s,a⟩
      · simp at p
      · have c:=u e (by simpa using q) s
        rcases a with a | a
        · exact a ▸ c
        · rw [List.getD_eq_getElem?_getD] at a
          cases l : acc[e.on]? with
          | none=>rw [l] at a;simp at a
          | some m'=>
            rw [l] at a;obtain ⟨w,f,hb⟩:=ha _ _ l;exact hb j a S n (fun t k g=>n _ _ c f t k g)
theorem qhv : ∀ (l : List Oper) (n : Nat),qap n l = true→∀ i o,l[i]? = some o→∀ e∈o.after,Region.binds .any e = true→e.on < n + i
  | [],_,_,i,o,h=>by simp at h
  | x::l,n,h,i,o,ho=>by
    simp only [qap,Bool.and_eq_true,List.all_eq_true] at h
    cases i with
    | zero=>
      simp at ho;subst ho
      intro e a hb
      have:=h.1 e (by simpa using a)
      simp [hb] at this
      exact this
    | succ i=>
      intro e a hb
      have:=qhv l (n + 1) h.2 i o (by simpa using ho) e a hb
      omega
structure q7a (x y : Fp) : Prop where
  ww : ∀ m∈x.2,m ∉ y.2
  rw : ∀ m∈y.2,match x.1 with | none=>False | some r=>m ∉ r
  wr : ∀ m∈x.2,match y.1 with | none=>False | some r=>m ∉ r
theorem qd1 {a b : List Nat} (h : q7e a b = true) : ∀ m∈a,m ∉ b:=fun m c hb=>by
  simp only [q7e,List.all_eq_true] at h
  have:=h m c
  rw [qjv hb] at this;cases this
theorem qnh {x y : Fp} (h : qd0 x y = true) : q7a x y:=by
  simp only [qd0,Bool.and_eq_true] at h;obtain ⟨⟨f,c⟩,b⟩:=h;refine ⟨qd1 f,fun m a=>?_,fun m a=>?_⟩
  · revert c
    cases x.1 with
    | none=>intro c;rw [List.isEmpty_iff] at c;rw [c] at a;cases a
    | some r=>intro c d;exact qd1 c m d a
  · revert b
    cases y.1 with
    | none=>intro b;rw [List.isEmpty_iff] at b;rw [b] at a;cases a
    | some r=>intro b d;exact qd1 b m d a
structure q7b (F : List Fp) (ops : Array Oper) : Prop where
  edges : ∀ j o,ops[j]? = some o→∀ e∈o.after,Region.binds .any e = true→e.on < j
  pairs : ∀ i j a b,i < j→ops[i]? = some a→ops[j]? = some b→Behind ops b i∨(q7a (fpAt F (ops.size - (i + 1))) (fpAt F (ops.size - (j + 1)))∧(∀ t∈reads ops a,b.dst≠some t)∧(∀ t∈reads ops b,a.dst≠some t)∧∀ t,a.dst = some t→b.dst≠some t)
  pivs : ∀ i j a b,i < j→ops[i]? = some a→ops[j]? = some b→(Ur (fpAt F (ops.size - (i + 1))) = true∨Ur (fpAt F (ops.size - (j + 1))) = true)→Behind ops b i
theorem qn7 {α : Type} {l : List α} {i : Nat} {x : α} (h : l[i]? = some x) : (x,i)∈l.zipIdx:=by grind
theorem qdq {o : Oper} {t : Tmp} : q7o o t = true↔o.dst = some t:=by
  unfold q7o
  cases o.dst with
  | none=>simp
  | some d=>simp
theorem qpk {F : List Fp} (h : q7n F ops = true) : q7b F ops:=by
  simp only [q7n,Bool.and_eq_true,List.all_eq_true] at h;obtain ⟨p,n⟩:=h;obtain ⟨v,w⟩:=qjt (ops:=ops) ops.toList [] [] rfl rfl qe;have d : ∀ (i : Nat) (o : Oper),ops[i]? = some o→ops.toList[i]? = some o:=fun i o l=>by rw [Array.getElem?_toList];exact l
  have main : ∀ i j a b,i < j→ops[i]? = some a→ops[j]? = some b→Behind ops b i∨((Ur (fpAt F (ops.size - (i + 1))) = false∧Ur (fpAt F (ops.size - (j + 1))) = false)∧(q7a (fpAt F (ops.size - (i + 1))) (fpAt F (ops.size - (j + 1)))∧(∀ t∈reads ops a,b.dst≠some t)∧(∀ t∈reads ops b,a.dst≠some t)∧∀ t,a.dst = some t→b.dst≠some t)):=fun i j a b c g hb=>by
    have:=n _ (qn7 (d j b hb)) _ (qn7 (d i a g));simp only [Bool.or_eq_true] at this;rcases this with (h | h) | h
    · have q : Nat.blt i j = true:=by rw [Nat.blt_eq];exact c
      grind
    · grind
    · right;simp only [Bool.and_eq_true,Bool.not_eq_true'] at h;obtain ⟨⟨⟨hp1,hp2⟩,h⟩,m⟩:=h;simp only [qgm,Bool.and_eq_true,List.all_eq_true,Bool.not_eq_true'] at h;obtain ⟨⟨r,u⟩,k⟩:=h;refine ⟨⟨hp1,hp2⟩,qnh m,fun t f hd=>?_,fun t f hd=>?_,fun t f hd=>?_⟩
      · have:=r t f;rw [qdq.2 hd] at this;cases this
      · have:=u t f;rw [qdq.2 hd] at this;cases this
      · rw [f] at k;simp only at k;rw [qdq.2 hd] at k;simp at k
  refine ⟨fun j o l e s hb=>?_,fun i j a b c g hb=>(main i j a b c g hb).imp id And.right,fun i j a b c g hb hp=>?_⟩
  · have:=qhv _ 0 p j o (d j o l) e s hb;omega
  grind
end
end Go.Am
namespace Go.Am
open Go
variable {P : Program}
section
variable {base : Nat} {ops : Array Oper}
theorem qe6 {l : Array Bool} {i : Nat} : l.getD i false = true↔l[i]? = some true:=by
  rw [Array.getD_eq_getD_getElem?];cases l[i]? <;> simp
theorem qb1 {l : Array Bool} {i : Nat} : l.getD i true = false↔l[i]? = some false:=by
  rw [Array.getD_eq_getD_getElem?];cases l[i]? <;> simp
theorem quj {w : World} {Z : Nat→Prop} {inj : Inj} {hp hp2 : List (Nat × Blk)} {nx : Nat} (h : RelH w Z inj hp nx) (hs : ∀ m,find hp2 m = find hp m) : RelH w Z inj hp2 nx:=by
  refine ⟨fun n b hb=>h.blk n b (by rw [← hs];exact hb),fun n m b c p q a d=>h.sep n m b c p q (by rw [← hs];exact a) (by rw [← hs];exact d),fun n b p a=>h.out n b p (by rw [← hs];exact a),h.zs,h.zc⟩
theorem qq0 {w w' : World} {Z Z' : Nat→Prop} {inj inj' : Inj} {hp hp' hp2 : List (Nat × Blk)} {pin : Nat} (h : Ext w Z inj hp w' Z' inj' hp' pin) (hs : ∀ m,find hp2 m = find hp' m) : Ext w Z inj hp w' Z' inj' hp2 pin:=
  {h with imm:=fun b hb=>h.imm b (by
      obtain ⟨n,c,o,a,f,d⟩:=hb
      exact ⟨n,c,o,by rw [← hs];exact a,f,d⟩)}
abbrev fpO (F : List Fp) (ops : Array Oper) (i : Nat) : Fp:=fpAt F (ops.size - (i + 1))
def CutS (ops : Array Oper) (listed : Array Bool) (t : Tmp) (m : Nat) : Prop:=∀ (i : Nat) (o : Oper),ops[i]? = some o→o.dst = some t→(listed[i]? = some true↔i < m)
def CutB (F : List Fp) (ops : Array Oper) (listed : Array Bool) (q m : Nat) : Prop:=∀ (i : Nat) (o : Oper),ops[i]? = some o→q∈(fpO F ops i).2→(listed[i]? = some true↔i < m)
structure Mid (F : List Fp) (ops : Array Oper) (S : Nat→AS) (lo hi : Nat) (listed : Array Bool) (st : AS) : Prop where
  nx : st.nx = (S hi).nx
  sl : ∀ t m,lo≤m→m≤hi→CutS ops listed t m→st.get t = (S m).get t
  hp : ∀ q m,lo≤m→m≤hi→CutB F ops listed q m→find st.hp q = find (S m).hp q
abbrev Steps (P : Program) (F : List Fp) (ops : Array Oper) (S : Nat→AS) (lo hi : Nat) : Prop:=∀ (i : Nat) (o : Oper),lo≤i→i < hi→ops[i]? = some o→Ju P ops o (fpO F ops i) (S i) (S (i + 1))
theorem qd5 {F : List Fp} {S : Nat→AS} {lo hi : Nat} (a : hi≤ops.size) (c : Steps P F ops S lo hi) {t : Tmp} {j : Nat} (b : lo≤j) : ∀ m,j≤m→m≤hi→(∀ (i : Nat) (o : Oper),j≤i→i < m→ops[i]? = some o→o.dst≠some t)→(S m).get t = (S j).get t
  | 0,h,_,_=>by have : j = 0:=q0;subst this;rfl
  | m + 1,h,hm,hno=>by
    by_cases g : j = m + 1
    · subst g;rfl
    · obtain ⟨o,d⟩:=Yc (xs:=ops) (i:=m) q0
      rw [(c m o q0 q0 d).sl t (hno m o q0 q0 d)]
      exact qd5 a c b m q0 q0 fun i o f k=>hno i o f q0
theorem qd4 {F : List Fp} {S : Nat→AS} {lo hi : Nat} (a : hi≤ops.size) (c : Steps P F ops S lo hi) {q j : Nat} (b : lo≤j) : ∀ m,j≤m→m≤hi→(∀ (i : Nat) (o : Oper),j≤i→i < m→ops[i]? = some o→q ∉ (fpO F ops i).2)→find (S m).hp q = find (S j).hp q
  | 0,h,_,_=>by have : j = 0:=q0;subst this;rfl
  | m + 1,h,hm,hno=>by
    by_cases g : j = m + 1
    · subst g;rfl
    · obtain ⟨o,d⟩:=Yc (xs:=ops) (i:=m) q0
      rw [(c m o q0 q0 d).hp q (hno m o q0 q0 d)]
      exact qd4 a c b m q0 q0 fun i o f k=>hno i o f q0
theorem q1i {F : List Fp} {S : Nat→AS} {lo hi : Nat} (a : hi≤ops.size) (c : Steps P F ops S lo hi) {j : Nat} (b : lo≤j) : ∀ m,j≤m→m≤hi→(S j).nx≤(S m).nx
  | 0,h,_=>by have : j = 0:=q0;subst this;exact Nat.le_refl _
  | m + 1,h,hm=>by
    by_cases f : j = m + 1
    · subst f;exact Nat.le_refl _
    · obtain ⟨o,d⟩:=Yc (xs:=ops) (i:=m) q0
      exact Nat.le_trans (q1i a c b m q0 q0) (c m o q0 q0 d).nx
theorem qjh {F : List Fp} {S : Nat→AS} {lo hi : Nat} (b : hi≤ops.size) (c : Steps P F ops S lo hi) (a : ∀ q,(S lo).nx≤q→find (S lo).hp q = none) : ∀ m,lo≤m→m≤hi→∀ q,(S m).nx≤q→find (S m).hp q = none
  | 0,hl,_,q,hq=>by have : lo = 0:=q0;subst this;exact a q hq
  | m + 1,hl,hm,q,hq=>by
    by_cases f : lo = m + 1
    · subst f;exact a q hq
    obtain ⟨o,d⟩:=Yc (xs:=ops) (i:=m) q0
    have hs:=c m o q0 q0 d
    exact hs.keys q hq (qjh b c a m q0 q0 q (Nat.le_trans hs.nx hq))
def Keep (ops : Array Oper) (S : Nat→AS) (lo hi : Nat) (base : Nat) (w0 : World) (Z0 : Nat→Prop) (inj0 : Inj) (hp0 : List (Nat × Blk)) (a0 : Act) (Ds0 : List Nat) (listed : Array Bool) (st : AS) (a : Act) (w : World) : Prop:=
  ∃ Z inj Ds,RelS w Z inj st a Ds∧Ext w0 Z0 inj0 hp0 w Z inj st.hp base∧a.tmps.size = a0.tmps.size∧(∀ D∈Ds,D∈Ds0∨w0.heap.size≤D)∧
    ∀ (i : Nat) (o : Oper),lo≤i→i < hi→ops[i]? = some o→listed[i]?≠some true→∀ m,(S i).nx≤m→m < (S (i + 1)).nx→inj m = none
theorem qhk {l : Array Bool} {i : Nat} {n : Nat} (hi : l[i]? = some false) (b : l.toList.count false = n + 1) : (l.setIfInBounds i true).toList.count false = n:=by
  have a : i < l.toList.length:=by simpa using Zi hi
  rw [Array.toList_setIfInBounds,List.count_set a]
  have : l.toList[i] = false:=by
    have:=hi;rw [← Array.getElem?_toList,List.getElem?_eq_getElem a] at this;simpa using this
  simp [this,b]
theorem qky {F : List Fp} (m : q7b F ops) {listed : Array Bool} (g : listed.size = ops.size) : ∀ (n i : Nat),i = n→listed[i]? = some false→Region.ready .any ops listed≠[]:=by
  intro n
  induction n using Nat.strongRecOn with
  | _ n ihn=>
    intro i j hi;subst j;obtain ⟨o,k⟩:=Yc (xs:=ops) (i:=i) (by rw [← g];exact Zi hi);by_cases a : ∀ e∈o.after,Region.binds .any e = true→listed.getD e.on false = true
    · intro d;have : i∈Region.ready .any ops listed:=mem_ready.2 ⟨qb1.2 hi,o,k,a⟩;rw [d] at this;cases this
    · simp only [Classical.not_forall] at a;obtain ⟨e,l,hb,f⟩:=a;have h:=m.edges i o k e l hb;obtain ⟨b,c⟩:=Yc (xs:=listed) (i:=e.on) (by have:=Zi hi;omega)
      cases b with
      | true=>exact absurd (qe6.2 c) f
      | false=>exact ihn e.on h e.on rfl c
theorem qgg {listed : Array Bool} {i : Nat} {o : Oper} (f : Adm ops (fun i=>listed[i]? = some true)) (l : ops[i]? = some o) (k : listed[i]? = some false) (b : ∀ e∈o.after,Region.binds .any e = true→listed[e.on]? = some true) :
    (∀ (j : Nat),(listed.setIfInBounds i true)[j]? = some true↔(j = i∨listed[j]? = some true))∧Adm ops (fun j=>(listed.setIfInBounds i true)[j]? = some true):=by
  have a : ∀ (j : Nat),(listed.setIfInBounds i true)[j]? = some true↔(j = i∨listed[j]? = some true):=by
    intro j;by_cases d : j = i
    · subst d;simp [Zi k]
    · rw [Array.getElem?_setIfInBounds_ne (Ne.symm d)];simp [d]
  refine ⟨a,?_⟩;intro j m g c e h hb;rw [a] at g ⊢;rcases g with rfl | g
  · rw [l] at c;cases c;exact .inr (b e h hb)
  · exact .inr (f j m g c e h hb)
theorem qpm {F : List Fp} {S : Nat→AS} {lo hi : Nat} (bc : lo≤hi) (aa : hi≤ops.size) (hD : q7b F ops) (hS : Steps P F ops S lo hi) (bf : ∀ (i j : Nat) (d : Oper),i < hi→hi≤j→ops[j]? = some d→Behind ops d i) (h0 : ∀ q,(S lo).nx≤q→find (S lo).hp q = none)
    {w0 : World} {Z0 : Nat→Prop} {inj0 : Inj} {hp0 : List (Nat × Blk)} {a0 : Act} {Ds0 : List Nat} {ro : Option Nat} {Q : Exit→Act→World→Prop} (bq : base≤(S lo).nx)
    (hd : ∀ (i : Nat) (o : Oper),ops[i]? = some o→Jc a0.tmps.size o.dst = true)
    (hQ : ∀ (fuel : Nat) (listed : Array Bool) (a' : Act) (w' : World),listed.size = ops.size→listed.toList.count false = fuel→Adm ops (fun i=>listed[i]? = some true)→(∀ (i : Nat),listed[i]? = some true↔i < hi)→
      (∃ Z inj Ds,RelS w' Z inj (S hi) a' Ds∧Ext w0 Z0 inj0 hp0 w' Z inj (S hi).hp base∧a'.tmps.size = a0.tmps.size∧base≤(S hi).nx∧(∀ D∈Ds,D∈Ds0∨w0.heap.size≤D))→Yh ro w'→wpAnyIn (Fw ro) 0 P .any ops Q fuel listed a' w') : ∀ (fuel : Nat) (listed : Array Bool) (a : Act) (w : World) (st : AS),
      listed.size = ops.size→listed.toList.count false = fuel→Adm ops (fun i=>listed[i]? = some true)→(∀ (i : Nat),i < lo→listed[i]? = some true)→(∀ (i : Nat),hi≤i→listed[i]?≠some true)→Keep ops S lo hi base w0 Z0 inj0 hp0 a0 Ds0 listed st a w→Yh ro w→Mid F ops S lo hi listed st→
      wpAnyIn (Fw ro) 0 P .any ops Q fuel listed a w:=by
  have fin : ∀ (fuel : Nat) (listed : Array Bool) (a : Act) (w : World) (st : AS),
      listed.size = ops.size→listed.toList.count false = fuel→Adm ops (fun i=>listed[i]? = some true)→(∀ (i : Nat),i < lo→listed[i]? = some true)→(∀ (i : Nat),hi≤i→listed[i]?≠some true)→Keep ops S lo hi base w0 Z0 inj0 hp0 a0 Ds0 listed st a w→Yh ro w→Mid F ops S lo hi listed st→
      (∀ (i : Nat),lo≤i→i < hi→listed[i]? = some true)→wpAnyIn (Fw ro) 0 P .any ops Q fuel listed a w:=by
    intro fuel listed a w st ad hc n x aj hp af g ab
    have al : ∀ (i : Nat),listed[i]? = some true↔i < hi:=fun i=>⟨fun h=>by
      rcases Nat.lt_or_ge i hi with z | z
      · exact z
      · exact absurd h (aj i z),fun h=>by
      rcases Nat.lt_or_ge i lo with z | z
      · exact x i z
      · exact ab i z h⟩
    refine hQ fuel listed a w ad hc n al ?_ af
    obtain ⟨Z,inj,Ds,z,h2,h3,h4,_⟩:=hp
    have bu : ∀ q,find (S hi).hp q = find st.hp q:=fun q=>(g.hp q hi bc (Nat.le_refl _) fun i o ho _=>al i).symm
    refine ⟨Z,inj,Ds,⟨fun t v ht=>?_,?_,z.defs,z.nodup,z.marks⟩,qq0 h2 bu,h3,Nat.le_trans bq (q1i aa hS (Nat.le_refl _) _ bc (Nat.le_refl _)),h4⟩
    · rw [← g.nx]
      refine z.slots t v ?_
      have:=g.sl t hi bc (Nat.le_refl _) fun i o ho _=>al i
      exact this.trans ht
    · rw [← g.nx];exact quj z.heap bu
  intro fuel
  induction fuel with
  | zero=>
    intro listed a w st ad hc n x aj hp af g;refine fin 0 listed a w st ad hc n x aj hp af g fun i _ hi=>?_;have h:=List.count_eq_zero.1 hc;obtain ⟨b,hb⟩:=Yc (xs:=listed) (i:=i) q0
    cases b with
    | true=>exact hb
    | false=>exact absurd (by simpa using Array.mem_of_getElem? hb) h
  | succ fuel ih=>
    intro listed a w st ad hc n x aj hp af g;by_cases ab : ∀ (i : Nat),lo≤i→i < hi→listed[i]? = some true
    · exact fin _ listed a w st ad hc n x aj hp af g ab
    have ba : ∃ k : Nat,(lo≤k∧k < hi)∧listed[k]? = some false:=by
      simp only [Classical.not_forall] at ab;obtain ⟨k,z,h2,h3⟩:=ab;obtain ⟨b,hb⟩:=Yc (xs:=listed) (i:=k) q0
      cases b with
      | true=>exact absurd hb h3
      | false=>exact ⟨k,⟨z,h2⟩,hb⟩
    obtain ⟨k0,⟨dg,ce⟩,bp⟩:=ba;refine ⟨fun br=>?_,fun i cf=>?_⟩
    · exact absurd br (qky hD ad k0 k0 rfl bp)
    · obtain ⟨z,o,ho,bh⟩:=mem_ready.1 cf;rw [qb1] at z;have am : ∀ e∈o.after,Region.binds .any e = true→(fun i=>listed[i]? = some true) e.on:=fun e he hb=>qe6.1 (bh e he hb);have ay : ∀ j,Behind ops o j→listed[j]? = some true:=fun j hb=>hb _ n am;have u : lo≤i:=Nat.le_of_not_lt fun h=>by have:=x i h;rw [z] at this;cases this
      have ax : i < hi:=Nat.lt_of_not_le fun h=>by
        have:=ay k0 (bf k0 i o ce h ho);rw [bp] at this;cases this
      have av : ∀ (j : Nat) (d : Oper),ops[j]? = some d→Behind ops d i→listed[j]?≠some true:=by
        intro j d c hb hj;have:=hb (fun i=>listed[i]? = some true) n (fun e he co=>n j d hj c e he co);rw [z] at this;cases this
      obtain ⟨l,bg⟩:=qgg n ho z am;have bm : (listed.setIfInBounds i true).size = ops.size:=by simp [ad]
      have cp:=qhk z hc;have dh : i < ops.size:=Zi ho;have az : listed[i]?≠some true:=by rw [z];simp
      have y : ∀ (j : Nat) (d : Oper),ops[j]? = some d→j≠i→(listed[j]? = some true↔j < i)∨(q7a (fpO F ops i) (fpO F ops j)∧(∀ t∈reads ops o,d.dst≠some t)∧∀ t,o.dst = some t→d.dst≠some t):=by
        intro j d c f;rcases Nat.lt_or_gt_of_ne f with h | h
        · rcases hD.pairs j i d o h c ho with hb | ⟨ha,h2,h3,h4⟩
          · exact .inl ⟨fun _=>h,fun _=>ay j hb⟩
          · exact .inr ⟨⟨fun m h5 h6=>ha.ww m h6 h5,ha.wr,ha.rw⟩,h3,fun t h5 h6=>h4 t h6 h5⟩
        · rcases hD.pairs i j o d h ho c with hb | ⟨ha,h2,h3,h4⟩
          · exact .inl ⟨fun p=>absurd p (av j d c hb),fun p=>q0⟩
          · exact .inr ⟨ha,h2,h4⟩
      have aq : ∀ m∈(fpO F ops i).2,find st.hp m = find (S i).hp m:=fun m hm=>by
        refine g.hp m i u q0 fun j d c ac=>?_;by_cases f : j = i
        · subst f;exact ⟨fun p=>absurd p az,fun p=>absurd p (Nat.lt_irrefl _)⟩
        · rcases y j d c f with h | ⟨ha,_⟩
          · exact h
          · exact absurd ac (ha.ww m hm)
      have ci : Uf ops o (fpO F ops i) (S i) st:=by
        refine ⟨⟨aq,?_⟩,fun t ht=>?_⟩
        · have key : ∀ m,(∀ (j : Nat) (d : Oper),ops[j]? = some d→j≠i→q7a (fpO F ops i) (fpO F ops j)→m ∉ (fpO F ops j).2)→find st.hp m = find (S i).hp m:=fun m hm=>by
            by_cases bl : m∈(fpO F ops i).2
            · exact aq m bl
            refine g.hp m i u q0 fun j d c ac=>?_;by_cases f : j = i
            · subst f;exact absurd ac bl
            · rcases y j d c f with h | ⟨ha,_⟩
              · exact h
              · exact absurd ac (hm j d c f ha)
          cases hR : (fpO F ops i).1 with
          | none=>exact fun m=>key m fun j d _ _ ha ac=>by have:=ha.rw m ac;rw [hR] at this;exact this
          | some r=>exact fun m cm=>key m fun j d _ _ ha ac=>by have:=ha.rw m ac;rw [hR] at this;exact this cm
        · refine g.sl t i u q0 fun j d c ae=>?_;by_cases f : j = i
          · subst f;exact ⟨fun p=>absurd p az,fun p=>absurd p (Nat.lt_irrefl _)⟩
          · rcases y j d c f with h | ⟨_,hr,_⟩
            · exact h
            · exact absurd ae (hr t ht)
      have ah:=hS i o u ax ho;have bk : (S (i + 1)).nx≤st.nx:=by rw [g.nx];exact q1i aa hS q0 _ q0 (Nat.le_refl _)
      have bb : ∀ m,(S i).nx≤m→m < (S (i + 1)).nx→find st.hp m = none:=fun m h2 h3=>by
        rw [aq m (ah.fresh m h2 h3)];exact qjh aa hS h0 i u q0 m h2
      obtain ⟨cl,bs,bd,cc,cq,cr,cg⟩:=ah.other st bk ci bb;refine qfz ho ?_;obtain ⟨Z,inj,Ds,k1,k2,k3,k4,k5⟩:=hp;have ca : base≤(S i).nx:=Nat.le_trans bq (q1i aa hS (Nat.le_refl _) _ u q0);refine bd base ro Q w Z inj a Ds _ k1 (by rw [k3];exact hd i o ho) ca (by have:=ah.nx;omega) af (k5 i o u ax ho az) fun a' w' hp'=>?_;obtain ⟨Z',inj',ch,g1,g2,g3,g4,g5⟩:=hp';refine ih _ a' w' cl bm cp bg (fun j hj=>(l j).2 (.inr (x j hj))) (fun j hj p=>?_) ⟨Z',inj',ch,g1,k2.trans g2 (Nat.le_refl _),g3.trans k3,fun D hD=>?_,fun j d bi ao c bv m h2 h3=>?_⟩ (af.ext g2) ⟨bs.trans g.nx,fun t m bj hm s=>?_,fun q m bj hm s=>?_⟩
      · rcases (l j).1 p with rfl | p
        · omega
        · exact aj j hj p
      · rcases g4 D hD with h | h
        · exact k4 D h
        · exact .inr (Nat.le_trans k2.size h)
      · have f : j≠i:=by rintro rfl;exact bv ((l j).2 (.inl rfl))
        have bt : listed[j]?≠some true:=fun e=>bv ((l j).2 (.inr e))
        rw [g5 m (by
          have:=q1i aa hS (j:=j + 1) q0 hi q0 (Nat.le_refl _)
          have:=g.nx;omega) (by
          rcases Nat.lt_or_gt_of_ne f with h | h
          · left;have:=q1i aa hS (j:=j + 1) q0 i q0 q0;omega
          · right;have:=q1i aa hS (j:=i + 1) q0 j q0 q0;omega)]
        exact k5 j d bi ao c bt m h2 h3
      · by_cases an : o.dst = some t
        · have cj : i < m:=(s i o ho an).1 ((l i).2 (.inl rfl));rw [cq t an];refine (qd5 aa hS q0 m q0 hm fun j d bi ao c ae=>?_).symm;have p:=(l j).1 ((s j d c ae).2 ao);rcases p with p | p
          · omega
          · rcases y j d c q0 with h | ⟨_,_,hw⟩
            · have:=h.1 p;omega
            · exact hw t an ae
        · rw [cc t an];refine g.sl t m bj hm fun j d c ae=>?_;have f : j≠i:=by rintro rfl;rw [ho] at c;cases c;exact an ae
          rw [← s j d c ae,l];simp [f]
      · by_cases hq : q∈(fpO F ops i).2
        · have cj : i < m:=(s i o ho hq).1 ((l i).2 (.inl rfl));rw [cr q hq];refine (qd4 aa hS q0 m q0 hm fun j d bi ao c ap=>?_).symm;have p:=(l j).1 ((s j d c ap).2 ao);rcases p with p | p
          · omega
          · rcases y j d c q0 with h | ⟨ha,_⟩
            · have:=h.1 p;omega
            · exact ha.ww q hq ap
        · rw [cg q hq];refine g.hp q m bj hm fun j d c ap=>?_;have f : j≠i:=by rintro rfl;exact hq ap
          rw [← s j d c ap,l];simp [f]
theorem qul {w : World} {Z : Nat→Prop} {inj : Inj} {st : AS} {a : Act} {Ds : List Nat} {N : Nat} (h : RelS w Z inj st a Ds) (l : st.nx≤N) : RelS w Z (fun m=>if m < st.nx then inj m else none) {st with nx:=N} a Ds:=by
  have hi : ∀ n,n < st.nx→(fun m=>if m < st.nx then inj m else none) n = inj n:=fun n v=>by simp [v]
  have g : J0 w w:=fun _ c e f h=>⟨c,e,f,h,rfl⟩
  refine ⟨h.slots.mono (fun _ _=>rfl) (fun _ h=>h) g hi l,⟨fun n b hb=>?_,fun n m b c p q d k j u o s=>?_,fun n b p d k j=>?_,h.heap.zs,h.heap.zc⟩,h.defs,h.nodup,h.marks⟩
  · obtain ⟨r,t⟩:=h.heap.blk n b hb;exact ⟨Nat.lt_of_lt_of_le r l,t.mono (fun _ _=>rfl) (fun _ h=>h) g hi l r (fun _ _ _=>rfl)⟩
  · rw [qs (h.heap.blk n b d).1] at o;rw [qs (h.heap.blk m c k).1] at s;exact h.heap.sep n m b c p q d k j u o s
  · rw [qs (h.heap.blk n b d).1] at j;exact h.heap.out n b p d k j
theorem qos {w0 : World} {Z0 : Nat→Prop} {inj0 : Inj} {c : AS} {g : Act} {Ds0 : List Nat} {l : List Oper} {st st' : AS} (h : Zm P base ops l st st') : l = []→∀ a w,Kw base w0 Z0 inj0 c g Ds0 st a w→Kw base w0 Z0 inj0 c g Ds0 st' a w:=by
  induction h with
  | nil=>exact fun _ a w hp=>hp
  | cons _ _ _=>intro h;cases h
  | wk hw _ ih=>
    intro o a w hp;refine ih o a w ?_;obtain ⟨Z',inj',f,j,n,k,p,m⟩:=hp;obtain ⟨d,b⟩:=q1w j hw;exact ⟨_,_,f,d,n.trans b (Nat.le_refl _),k,hw.bs,m⟩
theorem qor {w0 : World} {Z0 : Nat→Prop} {inj0 : Inj} {m : AS} {p : Act} {Ds0 : List Nat} {ro : Option Nat} {Q : Exit→Act→World→Prop} {K : Act→World→Prop} {l : List Oper} {st st' : AS} (h : Zm P base ops l st st') : ∀ o,l = [o]→Jc p.tmps.size o.dst = true→∀ a w,Kw base w0 Z0 inj0 m p Ds0 st a w→Yh ro w→
    (∀ a' w',Kw base w0 Z0 inj0 m p Ds0 st' a' w'→Yh ro w'→K a' w')→Ue P (Fw ro) ops Q o K a w:=by
  induction h with
  | nil=>intro o h;cases h
  | cons hs hl _=>
    intro o h hd a w hp c n;simp only [List.cons.injEq] at h;obtain ⟨rfl,rfl⟩:=h;refine hp.bind fun Z' inj' j b g d _ f=>?_;exact hs ro Q w Z' inj' a j _ b (by rw [g];exact hd) d c fun a' w' hp'=>n a' w' (qos hl rfl _ _ (f _ _ _ hp')) (by obtain ⟨_,_,_,_,u,_⟩:=hp';exact c.ext u)
  | wk hw _ ih=>
    intro o h hd a w hp c n;refine ih o h hd a w ?_ c n;obtain ⟨Z',inj',j,t,s,q,v,r⟩:=hp;obtain ⟨b,k⟩:=q1w t hw;exact ⟨_,_,j,b,s.trans k (Nat.le_refl _),q,hw.bs,r⟩
theorem qnu {o p : Oper} {i j : Nat} (b : Behind ops o i) (hp : ops[i]? = some p) (f : Behind ops p j) : Behind ops o j:=fun S a c=>f S a fun e d hb=>a i p (b S a c) hp e d hb
theorem qpl {F : List Fp} (hD : q7b F ops) {w0 : World} {Z0 : Nat→Prop} {inj0 : Inj} {ae : AS} {a0 : Act} {Ds0 : List Nat} {ro : Option Nat} {Q : Exit→Act→World→Prop} (hd : ∀ (i : Nat) (o : Oper),ops[i]? = some o→Jc a0.tmps.size o.dst = true) :
    ∀ (n : Nat) (l : List Oper) (lo : Nat) (st st' : AS),l.length = n→ops.toList.drop lo = l→lo≤ops.size→Jr P base ops F l st st'→(∀ a' w',Kw base w0 Z0 inj0 ae a0 Ds0 st' a' w'→Q .normal a' w')→∀ (fuel : Nat) (listed : Array Bool) (a : Act) (w : World),
      listed.size = ops.size→listed.toList.count false = fuel→Adm ops (fun i=>listed[i]? = some true)→(∀ (i : Nat),listed[i]? = some true↔i < lo)→Kw base w0 Z0 inj0 ae a0 Ds0 st a w→Yh ro w→wpAnyIn (Fw ro) 0 P .any ops Q fuel listed a w:=by
  intro n
  induction n using Nat.strongRecOn with
  | _ n ihn=>
  intro l lo st st' cc ap ch hc hQ fuel listed a w bk bp av ai hp bo;obtain ⟨k,S,hk,e0,hS,aj⟩:=qgz hc;have bs : l.length + lo = ops.size:=by rw [← ap];simp;omega
  have y : ∀ (i : Nat),l[i]? = ops[lo + i]?:=fun i=>by rw [← ap,List.getElem?_drop,Array.getElem?_toList]
  subst e0
  have v : Steps P F ops (fun i=>S (i - lo)) lo (lo + k):=fun i o u h2 ho=>by
    have:=hS (i - lo) o q0 (by rw [y,show lo + (i - lo) = i by omega];exact ho);rw [show l.length - (i - lo + 1) = ops.size - (i + 1) by omega] at this;show Ju P ops o (fpO F ops i) (S (i - lo)) (S (i + 1 - lo));rw [show i + 1 - lo = i - lo + 1 by omega];exact this
  have ao : ∀ (i j : Nat) (oj : Oper),i < lo + k→lo + k≤j→ops[j]? = some oj→Behind ops oj i:=fun i j oj hi hj ag=>by
    rcases aj with ⟨u,_⟩ | ⟨o,st1,u,h2,_,_⟩
    · have:=Zi ag;omega
    · rw [y] at u;rw [show l.length - (k + 1) = ops.size - (lo + k + 1) by omega] at h2;have bl : i < ops.size:=by have:=Zi u;omega
      obtain ⟨oi,z⟩:=Yc (xs:=ops) (i:=i) bl;have hb:=hD.pivs i (lo + k) oi o hi z u (.inr h2);by_cases bi : j = lo + k
      · subst bi;rw [u] at ag;cases ag;exact hb
      · exact qnu (hD.pivs (lo + k) j o oj q0 u ag (.inl h2)) u hb
  obtain ⟨Z,inj,Ds,u,h2,h3,h4,h5⟩:=hp
  have hN : (S 0).nx≤(S k).nx:=by
    have:=q1i q0 v (Nat.le_refl _) (lo + k) q0 (Nat.le_refl _);simpa using this
  have h0 : ∀ q,(S 0).nx≤q→find (S 0).hp q = none:=fun q hq=>by
    cases hf : find (S 0).hp q with
    | none=>rfl
    | some b=>have:=(u.heap.blk q b hf).1;omega
  have bb : Ext w0 Z0 inj0 ae.hp w Z (fun m=>if m < (S 0).nx then inj m else none) (S 0).hp base:=by
    refine {h2 with imm:=fun b bq=>h2.imm b ?_,pinj:=fun n hn=>(qs (show n < (S 0).nx by omega)).trans (h2.pinj n hn)};obtain ⟨n,c,o,s,g2,g3⟩:=bq;refine ⟨n,c,o,s,g2,?_⟩;have:=(u.heap.blk n c s).1;simpa [this] using g3
  have al : ∀ (i : Nat),lo≤i→listed[i]?≠some true:=fun i hi h=>by have:=(ai i).1 h;omega
  refine qpm (lo:=lo) (hi:=lo + k) (S:=fun i=>S (i - lo)) (hp0:=ae.hp) (Ds0:=Ds0) q0 q0 hD v ao (by simpa using h0) (by simpa using h4) hd ?_ fuel listed a w {S 0 with nx:=(S k).nx} bk bp av (fun i hi=>(ai i).2 hi) (fun i hi=>al i q0) ⟨Z,_,Ds,qul u hN,bb,h3,h5,fun i o ad am ho _ m g2 g3=>?_⟩ bo ⟨qe,fun t m aq hm aa=>?_,fun q m aq hm aa=>?_⟩
  · intro r d a' w' x af ac f hp' bc
    have hp' : Kw base w0 Z0 inj0 ae a0 Ds0 (S k) a' w':=by
      obtain ⟨Z',inj',bm,s,g2,g3,g4,g5⟩:=hp';simp only [Nat.add_sub_cancel_left] at s g2 g4;exact ⟨Z',inj',bm,s,g2,g3,g4,g5⟩
    rcases aj with ⟨e1,e2⟩ | ⟨o,st1,e1,e2,e3,e4⟩
    ·
      subst e2
      have hz : r = 0:=by
        rw [← af,List.count_eq_zero];intro hm;obtain ⟨i,hi⟩:=List.getElem?_of_mem hm;have am : d[i]? = some false:=by simpa using hi
        have:=(f i).2 (by have:=Zi am;omega);rw [am] at this;cases this
      subst hz;refine ⟨?_,hQ _ _ hp'⟩;rw [List.eq_nil_iff_forall_not_mem];intro j hj;obtain ⟨s,o,ho,_⟩:=mem_ready.1 hj;rw [qb1,(f j).2 (by have:=Zi ho;omega)] at s;cases s
    ·
      have p : ops[lo + k]? = some o:=by rw [← y];exact e1
      rw [show l.length - (k + 1) = ops.size - (lo + k + 1) by omega] at e2
      have g : d[lo + k]? = some false:=by
        obtain ⟨b,hb⟩:=Yc (xs:=d) (i:=lo + k) (by rw [x];exact Zi p)
        cases b with
        | true=>have:=(f _).1 hb;omega
        | false=>exact hb
      cases r with
      | zero=>
        have:=List.count_eq_zero.1 af;exact absurd (by simpa using Array.mem_of_getElem? g) this
      | succ r=>
        refine ⟨fun ax=>absurd ax (qky hD x _ _ rfl g),fun i hi=>?_⟩;obtain ⟨s,oi,z,au⟩:=mem_ready.1 hi;rw [qb1] at s;have ab : ∀ e∈oi.after,Region.binds .any e = true→d[e.on]? = some true:=fun e he hb=>qe6.1 (au e he hb)
        have bn : i = lo + k:=by
          rcases Nat.lt_trichotomy i (lo + k) with h | h | h
          · have:=(f i).2 h;rw [s] at this;cases this
          · exact h
          · have:=hD.pivs (lo + k) i o oi h p z (.inl e2) _ ac ab;rw [g] at this;cases this
        subst bn;rw [p] at z;cases z;obtain ⟨ba,an⟩:=qgg ac p s ab;refine qfz p ?_;refine qor e3 o rfl (hd _ _ p) a' w' hp' bc fun a2 w2 hp2 ay=>?_;refine ihn (l.drop (k + 1)).length (by have:=Zi p;simp;omega) _ (lo + k + 1) st1 st' rfl (by rw [← ap,List.drop_drop,Nat.add_assoc]) (Zi p) e4 hQ _ _ a2 w2 (by simp [x]) (qhk s af) an (fun j=>?_) hp2 ay;rw [ba,f];omega
  · have this : (S 0).nx≤(S (i - lo)).nx:=by simpa using q1i q0 v (Nat.le_refl lo) i ad q0
    have bx : (S (i - lo)).nx≤m:=g2;exact qx q0
  · have:=qd5 q0 v (t:=t) (Nat.le_refl lo) m aq hm fun i o ad hi ho bj=>al i ad ((aa i o ho bj).2 hi);simp at this ⊢;exact this.symm
  · have:=qd4 q0 v (q:=q) (Nat.le_refl lo) m aq hm fun i o ad hi ho br=>al i ad ((aa i o ho br).2 hi);simp at this ⊢;exact this.symm
theorem qug {F : List Fp} {id : Nat} {w : World} {Z : Nat→Prop} {inj : Inj} {st st' : AS} {a : Act} {Ds : List Nat} {ro : Option Nat} {Q : Exit→Act→World→Prop} (s : P.follows .mixedOrders = true) (n : q7b F ops) (p : Jr P base ops F ops.toList st st')
    (h : RelS w Z inj st a Ds) (g : codeOk a.tmps.size (.region id ops true) = true) (hb : base≤st.nx) (m : Yh ro w) (q : ∀ a' w',Kw base w Z inj st a Ds st' a' w'→Q .normal a' w') : (Code.region id ops true).wpIn (Fw ro) 0 P Q a w:=by
  refine wpIn_region_any s ?_;have hs : RelS {w with drawn:=w.drawn + 1} Z inj st a Ds:=⟨h.slots.mono (fun _ _=>rfl) (fun _ h=>h) (fun b c e f hb=>⟨c,e,f,hb,rfl⟩) (fun _ _=>rfl) (Nat.le_refl _),h.heap.same rfl,h.defs,h.nodup,h.marks⟩
  have k : ∀ (i : Nat) (o : Oper),ops[i]? = some o→Jc a.tmps.size o.dst = true:=by
    intro i o r;simp only [codeOk,List.all_eq_true] at g;exact g o (by simpa using Array.mem_of_getElem? r)
  have d : ∀ (i : Nat),(Array.replicate ops.size false)[i]?≠some true:=by
    intro i hi;rw [Array.getElem?_replicate] at hi;split at hi <;> simp at hi
  exact qpl n k ops.toList.length ops.toList 0 st st' rfl qe (Nat.zero_le _) p q ops.size _ a _ qe qe (fun j o u _=>absurd u (d j)) (fun i=>⟨fun hi=>absurd hi (d i),fun hi=>q0⟩) ⟨Z,inj,Ds,hs,.same rfl rfl rfl rfl,rfl,hb,fun _ h=>.inl h⟩ (fun l t=>m l t)
end
end Go.Am
namespace Go.Am
open Go
variable {P : Program} {T : Tab}
section
variable {w w' : World} {Z Z' : Nat→Prop} {inj inj' : Inj} {hp hp' : List (Nat × Blk)} {nx nx' pin : Nat}
theorem RelH.grow (h : RelH w Z inj hp nx) (d : ∀ b,b < w.heap.size→w'.heap[b]? = w.heap[b]?) : RelH w' Z inj hp nx:=by
  have hb : J0 w w':=fun b c e f k=>⟨c,e,f,(d b (Ja k)).trans k,rfl⟩
  refine ⟨fun n b l=>?_,h.sep,h.out,?_,?_⟩
  · obtain ⟨j,o⟩:=h.blk n b l;exact ⟨j,o.mono (fun b a=>d b (h.zs b a)) (fun _ h=>h) hb (fun _ _=>rfl) (Nat.le_refl _) j fun p hp m=>d _ (h.im_lt ⟨n,b,p.2,l,m,hp⟩)⟩
  · intro b a;obtain ⟨c,e,f,g⟩:=h.zc b a;have:=d b (h.zs b a);exact Ja (this.trans g)
  · intro b a;obtain ⟨c,e,f,g⟩:=h.zc b a;exact ⟨c,e,f,(d b (h.zs b a)).trans g⟩
theorem Ext.alloc (o : Obj) (a : Unfr o:=by first | exact rfl | exact trivial) : Ext w Z inj hp (w.alloc o) Z inj hp pin:=
  ⟨qe,fun b hb _=>J1 w o hb,fun _ h=>.inl h,q2h w o,qje w o,fun _ h=>h,fun _ h=>.inl h,fun _ _=>rfl,rfl,rfl,rfl,qis w a⟩
theorem ql8 (h : RelH w Z inj hp nx) {n : Nat} {b0 blk : Blk} (v : find hp n = some b0) (hl : live b0 = true) {b off : Nat} (hi : inj n = some (b,off)) {r t : Loop} (hb : w.heap[b]? = some (.loop r)) (hd : t.defers = r.defers)
    (ad : RelB (w.putObj b (.loop t)) Z inj nx n blk) (ah : live blk = true→True) : RelH (w.putObj b (.loop t)) Z inj (repl hp n blk) nx∧Ext w Z inj hp (w.putObj b (.loop t)) Z inj (repl hp n blk) pin:=by
  have a : ∀ k,k≠b→(w.putObj b (.loop t)).heap[k]? = w.heap[k]?:=fun k g=>World.putObj_heap_other g
  have al : ¬ Z b:=fun hz=>by
    obtain ⟨c,e,f,hc⟩:=h.zc b hz;rw [hb] at hc;cases hc
  have j : J0 w (w.putObj b (.loop t)):=fun k c e f g=>by
    by_cases j : k = b
    · subst j;rw [hb] at g;cases g
    · exact ⟨c,e,f,(a k j).trans g,rfl⟩
  have hz : ∀ k,Z k→(w.putObj b (.loop t)).heap[k]? = w.heap[k]?:=fun k g=>a k (fun e=>al (e ▸ g))
  have d : ∀ m c,find (repl hp n blk) m = some c→(m = n∧c = blk)∨(m≠n∧find hp m = some c):=by
    intro m c u;rw [Za] at u;split at u
    · rename_i e;subst e;rw [v] at u;simp at u;exact .inl ⟨rfl,u.symm⟩
    · rename_i e;exact .inr ⟨fun h=>e h.symm,u⟩
  have ag : ∀ k,im (repl hp n blk) inj k→im hp inj k:=by
    rintro k ⟨m,c,o,h1,h2,s⟩;rcases d m c h1 with ⟨rfl,rfl⟩ | ⟨_,y⟩
    · exact ⟨m,b0,o,v,hl,s⟩
    · exact ⟨m,c,o,y,h2,s⟩
  refine ⟨⟨?_,?_,?_,?_,?_⟩,⟨qe,?_,fun k g=>.inl (ag k g),j,?_,fun _ h=>h,fun _ h=>.inl h,fun _ _=>rfl,rfl,rfl,rfl,qe5 (fun _ _ _=>by rw [hb];simp) (fun _ _ _=>qe)⟩⟩
  · intro m c u;rcases d m c u with ⟨rfl,rfl⟩ | ⟨l,y⟩
    · exact ⟨(h.blk _ _ v).1,ad⟩
    · obtain ⟨z,h6⟩:=h.blk m c y;exact ⟨z,h6.mono hz (fun _ h=>h) j (fun _ _=>rfl) (Nat.le_refl _) z fun p hp ah=>a _ fun e=>h.sep m n c b0 p (b,off) y v ah hl hp hi l e⟩
  · intro m m' c c' p q h1 h2 s y z h6 l;rcases d m c h1 with ⟨rfl,rfl⟩ | ⟨e1,k1⟩ <;> rcases d m' c' h2 with ⟨rfl,rfl⟩ | ⟨e2,k2⟩
    · exact absurd rfl l
    · exact h.sep _ _ _ _ p q v k2 hl y z h6 l
    · exact h.sep _ _ _ _ p q k1 v s hl z h6 l
    · exact h.sep _ _ _ _ p q k1 k2 s y z h6 l
  · intro m c p h1 h2 s;rcases d m c h1 with ⟨rfl,rfl⟩ | ⟨e1,k1⟩
    · exact h.out _ _ p v hl s
    · exact h.out _ _ p k1 h2 s
  · intro k g;simpa using h.zs k g
  · intro k g;obtain ⟨c,e,f,hc⟩:=h.zc k g;exact ⟨c,e,f,(hz k g).trans hc⟩
  · intro k _ g;exact a k fun e=>g ⟨n,b0,off,v,hl,e ▸ hi⟩
  · intro k x g;by_cases j : k = b
    · subst j;rw [hb] at g;cases g;exact ⟨t,World.putObj_heap_same (Ja hb),hd⟩
    · exact ⟨x,(a k j).trans g,rfl⟩
theorem qfi (h : RelH w Z inj hp nx) {n : Nat} {s : List (Nat × V)} {j : List Tmp} {as l : Code} {t ls' : LoopState} {pe pe' : Option Code} (v : find hp n = some (.loop s j as l t pe)) : ∃ b r,inj n = some (b,0)∧w.heap[b]? = some (.loop r)∧
    r.state = t∧r.pending = pe∧r.params = j.toArray∧r.assign = as∧r.body = l∧(codeOk r.tmps.size as = true∧codeOk r.tmps.size l = true∧∀ p∈j,p < r.tmps.size)∧Yv w Z inj nx s r.tmps∧
    RelH (w.putObj b (.loop {r with state:=ls',pending:=pe'})) Z inj (repl hp n (.loop s j as l ls' pe')) nx∧Ext w Z inj hp (w.putObj b (.loop {r with state:=ls',pending:=pe'})) Z inj (repl hp n (.loop s j as l ls' pe')) pin:=by
  obtain ⟨z,b,tmps,D,fn,m,a,q,u⟩:=h.blk n _ v;refine ⟨b,_,m,a,rfl,rfl,rfl,rfl,rfl,q,u,?_⟩;refine ql8 h v rfl m a rfl ?_ (fun _=>trivial);refine ⟨b,tmps,D,fn,m,World.putObj_heap_same (Ja a),q,?_⟩
  have o : ¬ Z b:=fun y=>by
    obtain ⟨c,e,f,x⟩:=h.zc b y;rw [a] at x;cases x
  refine u.mono (fun k d=>World.putObj_heap_other (fun e=>o (e ▸ d))) (fun _ h=>h) ?_ (fun _ _=>rfl) (Nat.le_refl _);intro k c e f d;by_cases g : k = b
  · subst g;rw [a] at d;cases d
  · exact ⟨c,e,f,(World.putObj_heap_other g).trans d,rfl⟩
theorem quk (h : RelH w Z inj hp nx) {n : Nat} {s : List (Nat × V)} {l : List Tmp} {as m : Code} {d : LoopState} {pe : Option Code} (g : find hp n = some (.loop s l as m d pe)) : ∃ b r,inj n = some (b,0)∧w.heap[b]? = some (.loop r)∧
    r.state = d∧r.pending = pe∧∀ a : Loop,a.defers = r.defers→RelH (w.putObj b (.loop a)) Z inj (repl hp n .dead) nx∧Ext w Z inj hp (w.putObj b (.loop a)) Z inj (repl hp n .dead) pin:=by
  obtain ⟨k,b,tmps,D,fn,c,f,o,p⟩:=h.blk n _ g;exact ⟨b,_,c,f,rfl,rfl,fun a j=>ql8 h g rfl c f j trivial (fun _=>trivial)⟩
theorem qib : ∀ (a : List V) (k t : Nat) (v : V),find (Y8 k a) t = some v→k≤t∧a[t - k]? = some v
  | [],k,t,v,h=>by simp [Y8,find] at h
  | x::r,k,t,v,h=>by
    simp only [Y8,Kx] at h
    split at h
    · rename_i e;subst e;cases h;simp
    · rename_i e
      obtain ⟨d,b⟩:=qib r (k + 1) t v h
      refine ⟨q0,?_⟩
      obtain ⟨m,c⟩ : ∃ m,t - k = m + 1:=⟨t - k - 1,q0⟩
      have : t - (k + 1) = m:=by omega
      rw [this] at b
      rw [c];simpa using b
theorem qun {b : List V} {xs : Array Value} (n : Nat) (h : LRel w Z inj nx b xs) : Yv w Z inj nx (Y8 0 b) (xs ++ Array.replicate (n - xs.size) undef):=by
  intro t v f;obtain ⟨_,c⟩:=qib b 0 t v f;simp at c;have a : t < xs.size:=by rw [← h.1];exact Kh c
  obtain ⟨x,d⟩:=Yc a;exact ⟨x,by rw [Array.getElem?_append_left a];exact d,h.2 t v x c d⟩
theorem qla : ∀ (f : List Tmp) (g : List V) (xs : List Value) (s : List (Nat × V)) (tmps : Array Value),g.length = xs.length→(∀ (i : Nat) (d : V) (c : Value),g[i]? = some d→xs[i]? = some c→RelV w Z inj nx d c)→(∀ p∈f,p < tmps.size)→
    Yv w Z inj nx s tmps→Yv w Z inj nx (q1m s f g) ((f.zip xs).foldl (fun tmps (x : Tmp × Value)=>tmps.setIfInBounds x.1 x.2) tmps)∧((f.zip xs).foldl (fun tmps (x : Tmp × Value)=>tmps.setIfInBounds x.1 x.2) tmps).size = tmps.size
  | [],g,xs,s,tmps,hl,hr,hp,h=>by simpa [q1m] using h
  | p::f,[],[],s,tmps,hl,hr,hp,h=>by simpa [q1m] using h
  | p::f,v::g,x::xs,s,tmps,hl,hr,hp,h=>by
    have k:=hr 0 v x rfl rfl
    have j:=h.put k (hp p qe)
    obtain ⟨a,b⟩:=qla f g xs _ _ (by simpa using hl) (fun i d c hd m=>hr (i + 1) d c (by simpa using hd) (by simpa using m)) (fun q l=>by simpa using hp q (by simp [l])) j
    refine ⟨by simpa [q1m] using a,by simpa using b⟩
  | p::f,[],x::xs,s,tmps,hl,hr,hp,h=>by simp at hl
  | p::f,v::g,[],s,tmps,hl,hr,hp,h=>by simp at hl
theorem qji {fn : Func} {st : AS} {v : V} (hT : Z6 P T) {w0 : World} {Z0 : Nat→Prop} {inj0 : Inj} {hp0 : List (Nat × Blk)} {R : Ending→World→Prop} (j : resV T st fn.results.toList = some v)
    (hR : ∀ x w' Z' inj',RelH w' Z' inj' st.hp st.nx→Ext w0 Z0 inj0 hp0 w' Z' inj' st.hp pin→RelV w' Z' inj' st.nx v x→R (.returned x) w') : ∀ (Ds : List Nat) (w : World) (Z : Nat→Prop) (inj : Inj) (a : Act),
      Yv w Z inj st.nx st.sl a.tmps→RelH w Z inj st.hp st.nx→Ext w0 Z0 inj0 hp0 w Z inj st.hp pin→Ds.Nodup→(∀ D∈Ds,w.heap[D]? = some (.deferred (some []))∧w0.heap.size≤D)→
      LeavesInM (Fw none) 0 P fn a.tmps R (Ds.map fun D=>{target:=.collected D,args:=#[]}) .returning w
  | [],w,Z,inj,a,hs,hh,he,_,_=>by
    obtain ⟨x,hx,hv⟩:=quu (a:=a) hT hh hs j
    exact ⟨x,hx,hR x w Z inj hh he hv⟩
  | D::Ds,w,Z,inj,a,hs,hh,he,hnd,hm=>by
    obtain ⟨t,ak⟩:=hm D qe
    have l:=List.nodup_cons.1 hnd
    refine ⟨qe,.inl ⟨D,_,rfl,run_takeDeferred t,?_⟩⟩
    have d : ∀ k,k≠D→(w.putObj D (.deferred none)).heap[k]? = w.heap[k]?:=fun k g=>World.putObj_heap_other g
    have ab : ¬ Z D:=fun u=>by obtain ⟨c,e,f,hc⟩:=hh.zc D u;rw [t] at hc;cases hc
    have y : ¬ im st.hp inj D:=fun hi=>by rcases hh.im_obj hi with ⟨_,_,e⟩ | ⟨_,e⟩ | ⟨_,_,e⟩ <;> rw [t] at e <;> cases e
    have u : ∀ k,Z k→(w.putObj D (.deferred none)).heap[k]? = w.heap[k]?:=fun k g=>d k fun e=>ab (e ▸ g)
    have o : J0 w (w.putObj D (.deferred none)):=fun k c e f g=>by
      by_cases z : k = D
      · subst z;rw [t] at g;cases g
      · exact ⟨c,e,f,(d k z).trans g,rfl⟩
    refine qji hT j hR Ds _ Z inj a (hs.mono u (fun _ h=>h) o (fun _ _=>rfl) (Nat.le_refl _)) ⟨?_,hh.sep,hh.out,fun k g=>by simpa using hh.zs k g,?_⟩ ?_ l.2 ?_
    · intro n b hn
      obtain ⟨m,q⟩:=hh.blk n b hn
      exact ⟨m,q.mono u (fun _ h=>h) o (fun _ _=>rfl) (Nat.le_refl _) m fun p hp hl=>d _ fun e=>y ⟨n,b,p.2,hn,hl,by rw [← e];exact hp⟩⟩
    · intro k g
      obtain ⟨c,e,f,hc⟩:=hh.zc k g
      exact ⟨c,e,f,(u k g).trans hc⟩
    · refine ⟨by simpa using he.size,fun b hb hi=>(d b q0).trans (he.keep b hb hi),he.imm,?_,?_,he.zin,he.zout,he.pinj,he.tape,he.os,he.output,fun x=>(qe5 (fun _ _ _=>by rw [t];simp) (fun _ _ _=>qe) x).trans (he.frz x)⟩
      · intro b c e f hb
        obtain ⟨c1,e1,f1,m,s1⟩:=he.big b c e f hb
        obtain ⟨c2,e2,f2,q,s2⟩:=o b c1 e1 f1 m
        exact ⟨c2,e2,f2,q,s2.trans s1⟩
      · intro b r hb
        obtain ⟨r1,m,s1⟩:=he.loops b r hb
        exact ⟨r1,(d b (by have:=Ja hb;omega)).trans m,s1⟩
    · intro D' s
      obtain ⟨m,q⟩:=hm D' (by simp [s])
      exact ⟨(d D' (fun e=>l.1 (e ▸ s))).trans m,q⟩
end
end Go.Am
