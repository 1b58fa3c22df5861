/- Am23 Am24 Am25 -/
import Derived.Test.YtbknppciefodiaaGreatK4
namespace Go.Am
open Go
variable {P : Program} {T : Tab}
section
variable {base : Nat} {w : World} {Z : Nat→Prop} {inj : Inj} {st st1 st2 : AS} {a : Act} {Ds : List Nat} {ops : Array Oper} {o : Oper}
structure Up (ops : Array Oper) (o : Oper) (x : Fp) (st st2 : AS) : Prop where
  blk : qea x st st2
  sl : ∀ t∈reads ops o,st2.get t = st.get t
theorem Up.ev {x : Fp} (h : Up ops o x st st2) {y : Operand} (a : y∈o.op.operands) : st2.ev y = st.ev y:=by
  cases y with
  | tmp t=>exact h.sl t (List.mem_append_left _ (by unfold slotsOf;rw [List.mem_filterMap];exact ⟨.tmp t,by simpa using a,rfl⟩))
  | const v=>rfl
  | func f=>rfl
  | global g=>rfl
theorem Up.guard {x : Fp} (h : Up ops o x st st2) : Qw ops st2 o = Qw ops st o:=by
  have hs:=h.sl;unfold reads at hs;unfold Qw;grind
theorem Up.callee {x : Fp} (h : Up ops o x st st2) {c : Call} (d : o.op = .call c) : callee st2 c = callee st c:=by
  obtain ⟨a,args,argTypes⟩:=c;unfold Am.callee
  cases a with
  | builtin b=>rfl
  | invoke r n=>rfl
  | value f=>
    simp only;rw [h.ev (y:=f) (by rw [d];simp [Op.operands,Call.operands]),q8w (fun x g=>h.ev (y:=x) (by rw [d];simp [Op.operands,Call.operands];exact .inr (by simpa using g)))]
theorem Z8 {st : AS} {d : Option Tmp} {v : V} {t : Tmp} : (st.putD d v).get t = if d = some t then some v else st.get t:=by
  cases d with
  | none=>simp [AS.putD]
  | some d=>simp only [AS.putD,AS.put,AS.get,Ku,Option.some.injEq]
theorem qhr {w : World} {Z : Nat→Prop} {inj : Inj} {nx : Nat} {fz : List Nat} {b : AS} {v : V} {x : Value} (h : RelV w Z inj nx v x) : Wv b (fun n=>n) fz [] nx v v:=by
  induction h with
  | d h=>exact .d (.refl _)
  | @agg ds cs hl _ ih=>
    exact .agg rfl fun i c d a hd=>by
      rw [a] at hd;cases hd;obtain ⟨y,g⟩:=Yd (xs:=cs) (i:=i) (by rw [← hl];exact Kd a);grind
  | @tup ds cs hl _ ih=>
    exact .tup rfl fun i c d a hd=>by
      rw [a] at hd;cases hd;obtain ⟨y,g⟩:=Yd (xs:=cs) (i:=i) (by rw [← hl];exact Kd a);grind
  | @fn f ds cs hl _ ih=>
    exact .fn rfl fun i c d a hd=>by
      rw [a] at hd;cases hd;obtain ⟨y,g⟩:=Yd (xs:=cs) (i:=i) (by rw [← hl];exact Kd a);grind
  | ref h1 h2=>exact .ref rfl qe h1
  | @dref cs j _ _ _ _ _=>exact .dref cs j
  | hsnil h1=>exact .hs rfl qe h1
  | hs h1 _ _ _=>exact .hs rfl qe h1
  | yld h1 _=>exact .yld rfl qe h1
  | mp h1 _=>exact .mp rfl qe h1
  | dead v=>exact .dead _
theorem q14g {w : World} {Z : Nat→Prop} {inj : Inj} {nx n : Nat} {fz : List Nat} {a : AS} {b : Blk} (h : RelB w Z inj nx n b) : Wb a (fun n=>n) fz [] nx b b:=by
  cases b with
  | dead=>exact .dead _
  | dat es xs=>exact .dat _ _
  | mp es=>exact .mp _
  | cel es xs=>
    obtain ⟨_,_,z⟩:=h;refine .cel rfl fun i x y f l=>?_;rw [f] at l;cases l;refine ⟨rfl,fun j c d m hd=>?_⟩;rw [m] at hd;cases hd;rcases z with ⟨rfl,_⟩ | ⟨b,o,arr,ty,_,_,u⟩
    · simp at f
    · obtain ⟨q,c',_,r⟩:=u i x j c f m;exact ⟨qhr r,q⟩
  | loop s ps assign body dn pe=>
    obtain ⟨b,tmps,D,fn,_,_,_,p⟩:=h;refine .loop fun t g k=>?_;obtain ⟨x,_,v⟩:=p t g k;exact ⟨g,k,qhr v⟩
theorem qk7 {w' : World} {Z' : Nat→Prop} {inj' : Inj} {a' : Act} {r : List Nat} {dst : Option Tmp} {n es : Nat} {xs : List (List DV)} {hp2 : List (Nat × Blk)} (s : RelS w' Z' inj' (st1.putD dst (.hs n es 0 xs.length)) a' r) (y : st1.hp = (n,.dat es xs)::hp2) (hf : find hp2 n = none) (hn : base≤n) (h4 : base≤st1.nx) :
    Wk base (fun n=>n) [n] [] (st1.putD dst (.hs n es 0 xs.length)) (({sl:=st1.sl,hp:=hp2,nx:=st1.nx} : AS).putD dst (.d (.sl es xs))):=by
  have f : (({sl:=st1.sl,hp:=hp2,nx:=st1.nx} : AS).putD dst (.d (.sl es xs))).nx = st1.nx:=Yq _ _ _;have o : (({sl:=st1.sl,hp:=hp2,nx:=st1.nx} : AS).putD dst (.d (.sl es xs))).hp = hp2:=Yp _ _ _
  have h : ∀ m b,find hp2 m = some b→m≠n∧find (st1.putD dst (.hs n es 0 xs.length)).hp m = some b:=by
    intro m b a;have c : m≠n:=by rintro rfl;rw [hf] at a;cases a
    refine ⟨c,?_⟩;rw [Yp,y,Ku,qp (by intro e;exact c e.symm)];exact a
  refine ⟨?_,?_,?_,?_,fun _ _=>rfl,by rw [f];exact h4,fun m a=>by simp at a;omega,fun m a=>by cases a⟩
  · intro t q j;rw [f];rw [Z8] at j;by_cases l : dst = some t
    · rw [qr l] at j;cases j;refine ⟨_,by rw [Z8,qr l],.frz (k:=es) (xs:=xs) ?_ qe q6 qe rfl⟩;show find (st1.putD dst _).hp n = _;rw [Yp,y,Ku,qr rfl]
    · rw [qp l] at j;have v : (st1.putD dst (.hs n es 0 xs.length)).get t = some q:=by rw [Z8,qp l];exact j
      obtain ⟨x,_,w⟩:=s.slots t q v;rw [Yq] at w;exact ⟨q,v,qhr w⟩
  · intro m p a;rw [f];unfold AS.blk at a;rw [o] at a;obtain ⟨c,g⟩:=h m p a;obtain ⟨u,z⟩:=s.heap.blk m p g;rw [Yq] at u z;exact ⟨u,.inr ⟨qe,p,g,q14g z⟩⟩
  · omega
  · intro m b a _ hc;unfold AS.blk at a;grind
theorem qvu {w : World} {Z : Nat→Prop} {inj : Inj} {a a' : Act} {Ds : List Nat} {w' : World} {dst : Option Tmp} {n es : Nat} {xs : List (List DV)} {hp2 : List (Nat × Blk)}
    (h : Kw base w Z inj st a Ds (st1.putD dst (.hs n es 0 xs.length)) a' w') (p : st1.hp = (n,.dat es xs)::hp2) (l : find hp2 n = none) (o : base≤n) :
    Kw base w Z inj st a Ds (({sl:=st1.sl,hp:=hp2,nx:=st1.nx} : AS).putD dst (.d (.sl es xs))) a' w':=by
  obtain ⟨Z',inj',g,j,k,q,f,m⟩:=h;obtain ⟨b,c⟩:=q27 j (qk7 j p l o (by rw [Yq] at f;exact f));exact ⟨_,_,g,b,k.trans c (Nat.le_refl _),q,by rw [Yq];rw [Yq] at f;exact f,m⟩
theorem qsc {n es : Nat} {xs : List (List DV)} {hp2 : List (Nat × Blk)} (c : Z5 P T) (k : Qw ops st o = some true) (g : opFn T st o.op = some (.hs n es 0 xs.length,st1)) (l : st.nx≤n) (m : st1.hp = (n,.dat es xs)::hp2) (j : find hp2 n = none) :
    Jq P base ops o st (({sl:=st1.sl,hp:=hp2,nx:=st1.nx} : AS).putD o.dst (.d (.sl es xs))):=by
  intro ro Q w Z inj a Ds K h hd hb b f;exact qfm c k g ro Q w Z inj a Ds K h hd hb b fun a' w' hp=>f a' w' (qvu hp m j (Nat.le_trans hb l))
theorem q9r {w : World} {Z : Nat→Prop} {inj inj' : Inj} {nx : Nat} {v : V} {x : Value} (h : RelV w Z inj nx v x) (hi : ∀ n p,n < nx→inj n = some p→inj' n = some p) : RelV w Z inj' nx v x:=by
  induction h with
  | d h=>exact .d h
  | agg hl _ ih=>exact .agg hl ih
  | tup hl _ ih=>exact .tup hl ih
  | fn hl _ ih=>exact .fn hl ih
  | ref h1 h2=>exact .ref h1 (hi _ _ h1 h2)
  | dref h1 h2 h3=>exact .dref h1 h2 h3
  | hsnil h1=>exact .hsnil h1
  | hs h1 h2 hsp h3=>
    refine .hs h1 h2 hsp fun a=>?_;grind
  | yld h1 h2=>exact .yld h1 (hi _ _ h1 h2)
  | mp h1 h2=>exact .mp h1 (hi _ _ h1 h2)
  | dead v=>exact .dead v
theorem qmu {w : World} {Z : Nat→Prop} {inj inj' : Inj} {nx n : Nat} {b : Blk} (h : RelB w Z inj nx n b) (hi : ∀ n p,n < nx→inj n = some p→inj' n = some p) (r : n < nx) (m : inj n = none→inj' n = none) : RelB w Z inj' nx n b:=by
  cases b with
  | dead=>trivial
  | dat es xs=>
    obtain ⟨a,f,g⟩:=h;refine ⟨a,f,?_⟩;grind
  | mp es=>
    obtain ⟨b,k,cl,a,f⟩:=h;exact ⟨b,k,cl,hi _ _ r a,f⟩
  | cel es xs=>
    obtain ⟨a,f,g⟩:=h;refine ⟨a,f,?_⟩;rcases g with ⟨g,l⟩ | ⟨b,o,arr,ty,g,l,h5⟩
    · grind
    · refine .inr ⟨b,o,arr,ty,hi _ _ r g,l,fun i x j d q hd=>?_⟩;obtain ⟨h6,c,u,y⟩:=h5 i x j d q hd;exact ⟨h6,c,u,q9r y hi⟩
  | loop s ps assign body dn pe=>
    obtain ⟨b,tmps,D,fn,a,f,g,l⟩:=h;refine ⟨b,tmps,D,fn,hi _ _ r a,f,g,fun t v ht=>?_⟩;obtain ⟨x,q,z⟩:=l t v ht;exact ⟨x,q,q9r z hi⟩
def qbq (base lo hi : Nat) (w : World) (Z : Nat→Prop) (inj : Inj) (st : AS) (a : Act) (Ds : List Nat) (st' : AS) (a' : Act) (w' : World) : Prop:=
  ∃ Z' inj' Ds',RelS w' Z' inj' st' a' Ds'∧Ext w Z inj st.hp w' Z' inj' st'.hp base∧a'.tmps.size = a.tmps.size∧(∀ D∈Ds',D∈Ds∨w.heap.size≤D)∧∀ m,m < st.nx→(m < lo∨hi≤m)→inj' m = inj m
def qec (P : Program) (base : Nat) (ops : Array Oper) (o : Oper) (st st' : AS) (lo hi : Nat) : Prop:=
  ∀ (ro : Option Nat) (Q : Exit→Act→World→Prop) (w : World) (Z : Nat→Prop) (inj : Inj) (a : Act) (Ds : List Nat) (K : Act→World→Prop),RelS w Z inj st a Ds→J9 a.tmps.size o.dst = true→base≤lo→base≤st.nx→Yl ro w→(∀ m,lo≤m→m < hi→inj m = none)→
    (∀ a' w',qbq base lo hi w Z inj st a Ds st' a' w'→K a' w')→Uo P (Fw ro) ops Q o K a w
theorem qke {st' : AS} {lo hi : Nat} (h : Jq P st.nx ops o st st') : qec P base ops o st st' lo hi:=by
  intro ro Q w Z inj a Ds K j hd _ hb b _ g;refine h ro Q w Z inj a Ds K j hd (Nat.le_refl _) b fun a' w' hp=>g a' w' ?_;obtain ⟨Z',inj',c,f,d,l,p,k⟩:=hp;exact ⟨Z',inj',c,f,d.pin_le hb,l,k,fun m n _=>d.pinj m n⟩
theorem qn0 {w : World} {Z : Nat→Prop} {inj : Inj} {w' : World} {Z' : Nat→Prop} {inj' b : Inj} {N l : Nat} {v : V} {x k : Value} (h : RelV w Z inj N v x) (g : RelV w' Z' inj' l v k) (hi : ∀ m p,m < N→inj' m = some p→b m = some p) : RelV w' Z' b N v k:=by
  induction g generalizing x with
  | d g=>exact .d g
  | @agg ds cs hl _ ih=>
    cases h with | @agg _ cs0 hl0 h0=>
    refine .agg hl fun i d c hd j=>?_;grind
  | @tup ds cs hl _ ih=>
    cases h with | @tup _ cs0 hl0 h0=>
    refine .tup hl fun i d c hd j=>?_;grind
  | @fn f ds cs hl _ ih=>
    cases h with | @fn _ _ cs0 hl0 h0=>
    refine .fn hl fun i d c hd j=>?_;grind
  | ref h1 h2=>
    have a:=by cases h with | ref h1 _=>exact h1
    exact .ref a (hi _ _ a h2)
  | dref h1 h2 h3=>exact .dref h1 h2 h3
  | hsnil h1=>
    have a:=by cases h with
      | hsnil h1=>exact h1
      | hs h1 _ _ _=>exact h1
    exact .hsnil a
  | hs h1 h2 hsp h3=>
    have a:=by cases h with
      | hsnil h1=>exact h1
      | hs h1 _ _ _=>exact h1
    refine .hs a h2 hsp fun j=>?_;grind
  | yld h1 h2=>
    have a:=by cases h with | yld h1 _=>exact h1
    exact .yld a (hi _ _ a h2)
  | mp h1 h2=>
    have a:=by cases h with | mp h1 _=>exact h1
    exact .mp a (hi _ _ a h2)
  | dead v=>exact .dead v
theorem qx5 {w : World} {Z : Nat→Prop} {inj : Inj} {w' : World} {Z' : Nat→Prop} {inj' a : Inj} {N N' n : Nat} {b : Blk} (h : RelB w Z inj N n b) (r : RelB w' Z' inj' N' n b) (hi : ∀ m p,m < N→inj' m = some p→a m = some p) (u : a n = inj' n) : RelB w' Z' a N n b:=by
  cases b with
  | dead=>trivial
  | dat es xs=>
    obtain ⟨f,g,k⟩:=r;refine ⟨f,g,?_⟩;grind
  | mp es=>
    obtain ⟨b,q,cl,f,g⟩:=r;exact ⟨b,q,cl,u.trans f,g⟩
  | cel es xs=>
    obtain ⟨f,g,k⟩:=r;refine ⟨f,g,?_⟩;rw [u];rcases k with k | ⟨b,o,arr,ty,k,z,h5⟩
    · grind
    · refine .inr ⟨b,o,arr,ty,k,z,fun i x j d l hd=>?_⟩;obtain ⟨h6,c,h7,h8⟩:=h5 i x j d l hd;obtain ⟨_,_,k3⟩:=h;rcases k3 with ⟨rfl,_⟩ | ⟨_,_,_,_,_,_,k5⟩
      · simp at l
      · obtain ⟨_,c0,_,k8⟩:=k5 i x j d l hd;exact ⟨h6,c,h7,qn0 k8 h8 hi⟩
  | loop s ps assign body dn pe=>
    obtain ⟨b,tmps,D,fn,f,g,k,z⟩:=r;obtain ⟨_,_,_,_,_,_,_,k4⟩:=h;refine ⟨b,tmps,D,fn,u.trans f,g,k,fun t v ht=>?_⟩;obtain ⟨x,l,hr⟩:=z t v ht;obtain ⟨x0,_,y⟩:=k4 t v ht;exact ⟨x,l,qn0 y hr hi⟩
theorem qkd {mk : Nat→V} {es q : Nat} {xs : List (List DV)} {f : List (Nat × Blk)} (hT : Z5 P T) (hg : Qw ops st o = some true) (hk : (∃ es,mk = fun n=>.ref n es 0 0)∨(∃ es l,mk = fun n=>.hs n es 0 l)∨(mk = fun n=>.mp n))
    (ho : opFn T st o.op = some (mk st.nx,⟨st.sl,(st.nx,.dat es xs)::f,st.nx + 1⟩)) (hq : q < st.nx) (ar : find st.hp q = none) (hold : ∀ m c,find f m = some c→c = .dead∨find st.hp m = some c) (ab : ∀ m,find st.hp m = none→find f m = none) :
    qec P base ops o st (({sl:=st.sl,hp:=(q,.dat es xs)::f,nx:=st.nx} : AS).putD o.dst (mk q)) q (q + 1):=by
  intro ro Q w Z inj a Ds K h hd bk hb _ aj hK;have av : inj q = none:=aj q (Nat.le_refl _) q6;unfold Uo;rw [q3l h hg];simp only [if_true];refine ⟨fun _ _=>trivial,?_⟩;rw [show (Fw ro).round = ro from rfl,Oper.semAt_eq ro _ o (qly ho)];obtain ⟨x,w',inj',hr,hv,hh,j,-,-⟩:=qlz hT h ho;simp only at hv hh j;obtain ⟨d,am⟩ : ∃ d : Inj,d = fun m=>if m = q then inj' st.nx else inj' m:=⟨_,rfl⟩
  have ac : d q = inj' st.nx:=by rw [am];simp
  have af : ∀ m,m≠q→d m = inj' m:=fun m g=>by rw [am];simp [g]
  have hi : ∀ m p,m < st.nx→inj' m = some p→d m = some p:=fun m p g hp=>by
    by_cases k : m = q
    · subst k;rw [j.pinj m g,av] at hp;cases hp
    grind
  have ag : ∀ m c,find f m = some c→m < st.nx:=fun m c g=>by
    cases hf : find st.hp m with
    | none=>rw [ab m hf] at g;cases g
    | some b=>exact (h.heap.blk m b hf).1
  have bv : ∀ m c,find f m = some c→m≠q:=fun m c g e=>by grind
  have up : ∀ m c,find f m = some c→find ((st.nx,Blk.dat es xs)::f) m = some c:=fun m c g=>by
    rw [Ku,qp (by have:=ag m c g;omega)];exact g
  have al : find ((st.nx,Blk.dat es xs)::f) st.nx = some (.dat es xs):=by rw [Ku,qr rfl]
  have back : ∀ m c,find ((q,Blk.dat es xs)::f) m = some c→∃ u,find ((st.nx,Blk.dat es xs)::f) u = some c∧d m = inj' u∧((m = q∧u = st.nx)∨(m≠q∧u = m)):=by
    intro m c g;rw [Ku] at g;grind
  have hH : RelH w' Z d ((q,Blk.dat es xs)::f) st.nx:=by
    refine ⟨fun m c g=>?_,fun m n b c p r h1 s h3 h4 h5 h6 ap=>?_,fun m b p h1 s h3=>?_,hh.zs,hh.zc⟩
    · rw [Ku] at g;by_cases k : q = m
      · subst k;rw [qr rfl] at g;cases g;refine ⟨hq,?_⟩;obtain ⟨_,k1,k2,k3⟩:=hh.blk st.nx _ al;exact ⟨k1,k2,by rw [ac];exact k3⟩
      · rw [qp k] at g;refine ⟨ag m c g,?_⟩;rcases hold m c g with rfl | ax
        · trivial
        · exact qx5 (h.heap.blk m c ax).2 (hh.blk m c (up m c g)).2 hi (af m (Ne.symm k))
    · obtain ⟨u,a1,a2,a3⟩:=back m b h1;obtain ⟨n',b1,b2,b3⟩:=back n c s;refine hh.sep u n' b c p r a1 b1 h3 h4 (a2 ▸ h5) (b2 ▸ h6) ?_;rcases a3 with ⟨rfl,rfl⟩ | ⟨a3,rfl⟩ <;> rcases b3 with ⟨rfl,rfl⟩ | ⟨b3,rfl⟩
      · omega
      · intro e;have : find f n' = some c:=by rw [Ku,qp (Ne.symm b3)] at s;exact s
        grind
      · intro e;have : find f u = some b:=by rw [Ku,qp (Ne.symm a3)] at h1;exact h1
        grind
      · exact ap
    · obtain ⟨u,a1,a2,_⟩:=back m b h1;exact hh.out u b p a1 s (a2 ▸ h3)
  have hE : Ext w Z inj st.hp w' Z d ((q,Blk.dat es xs)::f) base:=by
    refine ⟨j.size,j.keep,?_,j.big,j.loops,j.zin,j.zout,fun n hn=>?_,j.tape,j.os,j.output,j.frz⟩
    · rintro b ⟨m,c,off,g1,g2,g3⟩;obtain ⟨u,a1,a2,_⟩:=back m c g1;exact j.imm b ⟨u,c,off,a1,g2,a2 ▸ g3⟩
    · rw [af n q6];exact j.pinj n q6
  have hV : RelV w' Z d st.nx (mk q) x:=by
    rcases hk with ⟨es,rfl⟩ | ⟨es,l,rfl⟩ | rfl
    rotate_right
    · cases hv with | mp h1 s=>exact .mp hq (ac.trans s)
    · cases hv with | ref h1 s=>exact .ref hq (ac.trans s)
    · cases hv with
      | hsnil h1=>exact .hsnil hq
      | hs h1 s hsp h3=>
        refine .hs hq s hsp fun hc=>?_;grind
  have hS : Yw w' Z d st.nx st.sl a.tmps:=fun t v ht=>by
    obtain ⟨y,hy,hr⟩:=h.slots t v ht;exact ⟨y,hy,q9r (hr.mono (j.zkeep h.heap) j.zin j.big j.pinj (Nat.le_refl _)) hi⟩
  have z : qbq base q (q + 1) w Z inj st a Ds (({sl:=st.sl,hp:=(q,.dat es xs)::f,nx:=st.nx} : AS).putD o.dst (mk q)) (a.put o.dst x) w':=by
    refine ⟨Z,d,Ds,?_,by rw [Yp];exact hE,qma _ _ _,fun _ h=>.inl h,fun m g k=>?_⟩
    · generalize az : o.dst = dst at hd
      cases dst with
      | none=>exact ⟨hS,hH,h.defs,h.nodup,fun D hD=>j.marks h.heap (h.marks D hD)⟩
      | some t=>exact ⟨hS.put hV (qjf hd),hH,h.defs,h.nodup,fun D hD=>j.marks h.heap (h.marks D hD)⟩
    · rw [af m q6];exact j.pinj m g
  rcases hr with hr | ⟨hr,rfl⟩
  · rw [hr];exact hK _ _ z
  · rw [hr];exact hK _ _ z
theorem qvt {w : World} {Z : Nat→Prop} {inj : Inj} {a a' : Act} {Ds : List Nat} {w' : World} {dst : Option Tmp} {n es lo hi : Nat} {xs : List (List DV)} {hp2 : List (Nat × Blk)} (c : base≤st1.nx)
    (h : qbq base lo hi w Z inj st a Ds (st1.putD dst (.hs n es 0 xs.length)) a' w') (t : st1.hp = (n,.dat es xs)::hp2) (q : find hp2 n = none) (s : base≤n) :
    qbq base lo hi w Z inj st a Ds (({sl:=st1.sl,hp:=hp2,nx:=st1.nx} : AS).putD dst (.d (.sl es xs))) a' w':=by
  obtain ⟨Z',inj',f,k,o,p,l,r⟩:=h;have hp : Kw base w Z inj st a Ds (st1.putD dst (.hs n es 0 xs.length)) a' w':=⟨Z',inj',f,k,o,p,by rw [Yq];exact c,l⟩
  obtain ⟨b,g⟩:=q27 k (qk7 k t q s c);refine ⟨_,_,f,b,o.trans g (Nat.le_refl _),p,l,fun m u j=>?_⟩;rw [← r m u j];simp [wkI]
structure Js (P : Program) (ops : Array Oper) (o : Oper) (x : Fp) (st st1 : AS) : Prop where
  nx : st.nx≤st1.nx
  sl : ∀ t,o.dst≠some t→st1.get t = st.get t
  hp : ∀ m,m ∉ x.2→find st1.hp m = find st.hp m
  keys : ∀ m,st1.nx≤m→find st.hp m = none→find st1.hp m = none
  fresh : ∀ m,st.nx≤m→m < st1.nx→m∈x.2
  other : ∀ st2,st1.nx≤st2.nx→Up ops o x st st2→(∀ m,st.nx≤m→m < st1.nx→find st2.hp m = none)→∃ st3,st3.nx = st2.nx∧(∀ base,qec P base ops o st2 st3 st.nx st1.nx)∧
    (∀ t,o.dst≠some t→st3.get t = st2.get t)∧(∀ t,o.dst = some t→st3.get t = st1.get t)∧(∀ m∈x.2,find st3.hp m = find st1.hp m)∧(∀ m,m ∉ x.2→find st3.hp m = find st2.hp m)
theorem qhe : ∀ {b : List Nat} {n : Nat},hasN b n = true→n∈b
  | a::r,n,h=>by
    simp only [hasN,Bool.or_eq_true] at h
    rcases h with h | h
    · rw [Nat.eq_of_beq_eq_true h];simp
    · exact List.mem_cons_of_mem _ (qhe h)
theorem qle : ∀ {b : List Nat} {n : Nat},n∈b→hasN b n = true
  | a::r,n,h=>by
    simp only [hasN,Bool.or_eq_true]
    rcases List.mem_cons.1 h with rfl | h
    · left;exact Nat.beq_refl _
    · exact .inr (qle h)
theorem qk3 (y : Fp) : fpLe (some [],[]) y = true:=by
  unfold fpLe;cases y.1 <;> rfl
theorem Js.mono {x y : Fp} (h : Js P ops o x st st1) (j : fpLe x y = true) : Js P ops o y st st1:=by
  simp only [fpLe,Bool.and_eq_true,subN,List.all_eq_true] at j;obtain ⟨p,d⟩:=j;have c : ∀ m∈x.2,m∈y.2:=fun m a=>qhe (p m a);refine ⟨h.nx,h.sl,fun m a=>h.hp m fun e=>a (c m e),h.keys,fun m b hb=>c m (h.fresh m b hb),fun st2 u b t=>?_⟩
  have g : Up ops o x st st2:=by
    refine ⟨⟨fun m a=>b.blk.1 m (c m a),?_⟩,b.sl⟩;have hb:=b.blk.2;revert d hb
    cases y.1 with
    | none=>grind
    | some r=>
      cases x.1 with
      | none=>simp
      | some r'=>
        intro d hb m a;exact hb m (qhe (by simpa using List.all_eq_true.1 d m a))
  obtain ⟨f,n,s,v,q,w,k⟩:=h.other st2 u g t;refine ⟨f,n,s,v,q,fun m a=>?_,fun m a=>k m fun e=>a (c m e)⟩;by_cases l : m∈x.2
  · grind
  · rw [k m l,h.hp m l];exact b.blk.1 m a
theorem qo9 {v : V} {x : Fp} (c : x.2 = []) (a : ∀ st2,Up ops o x st st2→Jq P st2.nx ops o st2 (st2.putD o.dst v)) : Js P ops o x st (st.putD o.dst v):=by
  refine ⟨by rw [Yq];exact Nat.le_refl _,fun t h=>by rw [Z8,qp h],fun m _=>by rw [Yp],fun m _ h=>by rw [Yp];exact h,fun m f a=>by rw [Yq] at a;omega,fun st2 g d _=>?_⟩;refine ⟨st2.putD o.dst v,Yq _ _ _,fun base=>qke (a st2 d),fun t h=>by rw [Z8,qp h],fun t h=>by rw [Z8,Z8,qr h,qr h],fun m b=>(by rw [c] at b;cases b),fun m _=>by rw [Yp]⟩
theorem q12x (a : Qw ops st o = some false) : Js P ops o (some [],[]) st (st.putD o.dst (.d (.tup []))):=
  qo9 rfl fun _ b=>qkg (b.guard.trans a)
theorem qra {b : Blk} {n : Nat} {sl : List (Nat × V)} {hp1 : List (Nat × Blk)} {v : V} {op : Op} (c : opFn T st op = some (v,⟨sl,(st.nx,b)::hp1,n + 1⟩)) (f : st.nx = n) (h : q3h st op ⟨sl,(st.nx,b)::hp1,n + 1⟩ = true) : ∃ es xs,b = .dat es xs:=by
  by_cases d : touch op = 2
  · simp only [q3h,d] at h
    cases b with
    | dat es xs=>exact ⟨es,xs,rfl⟩
    | _=>simp at h
  · have a : touch op≤1:=by
      have : touch op≤2:=by unfold touch;split <;> omega
      omega
    have g:=(qgl (st2:=st) c a (fun _=>rfl) (fun _ _=>rfl)).1;grind
theorem q12v {v : V} (u : Z5 P T) (y : Qw ops st o = some true) (w : opFn T st o.op = some (v,st1)) (hd : q3h st o.op st1 = true) : Js P ops o (fp st o.op) st (st1.putD o.dst v):=by
  cases qlu w with
  | calm hsl hnx hhp hnone hall=>
    have g : ∀ t,st1.get t = st.get t:=fun t=>by unfold AS.get;rw [hsl]
    refine ⟨by rw [Yq];omega,fun t h=>by rw [Z8,qp h,g],fun m a=>by rw [Yp];exact hhp m a,fun m _ h=>by rw [Yp];exact hnone m h,fun m j k=>by rw [Yq] at k;omega,fun st2 q c _=>?_⟩;obtain ⟨f,n,r,s⟩:=hall st2 (fun x p=>c.ev p) c.blk;refine ⟨(⟨st2.sl,f,st2.nx⟩ : AS).putD o.dst v,Yq _ _ _,fun base=>qke (qfm u (c.guard.trans y) n),fun t h=>by rw [Z8,qp h];rfl,fun t h=>by rw [Z8,Z8,qr h,qr h],fun m a=>?_,fun m a=>?_⟩
    · rw [Yp,Yp];exact r m a
    · rw [Yp];exact s m a
  | new mk b hp1 hk hv j hmem hhp hnone hall=>
    subst j;obtain ⟨es,xs,rfl⟩:=qra w rfl hd;refine ⟨by rw [Yq];exact Nat.le_succ _,fun t h=>by rw [Z8,qp h];rfl,fun m a=>?_,fun m a h=>?_,fun m j k=>?_,fun st2 q c l=>?_⟩
    · rw [Yp,Ku,qp (by rintro rfl;exact a hmem)];exact hhp m a
    · rw [Yq] at a;rw [Yp,Ku,qp (by simp only at a;omega)];exact hnone m h
    · rw [Yq] at k;grind
    · rw [Yq] at q l ⊢;simp only at q l;obtain ⟨f,n,r,s,k4⟩:=hall st2 (fun x p=>c.ev p) c.blk;have d:=l st.nx (Nat.le_refl _) q6;refine ⟨(⟨st2.sl,(st.nx,.dat es xs)::f,st2.nx⟩ : AS).putD o.dst (mk st.nx),Yq _ _ _,fun base=>qkd u (c.guard.trans y) hk n q6 d k4 (fun m a=>?_),fun t h=>by rw [Z8,qp h];rfl,fun t h=>by rw [Z8,Z8,qr h,qr h,hv],fun m a=>?_,fun m a=>?_⟩
      · by_cases z : m∈(fp st o.op).2
        · rw [r m z];refine hnone m ?_;rw [← c.blk.1 m z];exact a
        grind
      · rw [Yp,Yp,Ku,Ku];grind
      · rw [Yp,Ku,qp (by rintro rfl;exact a hmem)];exact s m a
theorem q12w {n es : Nat} {xs : List (List DV)} {hp2 : List (Nat × Blk)} (hT : Z5 P T) (hg : Qw ops st o = some true) (ho : opFn T st o.op = some (.hs n es 0 xs.length,st1)) (q : n = st.nx∧st1.nx = n + 1) (y : st1.hp = (n,.dat es xs)::hp2) (hf : find hp2 n = none) :
    Js P ops o (fp st o.op) st (({sl:=st1.sl,hp:=hp2,nx:=st1.nx} : AS).putD o.dst (.d (.sl es xs))):=by
  obtain ⟨rfl,ag⟩:=q
  cases qlu ho with
  | calm hsl hnx hhp hnone hall=>omega
  | new mk b hp1 hk hv u hmem hhp hnone hall=>
    subst u;simp only [List.cons.injEq,Prod.mk.injEq,true_and] at y;obtain ⟨rfl,rfl⟩:=y;refine ⟨by rw [Yq];exact Nat.le_succ _,fun t h=>by rw [Z8,qp h];rfl,fun m g=>by rw [Yp];exact hhp m g,fun m g h=>by rw [Yp];exact hnone m h,fun m u h2=>?_,fun st2 q r k=>?_⟩
    · rw [Yq] at h2;grind
    · rw [Yq] at q k ⊢;simp only at q k;obtain ⟨j,k1,z,k3,k4⟩:=hall st2 (fun x hx=>r.ev hx) r.blk;have c:=k st.nx (Nat.le_refl _) q6
      have f : ∀ m,find st2.hp m = none→find j m = none:=fun m g=>by
        by_cases v : m∈(fp st o.op).2
        · rw [z m v];refine hnone m ?_;rw [← r.blk.1 m v];exact g
        grind
      refine ⟨(⟨st2.sl,j,st2.nx⟩ : AS).putD o.dst (.d (.sl es xs)),Yq _ _ _,fun base=>?_,fun t h=>by rw [Z8,qp h];rfl,fun t h=>by rw [Z8,Z8,qr h,qr h],fun m g=>by rw [Yp,Yp];exact z m g,fun m g=>by rw [Yp];exact k3 m g⟩;intro ro Q w Z inj a Ds K h hd l hb s p hK;refine qkd (base:=base) hT (r.guard.trans hg) hk k1 q6 c k4 f ro Q w Z inj a Ds K h hd l hb s p fun a' w' hp=>hK a' w' ?_;rw [← hv] at hp;exact qvt (st1:=⟨st2.sl,(st.nx,.dat es xs)::j,st2.nx⟩) hb hp rfl (f _ c) l
theorem q13u {hp hp2 : List (Nat × Blk)} (h : ∀ m,find hp2 m = find hp m) : ∀ k,toD hp2 k = toD hp k:=by
  intro k
  induction k with
  | zero=>funext v;cases v <;> rfl
  | succ k ih=>funext v;cases v <;> simp only [toD,ih,h]
theorem qi3 {hp hp2 : List (Nat × Blk)} (h : ∀ m,find hp2 m = find hp m) : ∀ {a : List V},Kr hp2 a = Kr hp a
  | []=>rfl
  | v::r=>by simp only [Kr,q13u h,qi3 h]
theorem qi4 {hp hp2 : List (Nat × Blk)} : ∀ {a : List V},a.all V.isD = true→Kr hp2 a = Kr hp a
  | [],_=>rfl
  | v::r,h=>by
    simp only [List.all_cons,Bool.and_eq_true] at h
    have e : toD hp2 8 v = toD hp 8 v:=by
      cases v <;> first | rfl | (simp [V.isD] at h;done)
    rw [Kr,Kr,e,qi4 (hp:=hp) (hp2:=hp2) h.2]
theorem q12u {c : Call} {f : FuncId} {b : List V} {ds : List DV} {v : V} {hp' : List (Nat × Blk)} {nx' : Nat} {m r : DV} (p : Qw ops st o = some true) (n : o.op = .call c) (q : callee st c = some (f,b))
    (l : Kr st.hp b = some ds) (a : Jo P f (ds.map .d) [] 0 v hp' nx') (k : toD hp' 8 v = some m) (g : DLe m r) (hs : b.all V.isD = true∨r.scalar = true) : Js P ops o (fpC b) st (st.putD o.dst (.d r)):=by
  refine qo9 (by unfold fpC;cases b.all V.isD <;> rfl) fun st2 j=>qkf (j.guard.trans p) n ((j.callee n).trans q) ?_ a k g hs;rw [← l];by_cases hd : b.all V.isD = true
  · exact qi4 hd
  · have h:=j.blk.2;simp only [fpC,hd,qy] at h;exact qi3 h
theorem qsa {ops : Array Oper} {o : Oper} {c : Call} {f : FuncId} {vs bc : List V} {hp0 hp' ap bb : List (Nat × Blk)} {k k' am : Nat} {v' vN : V} {ρ ρ3 : Nat→Nat} {bs aq : List Nat} (hg : Qw ops st o = some true) (ho : o.op = .call c) (hc : callee st c = some (f,vs)) (cb : vs.length = bc.length)
    (ck : Wk 0 ρ [] [] {sl:=Y8 0 vs,hp:=st.hp,nx:=st.nx} {sl:=Y8 0 bc,hp:=hp0,nx:=k}) (au : Jo P f bc hp0 k v' hp' k') (bt : Wk 0 ρ3 bs aq {sl:=[(0,v')],hp:=hp',nx:=k'} {sl:=[(0,vN)],hp:=ap,nx:=am})
    (hb : Back ρ ρ3 aq k k' st.nx am st.hp ap bb) : Jq P base ops o st ({sl:=st.sl,hp:=bb,nx:=am : AS}.putD o.dst vN):=by
  intro ro Q w Z inj a Ds K h hd bi _ hK;unfold Uo;rw [q3l h hg];simp only [if_true];refine ⟨fun _ _=>trivial,?_⟩;obtain ⟨xs,hr,hl⟩:=qeq h ho hc au.1;rw [show (Fw ro).round = ro from rfl,Oper.semAt_eq ro _ o (by rintro c' h';rw [ho] at h';cases h'),hr,Oper.uponIn_enter];refine ⟨fun h=>by simp [Fw] at h,?_⟩
  have bn : RelS w Z inj {sl:=Y8 0 vs,hp:=st.hp,nx:=st.nx} {a with tmps:=xs,defers:=[]} []:=by
    refine ⟨fun t v ht=>?_,h.heap,rfl,List.nodup_nil,qe⟩;rw [qbv] at ht;simp only [Nat.zero_le,if_true,Nat.sub_zero] at ht;obtain ⟨y,hy⟩:=Yd (xs:=xs) (i:=t) (by rw [← hl.1];exact Kd ht);exact ⟨y,hy,hl.2 t v y ht hy⟩
  obtain ⟨cd,ai⟩:=q27 bn ck
  have de : LRel w (wkZ Z inj {sl:=Y8 0 vs,hp:=st.hp,nx:=st.nx} []) (wkI inj ρ []) k bc xs:=by
    refine ⟨by rw [← cb];exact hl.1,fun i d y cy dc=>?_⟩;obtain ⟨y',ci,hr⟩:=cd.slots i d (by rw [qbv];simpa using cy);rw [dc] at ci;cases ci;exact hr
  refine CallsIn.mono (au.2 w _ _ xs cd.heap de) ?_;rintro e w' ⟨x,Z',inj',rfl,hh,cj,hv,hn⟩;obtain ⟨s,af⟩ : ∃ s : Inj,s = fun n=>if n < k' then inj' n else none:=⟨_,rfl⟩
  have ab : ∀ n,n < k'→s n = inj' n:=fun n hn=>by rw [af];simp [hn]
  have cu : RelH w' Z' s hp' k':=by
    refine ⟨fun n b hb=>?_,fun n m b c p q l j u h4 h5 h6=>?_,fun n b p l j u=>?_,hh.zs,hh.zc⟩
    · obtain ⟨k1,k2⟩:=hh.blk n b hb;exact ⟨k1,qmu k2 (fun m p hm hp=>(ab m hm).trans hp) k1 (fun hp=>(ab n k1).trans hp)⟩
    · rw [ab n (hh.blk n b l).1] at h5;rw [ab m (hh.blk m c j).1] at h6;exact hh.sep n m b c p q l j u h4 h5 h6
    · rw [ab n (hh.blk n b l).1] at u;exact hh.out n b p l j u
  have dd : RelV w' Z' s k' v' x:=q9r hv fun n p hn hp=>(ab n hn).trans hp
  have bj : ∀ b,im hp' s b→im hp' inj' b:=by
    rintro b ⟨n,blk,o,l,j,u⟩;exact ⟨n,blk,o,l,j,by rw [← ab n (hh.blk n blk l).1];exact u⟩
  have bo : RelS w' Z' s {sl:=[(0,v')],hp:=hp',nx:=k'} {a with tmps:=#[x],defers:=[]} []:=by
    refine ⟨fun t v ht=>?_,cu,rfl,List.nodup_nil,qe⟩;rw [Ku] at ht;split at ht
    · rename_i e;subst e;cases ht;exact ⟨x,rfl,dd⟩
    · simp [find] at ht
  obtain ⟨ac,aj⟩:=q27 bo bt;generalize dv : wkZ Z' s {sl:=[(0,v')],hp:=hp',nx:=k'} bs = Z3 at ac aj;generalize bu : wkI s ρ3 aq = z at ac aj
  have da : RelV w' Z3 z am vN x:=by
    obtain ⟨y,hy,hr⟩:=ac.slots 0 vN (by simp [find]);simp at hy;subst hy;exact hr
  have bg : ∀ i,i < k→inj' i = inj (ρ i):=fun i hi=>by rw [cj.pinj i hi];simp [wkI]
  have cc : ∀ m,m < st.nx→∀ p,z m = some p→inj m = some p:=by
    intro m hm p hp;have ba : m ∉ aq:=fun hc=>by have:=hb.phn m hc;omega
    rw [← bu] at hp;simp only [wkI,ba,if_false] at hp;rcases hb.snd m hm with ⟨l,j⟩ | l
    · rw [af] at hp;simp only [show ρ3 m < k' by omega,if_true] at hp;rw [bg _ l,j] at hp;exact hp
    · rw [af] at hp;simp [show ¬ ρ3 m < k' by omega] at hp
  obtain ⟨r,ag⟩ : ∃ r : Inj,r = fun m=>if m < st.nx then inj m else z m:=⟨_,rfl⟩
  have aa : ∀ m,m < st.nx→r m = inj m:=fun m hm=>by rw [ag];simp [hm]
  have ch : ∀ m p,z m = some p→r m = some p:=fun m p hp=>by
    by_cases hm : m < st.nx
    · rw [aa m hm];exact cc m hm p hp
    · rw [ag];simp [hm,hp]
  have hR : ∀ m b,find ap m = some b→∀ p,r m = some p→z m = some p:=by
    intro m b bh p hp;by_cases hm : m < st.nx
    · rw [aa m hm] at hp;have ba : m ∉ aq:=fun hc=>by have:=hb.phn m hc;omega
      obtain ⟨_,j⟩:=bt.blocks m b bh;rcases j with ⟨j,_⟩ | ⟨_,b0,u,_⟩
      · exact absurd j ba
      · have cs:=(hh.blk _ _ u).1;rcases hb.snd m hm with ⟨k1,k2⟩ | k1
        · rw [← bu];simp only [wkI,ba,if_false];rw [ab _ q6,bg _ k1,k2];exact hp
        · omega
    · rw [ag] at hp;simpa [hm] using hp
  have hE : Ext w (wkZ Z inj {sl:=Y8 0 vs,hp:=st.hp,nx:=st.nx} []) (wkI inj ρ []) hp0 w' Z' inj' hp' 0:=cj.pin_le (Nat.zero_le _)
  have cx : ∀ b,im ap z b→im st.hp inj b∨w.heap.size≤b:=by
    intro b df;rcases aj.imm b df with l | l
    · rcases hE.imm b (bj b l) with j | j
      · exact ai.imm b j
      · exact .inr j
    · exact .inr (Nat.le_trans hE.size l)
  have keep : ∀ b,b < w.heap.size→¬ im hp0 (wkI inj ρ []) b→w'.heap[b]? = w.heap[b]?:=fun b dg dh=>hE.keep b dg dh
  have an : ∀ m b p,find st.hp m = some b→live b = true→inj m = some p→(∀ i,i < k→ρ i≠m)→¬ im hp0 (wkI inj ρ []) p.1:=by
    rintro m b p l j u h4 ⟨i,blk,o,g1,g2,g3⟩;obtain ⟨j1,j2⟩:=ck.blocks i blk g1;rcases j2 with ⟨j2,_⟩ | ⟨_,b0,j3,j4⟩
    · cases j2
    · have cv : inj (ρ i) = some (p.1,o):=by simpa [wkI] using g3
      exact h.heap.sep (ρ i) m b0 b _ p j3 l (qp2 j4 g2) j cv u (h4 i j1) rfl
  have hZ : ∀ b,Z b→Z3 b:=fun b hz=>aj.zin b (hE.zin b (ai.zin b hz))
  have bz : ∀ b,Z3 b→Z b∨im hp0 (wkI inj ρ []) b∨w.heap.size≤b:=by
    intro b hz;rcases aj.zout b hz with l | l | l
    · rcases hE.zout b l with j | j | j
      · rcases ai.zout b j with u | u | u
        · exact .inl u
        · rcases j with j | ⟨n,hn,_⟩
          · exact .inl j
          · cases hn
        · exact .inr (.inr u)
      · exact .inr (.inl j)
      · exact .inr (.inr j)
    · rcases hE.imm b (bj b l) with j | j
      · exact .inr (.inl j)
      · exact .inr (.inr j)
    · exact .inr (.inr (Nat.le_trans hE.size l))
  have be : Zx w w':=hE.big;have ax : qbp w w':=hE.loops
  have co : Ext w Z inj st.hp w' Z3 r bb st.nx:=by
    refine ⟨hE.size,fun b l j=>keep b l (fun u=>(ai.imm b u).elim j (fun h4=>q6)),?_,be,ax,hZ,?_,aa,hE.tape,hE.os,hE.output,hE.frz⟩
    · rintro b ⟨m,blk,o,g1,g2,g3⟩;rcases hb.old m blk g1 with g4 | ⟨g4,_⟩
      · exact cx b ⟨m,blk,o,g4,g2,hR m blk g4 _ g3⟩
      · exact .inl ⟨m,blk,o,g4,g2,by rw [← aa m (h.heap.blk m blk g4).1];exact g3⟩
    · intro b hz;rcases bz b hz with l | l | l
      · exact .inl l
      · exact .inr ((ai.imm b l).imp (fun x=>x) (fun x=>x))
      · exact .inr (.inr l)
  have hH : RelH w' Z3 r bb am:=by
    refine ⟨fun m b bh=>?_,fun m n b c p q l j u h4 h5 h6 cn=>?_,fun m b p l j u hz=>?_,ac.heap.zs,ac.heap.zc⟩
    · rcases hb.old m b bh with g | ⟨g,gi⟩
      · obtain ⟨k1,k2⟩:=ac.heap.blk m b g;refine ⟨k1,qmu k2 (fun n p _ hp=>ch n p hp) k1 fun hp=>?_⟩
        cases hq : r m with
        | none=>rfl
        | some p=>rw [hR m b g p hq] at hp;cases hp
      · obtain ⟨k1,k2⟩:=h.heap.blk m b g;refine ⟨Nat.lt_of_lt_of_le k1 hb.nxs,k2.mono (fun b' hz=>?_) hZ be (fun n hn=>aa n hn) hb.nxs k1 fun p hp bw=>?_⟩
        · refine keep b' (h.heap.zs b' hz) fun hi=>?_;rcases ai.imm b' hi with l | l
          · exact h.heap.z_im hz l
          · have:=h.heap.zs b' hz;omega
        · exact keep _ (h.heap.im_lt ⟨m,b,p.2,g,bw,hp⟩) (an m b p g bw hp gi)
    · have ar : ∀ (m n : Nat) (b c : Blk) (p q : Nat × Nat),find ap m = some b→live b = true→r m = some p→find st.hp n = some c→live c = true→r n = some q→(∀ i,i < k→ρ i≠n)→p.1≠q.1:=by
        intro m n b c p q l u h5 j h4 h6 hn e;have hq : inj n = some q:=by rw [← aa n (h.heap.blk n c j).1];exact h6
        have cs:=h.heap.im_lt (b:=q.1) ⟨n,c,q.2,j,h4,hq⟩;rcases aj.imm p.1 ⟨m,b,p.2,l,u,hR m b l p h5⟩ with g1 | g1
        · rcases hE.imm p.1 (bj _ g1) with g2 | g2
          · exact an n c q j h4 hq hn (e ▸ g2)
          · omega
        · have:=hE.size;omega
      rcases hb.old m b l with g | ⟨g,gi⟩ <;> rcases hb.old n c j with g' | ⟨g',cz⟩
      · exact ac.heap.sep m n b c p q g g' u h4 (hR m b g p h5) (hR n c g' q h6) cn
      · exact ar m n b c p q g u h5 g' h4 h6 cz
      · exact fun e=>ar n m c b q p g' h4 h6 g u h5 gi e.symm
      · exact h.heap.sep m n b c p q g g' u h4 (by rw [← aa m (h.heap.blk m b g).1];exact h5) (by rw [← aa n (h.heap.blk n c g').1];exact h6) cn
    · rcases hb.old m b l with g | ⟨g,gi⟩
      · exact ac.heap.out m b p g j (hR m b g p u) hz
      · have hq : inj m = some p:=by rw [← aa m (h.heap.blk m b g).1];exact u
        rcases bz p.1 hz with h4 | h4 | h4
        · exact h.heap.out m b p g j hq h4
        · exact an m b p g j hq gi h4
        · have:=h.heap.im_lt (b:=p.1) ⟨m,b,p.2,g,j,hq⟩;omega
  exact hK _ _ (q3r h bi co hH hb.nxs (q9r da fun n p _ hp=>ch n p hp) hd)
theorem q12y {c : Call} {f : FuncId} {b : List V} {v : V} {hp' : List (Nat × Blk)} {nx' : Nat} (d : Qw ops st o = some true) (h : o.op = .call c) (g : callee st c = some (f,b)) (a : Jo P f b st.hp st.nx v hp' nx') :
    Jq P base ops o st ({sl:=st.sl,hp:=hp',nx:=nx' : AS}.putD o.dst v):=qsb d h g a
inductive Zo (P : Program) (base : Nat) (ops : Array Oper) : List Oper→AS→AS→Prop
  | nil {st : AS} : Zo P base ops [] st st
  | cons {o : Oper} {l : List Oper} {st st1 st2 : AS} : Jq P base ops o st st1→Zo P base ops l st1 st2→Zo P base ops (o::l) st st2
  | wk {ρ : Nat→Nat} {fz ph : List Nat} {l : List Oper} {st st1 st2 : AS} : Wk base ρ fz ph st st1→Zo P base ops l st1 st2→Zo P base ops l st st2
inductive Jp (P : Program) (base : Nat) (ops : Array Oper) (F : List Fp) : List Oper→AS→AS→Prop
  | nil {st : AS} : Jp P base ops F [] st st
  | cons {o : Oper} {l : List Oper} {st st1 st2 : AS} : Js P ops o (fpAt F l.length) st st1→Jp P base ops F l st1 st2→Jp P base ops F (o::l) st st2
  | piv {o : Oper} {l : List Oper} {st st1 st2 : AS} : Ui (fpAt F l.length) = true→Zo P base ops [o] st st1→Jp P base ops F l st1 st2→Jp P base ops F (o::l) st st2
def q18 (P : Program) (base : Nat) (ops : Array Oper) (dr : Dr) (l : List Oper) (st st' : AS) : Prop:=match dr with
  | none=>Zo P base ops l st st'
  | some F=>Jp P base ops F l st st'
theorem qir {F : List Fp} : ∀ {l : List Oper} {st st' : AS},Jp P base ops F l st st'→∃ (n : Nat) (S : Nat→AS),n≤l.length∧S 0 = st∧(∀ i o,i < n→l[i]? = some o→Js P ops o (fpAt F (l.length - (i + 1))) (S i) (S (i + 1)))∧
    ((n = l.length∧S n = st')∨∃ o st1,l[n]? = some o∧Ui (fpAt F (l.length - (n + 1))) = true∧Zo P base ops [o] (S n) st1∧Jp P base ops F (l.drop (n + 1)) st1 st')
  | [],st,st',h=>by cases h;exact ⟨0,fun _=>st,Nat.le_refl _,rfl,fun i o h=>q6,.inl ⟨rfl,rfl⟩⟩
  | o::l,st,st',h=>by
    cases h with
    | @cons _ _ _ st1 _ h1 h2=>
      obtain ⟨n,S,p,m,hs,b⟩:=qir h2
      refine ⟨n + 1,fun i=>match i with | 0=>st | i + 1=>S i,by simp;omega,rfl,fun i c hi f=>?_,?_⟩
      · cases i with
        | zero=>simp at f;subst f;simp only [m,List.length_cons,Nat.zero_add,Nat.add_sub_cancel];exact h1
        | succ i=>
          have:=hs i c q6 (by simpa using f)
          simp only [List.length_cons]
          rw [show l.length + 1 - (i + 1 + 1) = l.length - (i + 1) by omega]
          exact this
      · rcases b with ⟨a,d⟩ | ⟨c,k,a,d,j,g⟩
        · exact .inl ⟨by simp [a],d⟩
        · refine .inr ⟨c,k,by simpa using a,?_,j,by simpa using g⟩
          rw [List.length_cons,show l.length + 1 - (n + 1 + 1) = l.length - (n + 1) by omega]
          exact d
    | @piv _ _ _ st1 _ h1 h2 a=>exact ⟨0,fun _=>st,Nat.zero_le _,rfl,fun i o h=>q6,.inr ⟨o,st1,rfl,by simpa using h1,h2,by simpa using a⟩⟩
theorem qq8 {dr : Dr} {l : List Oper} {st2 : AS} (a : Qw ops st o = some false) (h : q18 P base ops dr l (st.putD o.dst (.d (.tup []))) st2) : q18 P base ops dr (o::l) st st2:=by
  cases dr with
  | none=>exact .cons (qkg a) h
  | some F=>exact .cons ((q12x a).mono (qk3 _)) h
theorem qq6 {dr : Dr} {l : List Oper} {st2 : AS} {v : V} (c : Z5 P T) (b : Qw ops st o = some true) (d : opFn T st o.op = some (v,st1)) (a : okO dr l.length st o.op st1 = true) (h : q18 P base ops dr l (st1.putD o.dst v) st2) : q18 P base ops dr (o::l) st st2:=by
  cases dr with
  | none=>exact .cons (qfm c b d) h
  | some F=>
    simp only [okO,Bool.and_eq_true] at a;exact .cons ((q12v c b d a.2).mono a.1) h
theorem qq7 {dr : Dr} {l : List Oper} {st2 : AS} {n es : Nat} {xs : List (List DV)} {hp2 : List (Nat × Blk)} (b : Z5 P T) (a : Qw ops st o = some true) (g : opFn T st o.op = some (.hs n es 0 xs.length,st1)) (c : n = st.nx∧st1.nx = n + 1) (f : st1.hp = (n,.dat es xs)::hp2) (j : find hp2 n = none) (k : okF dr l.length (fp st o.op) = true)
    (h : q18 P base ops dr l (({sl:=st1.sl,hp:=hp2,nx:=st1.nx} : AS).putD o.dst (.d (.sl es xs))) st2) : q18 P base ops dr (o::l) st st2:=by
  cases dr with
  | none=>exact .cons (qsc b a g (Nat.le_of_eq c.1.symm) f j) h
  | some F=>exact .cons ((q12w b a g c f j).mono k) h
theorem qq5 {dr : Dr} {l : List Oper} {st2 : AS} {c : Call} {f : FuncId} {k : List V} {ds : List DV} {v : V} {hp' : List (Nat × Blk)} {nx' : Nat} {m r : DV} (p : Qw ops st o = some true) (n : o.op = .call c) (q : callee st c = some (f,k))
    (j : Kr st.hp k = some ds) (a : Jo P f (ds.map .d) [] 0 v hp' nx') (g : toD hp' 8 v = some m) (b : DLe m r) (hs : k.all V.isD = true∨r.scalar = true) (s : okF dr l.length (fpC k) = true) (h : q18 P base ops dr l (st.putD o.dst (.d r)) st2) : q18 P base ops dr (o::l) st st2:=by
  cases dr with
  | none=>exact .cons (qkf p n q j a g b hs) h
  | some F=>exact .cons ((q12u p n q j a g b hs).mono s) h
def Adm (ops : Array Oper) (S : Nat→Prop) : Prop:=∀ j o,S j→ops[j]? = some o→∀ e∈o.after,Region.binds .any e = true→S e.on
def Behind (ops : Array Oper) (o : Oper) (j : Nat) : Prop:=∀ S : Nat→Prop,Adm ops S→(∀ e∈o.after,Region.binds .any e = true→S e.on)→S j
theorem qlb (acc : List Nat) (j : Nat) : ∀ (l : List Edge) (s : Nat),(l.foldl (fun s e=>if Region.binds .any e then s ||| 2 ^ e.on ||| acc.getD e.on 0 else s) s).testBit j = true→
    s.testBit j = true∨∃ e∈l,Region.binds .any e = true∧(e.on = j∨(acc.getD e.on 0).testBit j = true)
  | [],s,h=>.inl h
  | e::l,s,h=>by
    simp only [List.foldl_cons] at h
    rcases qlb acc j l _ h with h | ⟨b,a,d,c⟩
    · by_cases hb : Region.binds .any e = true
      · simp only [hb,if_true,Nat.testBit_or,Bool.or_eq_true,Nat.testBit_two_pow] at h
        rcases h with (h | h) | h
        · exact .inl h
        · exact .inr ⟨e,qe,hb,.inl (by simpa using h)⟩
        · exact .inr ⟨e,qe,hb,.inr h⟩
      · simp only [hb] at h;exact .inl (by simpa using h)
    · exact .inr ⟨b,List.mem_cons_of_mem _ a,d,c⟩
theorem qlc : ∀ (r : List Oper) (pre : List Oper) (acc : List Nat),ops.toList = pre ++ r→acc.length = pre.length→
    (∀ (i m : Nat),acc[i]? = some m→∃ o,ops[i]? = some o∧∀ j,m.testBit j = true→Behind ops o j)→
    (masks acc r).length = ops.size∧∀ (i m : Nat),(masks acc r)[i]? = some m→∃ o,ops[i]? = some o∧∀ j,m.testBit j = true→Behind ops o j
  | [],pre,acc,h,hl,ha=>by
    refine ⟨?_,ha⟩
    have:=congrArg List.length h
    simp at this
    simp [masks,hl,this]
  | o::r,pre,acc,h,hl,ha=>by
    refine qlc r (pre ++ [o]) (acc ++ [qla acc o]) (by rw [h];simp) (by simp [hl]) ?_
    intro i m b
    by_cases hi : i < acc.length
    · rw [List.getElem?_append_left hi] at b;exact ha i m b
    · rw [List.getElem?_append_right q6] at b
      have d : i = acc.length:=by
        have:=Kd b;simp at this;omega
      subst d
      simp at b;subst b
      refine ⟨o,by rw [← Array.getElem?_toList,h,hl];simp,fun j t S n p=>?_⟩
      rcases qlb acc j _ _ t with v | ⟨e,q,s,a⟩
      · simp at v
      · have c:=p e (by simpa using q) s
        rcases a with a | a
        · exact a ▸ c
        · rw [List.getD_eq_getElem?_getD] at a
          cases k : acc[e.on]? with
          | none=>rw [k] at a;simp at a
          | some m'=>
            rw [k] at a;obtain ⟨w,l,hb⟩:=ha _ _ k;exact hb j a S n (fun u f g=>n _ _ c l u f g)
theorem qjg : ∀ (l : List Oper) (n : Nat),qc7 n l = true→∀ i o,l[i]? = some o→∀ e∈o.after,Region.binds .any e = true→e.on < n + i
  | [],_,_,i,o,h=>by simp at h
  | x::l,n,h,i,o,ho=>by
    simp only [qc7,Bool.and_eq_true,List.all_eq_true] at h
    cases i with
    | zero=>
      simp at ho;subst ho
      intro e a hb
      have:=h.1 e (by simpa using a)
      simp [hb] at this
      exact this
    | succ i=>
      intro e a hb
      have:=qjg l (n + 1) h.2 i o (by simpa using ho) e a hb
      omega
structure q8c (x y : Fp) : Prop where
  ww : ∀ m∈x.2,m ∉ y.2
  rw : ∀ m∈y.2,match x.1 with | none=>False | some r=>m ∉ r
  wr : ∀ m∈x.2,match y.1 with | none=>False | some r=>m ∉ r
theorem qeh {a b : List Nat} (h : q8g a b = true) : ∀ m∈a,m ∉ b:=fun m c hb=>by
  simp only [q8g,List.all_eq_true] at h
  have:=h m c
  rw [qle hb] at this;cases this
theorem qpf {x y : Fp} (h : qeg x y = true) : q8c x y:=by
  simp only [qeg,Bool.and_eq_true] at h;obtain ⟨⟨f,c⟩,b⟩:=h;refine ⟨qeh f,fun m a=>?_,fun m a=>?_⟩
  · revert c
    cases x.1 with
    | none=>intro c;rw [List.isEmpty_iff] at c;rw [c] at a;cases a
    | some r=>intro c d;exact qeh c m d a
  · revert b
    cases y.1 with
    | none=>intro b;rw [List.isEmpty_iff] at b;rw [b] at a;cases a
    | some r=>intro b d;exact qeh b m d a
structure q8d (F : List Fp) (ops : Array Oper) : Prop where
  edges : ∀ j o,ops[j]? = some o→∀ e∈o.after,Region.binds .any e = true→e.on < j
  pairs : ∀ i j a b,i < j→ops[i]? = some a→ops[j]? = some b→Behind ops b i∨(q8c (fpAt F (ops.size - (i + 1))) (fpAt F (ops.size - (j + 1)))∧(∀ t∈reads ops a,b.dst≠some t)∧(∀ t∈reads ops b,a.dst≠some t)∧∀ t,a.dst = some t→b.dst≠some t)
  pivs : ∀ i j a b,i < j→ops[i]? = some a→ops[j]? = some b→(Ui (fpAt F (ops.size - (i + 1))) = true∨Ui (fpAt F (ops.size - (j + 1))) = true)→Behind ops b i
theorem qp8 {α : Type} {l : List α} {i : Nat} {x : α} (h : l[i]? = some x) : (x,i)∈l.zipIdx:=by grind
theorem qf8 {o : Oper} {t : Tmp} : q8s o t = true↔o.dst = some t:=by
  unfold q8s
  cases o.dst with
  | none=>simp
  | some d=>simp
theorem qrd {F : List Fp} (h : q8r F ops = true) : q8d F ops:=by
  simp only [q8r,Bool.and_eq_true,List.all_eq_true] at h;obtain ⟨q,u⟩:=h;obtain ⟨w,v⟩:=qlc (ops:=ops) ops.toList [] [] rfl rfl qe;have d : ∀ (i : Nat) (o : Oper),ops[i]? = some o→ops.toList[i]? = some o:=fun i o l=>by rw [Array.getElem?_toList];exact l
  have main : ∀ i j a b,i < j→ops[i]? = some a→ops[j]? = some b→Behind ops b i∨((Ui (fpAt F (ops.size - (i + 1))) = false∧Ui (fpAt F (ops.size - (j + 1))) = false)∧(q8c (fpAt F (ops.size - (i + 1))) (fpAt F (ops.size - (j + 1)))∧(∀ t∈reads ops a,b.dst≠some t)∧(∀ t∈reads ops b,a.dst≠some t)∧∀ t,a.dst = some t→b.dst≠some t)):=fun i j a b c k hb=>by
    have:=u _ (qp8 (d j b hb)) _ (qp8 (d i a k));simp only [Bool.or_eq_true] at this;rcases this with (h | h) | h
    · have r : Nat.blt i j = true:=by rw [Nat.blt_eq];exact c
      grind
    · grind
    · right;simp only [Bool.and_eq_true,Bool.not_eq_true'] at h;obtain ⟨⟨⟨hp1,hp2⟩,h⟩,n⟩:=h;simp only [qi6,Bool.and_eq_true,List.all_eq_true,Bool.not_eq_true'] at h;obtain ⟨⟨p,s⟩,g⟩:=h;refine ⟨⟨hp1,hp2⟩,qpf n,fun t f hd=>?_,fun t f hd=>?_,fun t f hd=>?_⟩
      · have:=p t f;rw [qf8.2 hd] at this;cases this
      · have:=s t f;rw [qf8.2 hd] at this;cases this
      · rw [f] at g;simp only at g;rw [qf8.2 hd] at g;simp at g
  refine ⟨fun j o l e m hb=>?_,fun i j a b c k hb=>(main i j a b c k hb).imp id And.right,fun i j a b c k hb hp=>?_⟩
  · have:=qjg _ 0 q j o (d j o l) e m hb;omega
  grind
end
end Go.Am
namespace Go.Am
open Go
variable {P : Program}
section
variable {base : Nat} {ops : Array Oper}
theorem qfl {l : Array Bool} {i : Nat} : l.getD i false = true↔l[i]? = some true:=by
  rw [Array.getD_eq_getD_getElem?];cases l[i]? <;> simp
theorem qce {l : Array Bool} {i : Nat} : l.getD i true = false↔l[i]? = some false:=by
  rw [Array.getD_eq_getD_getElem?];cases l[i]? <;> simp
theorem qx6 {w : World} {Z : Nat→Prop} {inj : Inj} {hp hp2 : List (Nat × Blk)} {nx : Nat} (h : RelH w Z inj hp nx) (hs : ∀ m,find hp2 m = find hp m) : RelH w Z inj hp2 nx:=by
  refine ⟨fun n b hb=>h.blk n b (by rw [← hs];exact hb),fun n m b c p q a d=>h.sep n m b c p q (by rw [← hs];exact a) (by rw [← hs];exact d),fun n b p a=>h.out n b p (by rw [← hs];exact a),h.zs,h.zc⟩
theorem qrt {w w' : World} {Z Z' : Nat→Prop} {inj inj' : Inj} {hp hp' hp2 : List (Nat × Blk)} {pin : Nat} (h : Ext w Z inj hp w' Z' inj' hp' pin) (hs : ∀ m,find hp2 m = find hp' m) : Ext w Z inj hp w' Z' inj' hp2 pin:=
  {h with imm:=fun b hb=>h.imm b (by
      obtain ⟨n,c,o,a,d,f⟩:=hb
      exact ⟨n,c,o,by rw [← hs];exact a,d,f⟩)}
abbrev fpO (F : List Fp) (ops : Array Oper) (i : Nat) : Fp:=fpAt F (ops.size - (i + 1))
def CutS (ops : Array Oper) (listed : Array Bool) (t : Tmp) (m : Nat) : Prop:=∀ (i : Nat) (o : Oper),ops[i]? = some o→o.dst = some t→(listed[i]? = some true↔i < m)
def CutB (F : List Fp) (ops : Array Oper) (listed : Array Bool) (q m : Nat) : Prop:=∀ (i : Nat) (o : Oper),ops[i]? = some o→q∈(fpO F ops i).2→(listed[i]? = some true↔i < m)
structure Mid (F : List Fp) (ops : Array Oper) (S : Nat→AS) (lo hi : Nat) (listed : Array Bool) (st : AS) : Prop where
  nx : st.nx = (S hi).nx
  sl : ∀ t m,lo≤m→m≤hi→CutS ops listed t m→st.get t = (S m).get t
  hp : ∀ q m,lo≤m→m≤hi→CutB F ops listed q m→find st.hp q = find (S m).hp q
abbrev Steps (P : Program) (F : List Fp) (ops : Array Oper) (S : Nat→AS) (lo hi : Nat) : Prop:=∀ (i : Nat) (o : Oper),lo≤i→i < hi→ops[i]? = some o→Js P ops o (fpO F ops i) (S i) (S (i + 1))
theorem qel {F : List Fp} {S : Nat→AS} {lo hi : Nat} (a : hi≤ops.size) (c : Steps P F ops S lo hi) {t : Tmp} {j : Nat} (b : lo≤j) : ∀ m,j≤m→m≤hi→(∀ (i : Nat) (o : Oper),j≤i→i < m→ops[i]? = some o→o.dst≠some t)→(S m).get t = (S j).get t
  | 0,h,_,_=>by have : j = 0:=q6;subst this;rfl
  | m + 1,h,hm,hno=>by
    by_cases f : j = m + 1
    · subst f;rfl
    · obtain ⟨o,d⟩:=Yd (xs:=ops) (i:=m) q6
      rw [(c m o q6 q6 d).sl t (hno m o q6 q6 d)]
      exact qel a c b m q6 q6 fun i o g k=>hno i o g q6
theorem qek {F : List Fp} {S : Nat→AS} {lo hi : Nat} (a : hi≤ops.size) (c : Steps P F ops S lo hi) {q j : Nat} (b : lo≤j) : ∀ m,j≤m→m≤hi→(∀ (i : Nat) (o : Oper),j≤i→i < m→ops[i]? = some o→q ∉ (fpO F ops i).2)→find (S m).hp q = find (S j).hp q
  | 0,h,_,_=>by have : j = 0:=q6;subst this;rfl
  | m + 1,h,hm,hno=>by
    by_cases f : j = m + 1
    · subst f;rfl
    · obtain ⟨o,d⟩:=Yd (xs:=ops) (i:=m) q6
      rw [(c m o q6 q6 d).hp q (hno m o q6 q6 d)]
      exact qek a c b m q6 q6 fun i o g k=>hno i o g q6
theorem q1r {F : List Fp} {S : Nat→AS} {lo hi : Nat} (a : hi≤ops.size) (c : Steps P F ops S lo hi) {j : Nat} (b : lo≤j) : ∀ m,j≤m→m≤hi→(S j).nx≤(S m).nx
  | 0,h,_=>by have : j = 0:=q6;subst this;exact Nat.le_refl _
  | m + 1,h,hm=>by
    by_cases d : j = m + 1
    · subst d;exact Nat.le_refl _
    · obtain ⟨o,f⟩:=Yd (xs:=ops) (i:=m) q6
      exact Nat.le_trans (q1r a c b m q6 q6) (c m o q6 q6 f).nx
theorem ql1 {F : List Fp} {S : Nat→AS} {lo hi : Nat} (a : hi≤ops.size) (c : Steps P F ops S lo hi) (b : ∀ q,(S lo).nx≤q→find (S lo).hp q = none) : ∀ m,lo≤m→m≤hi→∀ q,(S m).nx≤q→find (S m).hp q = none
  | 0,hl,_,q,hq=>by have : lo = 0:=q6;subst this;exact b q hq
  | m + 1,hl,hm,q,hq=>by
    by_cases d : lo = m + 1
    · subst d;exact b q hq
    obtain ⟨o,f⟩:=Yd (xs:=ops) (i:=m) q6
    have hs:=c m o q6 q6 f
    exact hs.keys q hq (ql1 a c b m q6 q6 q (Nat.le_trans hs.nx hq))
def Keep (ops : Array Oper) (S : Nat→AS) (lo hi : Nat) (base : Nat) (w0 : World) (Z0 : Nat→Prop) (inj0 : Inj) (hp0 : List (Nat × Blk)) (a0 : Act) (Ds0 : List Nat) (listed : Array Bool) (st : AS) (a : Act) (w : World) : Prop:=
  ∃ Z inj Ds,RelS w Z inj st a Ds∧Ext w0 Z0 inj0 hp0 w Z inj st.hp base∧a.tmps.size = a0.tmps.size∧(∀ D∈Ds,D∈Ds0∨w0.heap.size≤D)∧
    ∀ (i : Nat) (o : Oper),lo≤i→i < hi→ops[i]? = some o→listed[i]?≠some true→∀ m,(S i).nx≤m→m < (S (i + 1)).nx→inj m = none
theorem qj9 {l : Array Bool} {i : Nat} {n : Nat} (hi : l[i]? = some false) (b : l.toList.count false = n + 1) : (l.setIfInBounds i true).toList.count false = n:=by
  have a : i < l.toList.length:=by simpa using Zl hi
  rw [Array.toList_setIfInBounds,List.count_set a]
  have : l.toList[i] = false:=by
    have:=hi;rw [← Array.getElem?_toList,List.getElem?_eq_getElem a] at this;simpa using this
  simp [this,b]
theorem qmo {F : List Fp} (m : q8d F ops) {listed : Array Bool} (f : listed.size = ops.size) : ∀ (n i : Nat),i = n→listed[i]? = some false→Region.ready .any ops listed≠[]:=by
  intro n
  induction n using Nat.strongRecOn with
  | _ n ihn=>
    intro i h hi;subst h;obtain ⟨o,k⟩:=Yd (xs:=ops) (i:=i) (by rw [← f];exact Zl hi);by_cases a : ∀ e∈o.after,Region.binds .any e = true→listed.getD e.on false = true
    · intro d;have : i∈Region.ready .any ops listed:=mem_ready.2 ⟨qce.2 hi,o,k,a⟩;rw [d] at this;cases this
    · simp only [Classical.not_forall] at a;obtain ⟨e,l,hb,j⟩:=a;have g:=m.edges i o k e l hb;obtain ⟨b,c⟩:=Yd (xs:=listed) (i:=e.on) (by have:=Zl hi;omega)
      cases b with
      | true=>exact absurd (qfl.2 c) j
      | false=>exact ihn e.on g e.on rfl c
theorem qi1 {listed : Array Bool} {i : Nat} {o : Oper} (f : Adm ops (fun i=>listed[i]? = some true)) (m : ops[i]? = some o) (l : listed[i]? = some false) (b : ∀ e∈o.after,Region.binds .any e = true→listed[e.on]? = some true) :
    (∀ (j : Nat),(listed.setIfInBounds i true)[j]? = some true↔(j = i∨listed[j]? = some true))∧Adm ops (fun j=>(listed.setIfInBounds i true)[j]? = some true):=by
  have a : ∀ (j : Nat),(listed.setIfInBounds i true)[j]? = some true↔(j = i∨listed[j]? = some true):=by
    intro j;by_cases d : j = i
    · subst d;simp [Zl l]
    · rw [Array.getElem?_setIfInBounds_ne (Ne.symm d)];simp [d]
  refine ⟨a,?_⟩;intro j k g c e h hb;rw [a] at g ⊢;rcases g with rfl | g
  · rw [m] at c;cases c;exact .inr (b e h hb)
  · exact .inr (f j k g c e h hb)
theorem qrf {F : List Fp} {S : Nat→AS} {lo hi : Nat} (bf : lo≤hi) (aa : hi≤ops.size) (hD : q8d F ops) (hS : Steps P F ops S lo hi) (bc : ∀ (i j : Nat) (d : Oper),i < hi→hi≤j→ops[j]? = some d→Behind ops d i) (h0 : ∀ q,(S lo).nx≤q→find (S lo).hp q = none)
    {w0 : World} {Z0 : Nat→Prop} {inj0 : Inj} {hp0 : List (Nat × Blk)} {a0 : Act} {Ds0 : List Nat} {ro : Option Nat} {Q : Exit→Act→World→Prop} (bu : base≤(S lo).nx)
    (hd : ∀ (i : Nat) (o : Oper),ops[i]? = some o→J9 a0.tmps.size o.dst = true)
    (hQ : ∀ (fuel : Nat) (listed : Array Bool) (a' : Act) (w' : World),listed.size = ops.size→listed.toList.count false = fuel→Adm ops (fun i=>listed[i]? = some true)→(∀ (i : Nat),listed[i]? = some true↔i < hi)→
      (∃ Z inj Ds,RelS w' Z inj (S hi) a' Ds∧Ext w0 Z0 inj0 hp0 w' Z inj (S hi).hp base∧a'.tmps.size = a0.tmps.size∧base≤(S hi).nx∧(∀ D∈Ds,D∈Ds0∨w0.heap.size≤D))→Yl ro w'→wpAnyIn (Fw ro) 0 P .any ops Q fuel listed a' w') : ∀ (fuel : Nat) (listed : Array Bool) (a : Act) (w : World) (st : AS),
      listed.size = ops.size→listed.toList.count false = fuel→Adm ops (fun i=>listed[i]? = some true)→(∀ (i : Nat),i < lo→listed[i]? = some true)→(∀ (i : Nat),hi≤i→listed[i]?≠some true)→Keep ops S lo hi base w0 Z0 inj0 hp0 a0 Ds0 listed st a w→Yl ro w→Mid F ops S lo hi listed st→
      wpAnyIn (Fw ro) 0 P .any ops Q fuel listed a w:=by
  have fin : ∀ (fuel : Nat) (listed : Array Bool) (a : Act) (w : World) (st : AS),
      listed.size = ops.size→listed.toList.count false = fuel→Adm ops (fun i=>listed[i]? = some true)→(∀ (i : Nat),i < lo→listed[i]? = some true)→(∀ (i : Nat),hi≤i→listed[i]?≠some true)→Keep ops S lo hi base w0 Z0 inj0 hp0 a0 Ds0 listed st a w→Yl ro w→Mid F ops S lo hi listed st→
      (∀ (i : Nat),lo≤i→i < hi→listed[i]? = some true)→wpAnyIn (Fw ro) 0 P .any ops Q fuel listed a w:=by
    intro fuel listed a w st ag hc n x aj hp ah g ab
    have aq : ∀ (i : Nat),listed[i]? = some true↔i < hi:=fun i=>⟨fun h=>by
      rcases Nat.lt_or_ge i hi with z | z
      · exact z
      · exact absurd h (aj i z),fun h=>by
      rcases Nat.lt_or_ge i lo with z | z
      · exact x i z
      · exact ab i z h⟩
    refine hQ fuel listed a w ag hc n aq ?_ ah
    obtain ⟨Z,inj,Ds,z,h2,h3,h4,_⟩:=hp
    have bp : ∀ q,find (S hi).hp q = find st.hp q:=fun q=>(g.hp q hi bf (Nat.le_refl _) fun i o ho _=>aq i).symm
    refine ⟨Z,inj,Ds,⟨fun t v ht=>?_,?_,z.defs,z.nodup,z.marks⟩,qrt h2 bp,h3,Nat.le_trans bu (q1r aa hS (Nat.le_refl _) _ bf (Nat.le_refl _)),h4⟩
    · rw [← g.nx]
      refine z.slots t v ?_
      have:=g.sl t hi bf (Nat.le_refl _) fun i o ho _=>aq i
      exact this.trans ht
    · rw [← g.nx];exact qx6 z.heap bp
  intro fuel
  induction fuel with
  | zero=>
    intro listed a w st ag hc n x aj hp ah g;refine fin 0 listed a w st ag hc n x aj hp ah g fun i _ hi=>?_;have h:=List.count_eq_zero.1 hc;obtain ⟨b,hb⟩:=Yd (xs:=listed) (i:=i) q6
    cases b with
    | true=>exact hb
    | false=>exact absurd (by simpa using Array.mem_of_getElem? hb) h
  | succ fuel ih=>
    intro listed a w st ag hc n x aj hp ah g;by_cases ab : ∀ (i : Nat),lo≤i→i < hi→listed[i]? = some true
    · exact fin _ listed a w st ag hc n x aj hp ah g ab
    have bi : ∃ k : Nat,(lo≤k∧k < hi)∧listed[k]? = some false:=by
      simp only [Classical.not_forall] at ab;obtain ⟨k,z,h2,h3⟩:=ab;obtain ⟨b,hb⟩:=Yd (xs:=listed) (i:=k) q6
      cases b with
      | true=>exact absurd hb h3
      | false=>exact ⟨k,⟨z,h2⟩,hb⟩
    obtain ⟨k0,⟨da,cm⟩,bo⟩:=bi;refine ⟨fun bz=>?_,fun i cp=>?_⟩
    · exact absurd bz (qmo hD ag k0 k0 rfl bo)
    · obtain ⟨z,o,ho,bd⟩:=mem_ready.1 cp;rw [qce] at z;have ao : ∀ e∈o.after,Region.binds .any e = true→(fun i=>listed[i]? = some true) e.on:=fun e he hb=>qfl.1 (bd e he hb);have ay : ∀ j,Behind ops o j→listed[j]? = some true:=fun j hb=>hb _ n ao;have y : lo≤i:=Nat.le_of_not_lt fun h=>by have:=x i h;rw [z] at this;cases this
      have ax : i < hi:=Nat.lt_of_not_le fun h=>by
        have:=ay k0 (bc k0 i o cm h ho);rw [bo] at this;cases this
      have av : ∀ (j : Nat) (d : Oper),ops[j]? = some d→Behind ops d i→listed[j]?≠some true:=by
        intro j d c hb hj;have:=hb (fun i=>listed[i]? = some true) n (fun e he cq=>n j d hj c e he cq);rw [z] at this;cases this
      obtain ⟨l,bh⟩:=qi1 n ho z ao;have bt : (listed.setIfInBounds i true).size = ops.size:=by simp [ag]
      have co:=qj9 z hc;have dm : i < ops.size:=Zl ho;have ba : listed[i]?≠some true:=by rw [z];simp
      have u : ∀ (j : Nat) (d : Oper),ops[j]? = some d→j≠i→(listed[j]? = some true↔j < i)∨(q8c (fpO F ops i) (fpO F ops j)∧(∀ t∈reads ops o,d.dst≠some t)∧∀ t,o.dst = some t→d.dst≠some t):=by
        intro j d c f;rcases Nat.lt_or_gt_of_ne f with h | h
        · rcases hD.pairs j i d o h c ho with hb | ⟨ha,h2,h3,h4⟩
          · exact .inl ⟨fun _=>h,fun _=>ay j hb⟩
          · exact .inr ⟨⟨fun m h5 h6=>ha.ww m h6 h5,ha.wr,ha.rw⟩,h3,fun t h5 h6=>h4 t h6 h5⟩
        · rcases hD.pairs i j o d h ho c with hb | ⟨ha,h2,h3,h4⟩
          · exact .inl ⟨fun p=>absurd p (av j d c hb),fun p=>q6⟩
          · exact .inr ⟨ha,h2,h4⟩
      have al : ∀ m∈(fpO F ops i).2,find st.hp m = find (S i).hp m:=fun m hm=>by
        refine g.hp m i y q6 fun j d c ac=>?_;by_cases f : j = i
        · subst f;exact ⟨fun p=>absurd p ba,fun p=>absurd p (Nat.lt_irrefl _)⟩
        · rcases u j d c f with h | ⟨ha,_⟩
          · exact h
          · exact absurd ac (ha.ww m hm)
      have cd : Up ops o (fpO F ops i) (S i) st:=by
        refine ⟨⟨al,?_⟩,fun t ht=>?_⟩
        · have key : ∀ m,(∀ (j : Nat) (d : Oper),ops[j]? = some d→j≠i→q8c (fpO F ops i) (fpO F ops j)→m ∉ (fpO F ops j).2)→find st.hp m = find (S i).hp m:=fun m hm=>by
            by_cases bw : m∈(fpO F ops i).2
            · exact al m bw
            refine g.hp m i y q6 fun j d c ac=>?_;by_cases f : j = i
            · subst f;exact absurd ac bw
            · rcases u j d c f with h | ⟨ha,_⟩
              · exact h
              · exact absurd ac (hm j d c f ha)
          cases hR : (fpO F ops i).1 with
          | none=>exact fun m=>key m fun j d _ _ ha ac=>by have:=ha.rw m ac;rw [hR] at this;exact this
          | some r=>exact fun m cc=>key m fun j d _ _ ha ac=>by have:=ha.rw m ac;rw [hR] at this;exact this cc
        · refine g.sl t i y q6 fun j d c ad=>?_;by_cases f : j = i
          · subst f;exact ⟨fun p=>absurd p ba,fun p=>absurd p (Nat.lt_irrefl _)⟩
          · rcases u j d c f with h | ⟨_,hr,_⟩
            · exact h
            · exact absurd ad (hr t ht)
      have af:=hS i o y ax ho;have az : (S (i + 1)).nx≤st.nx:=by rw [g.nx];exact q1r aa hS q6 _ q6 (Nat.le_refl _)
      have bb : ∀ m,(S i).nx≤m→m < (S (i + 1)).nx→find st.hp m = none:=fun m h2 h3=>by
        rw [al m (af.fresh m h2 h3)];exact ql1 aa hS h0 i y q6 m h2
      obtain ⟨cr,bv,bj,ce,cf,cn,cb⟩:=af.other st az cd bb;refine qhc ho ?_;obtain ⟨Z,inj,Ds,k1,k2,k3,k4,k5⟩:=hp;have cs : base≤(S i).nx:=Nat.le_trans bu (q1r aa hS (Nat.le_refl _) _ y q6);refine bj base ro Q w Z inj a Ds _ k1 (by rw [k3];exact hd i o ho) cs (by have:=af.nx;omega) ah (k5 i o y ax ho ba) fun a' w' hp'=>?_;obtain ⟨Z',inj',ck,g1,g2,g3,g4,g5⟩:=hp';refine ih _ a' w' cr bt co bh (fun j hj=>(l j).2 (.inr (x j hj))) (fun j hj p=>?_) ⟨Z',inj',ck,g1,k2.trans g2 (Nat.le_refl _),g3.trans k3,fun D hD=>?_,fun j d bk an c bl m h2 h3=>?_⟩ (ah.ext g2) ⟨bv.trans g.nx,fun t m be hm s=>?_,fun q m be hm s=>?_⟩
      · rcases (l j).1 p with rfl | p
        · omega
        · exact aj j hj p
      · rcases g4 D hD with h | h
        · exact k4 D h
        · exact .inr (Nat.le_trans k2.size h)
      · have f : j≠i:=by rintro rfl;exact bl ((l j).2 (.inl rfl))
        have bq : listed[j]?≠some true:=fun e=>bl ((l j).2 (.inr e))
        rw [g5 m (by
          have:=q1r aa hS (j:=j + 1) q6 hi q6 (Nat.le_refl _)
          have:=g.nx;omega) (by
          rcases Nat.lt_or_gt_of_ne f with h | h
          · left;have:=q1r aa hS (j:=j + 1) q6 i q6 q6;omega
          · right;have:=q1r aa hS (j:=i + 1) q6 j q6 q6;omega)]
        exact k5 j d bk an c bq m h2 h3
      · by_cases ap : o.dst = some t
        · have cg : i < m:=(s i o ho ap).1 ((l i).2 (.inl rfl));rw [cf t ap];refine (qel aa hS q6 m q6 hm fun j d bk an c ad=>?_).symm;have p:=(l j).1 ((s j d c ad).2 an);rcases p with p | p
          · omega
          · rcases u j d c q6 with h | ⟨_,_,hw⟩
            · have:=h.1 p;omega
            · exact hw t ap ad
        · rw [ce t ap];refine g.sl t m be hm fun j d c ad=>?_;have f : j≠i:=by rintro rfl;rw [ho] at c;cases c;exact ap ad
          rw [← s j d c ad,l];simp [f]
      · by_cases hq : q∈(fpO F ops i).2
        · have cg : i < m:=(s i o ho hq).1 ((l i).2 (.inl rfl));rw [cn q hq];refine (qek aa hS q6 m q6 hm fun j d bk an c ak=>?_).symm;have p:=(l j).1 ((s j d c ak).2 an);rcases p with p | p
          · omega
          · rcases u j d c q6 with h | ⟨ha,_⟩
            · have:=h.1 p;omega
            · exact ha.ww q hq ak
        · rw [cb q hq];refine g.hp q m be hm fun j d c ak=>?_;have f : j≠i:=by rintro rfl;exact hq ak
          rw [← s j d c ak,l];simp [f]
theorem qx8 {w : World} {Z : Nat→Prop} {inj : Inj} {st : AS} {a : Act} {Ds : List Nat} {N : Nat} (h : RelS w Z inj st a Ds) (l : st.nx≤N) : RelS w Z (fun m=>if m < st.nx then inj m else none) {st with nx:=N} a Ds:=by
  have hi : ∀ n,n < st.nx→(fun m=>if m < st.nx then inj m else none) n = inj n:=fun n u=>by simp [u]
  have g : Zx w w:=fun _ c e f h=>⟨c,e,f,h,rfl⟩
  refine ⟨h.slots.mono (fun _ _=>rfl) (fun _ h=>h) g hi l,⟨fun n b hb=>?_,fun n m b c p q d j k t s o=>?_,fun n b p d j k=>?_,h.heap.zs,h.heap.zc⟩,h.defs,h.nodup,h.marks⟩
  · obtain ⟨r,v⟩:=h.heap.blk n b hb;exact ⟨Nat.lt_of_lt_of_le r l,v.mono (fun _ _=>rfl) (fun _ h=>h) g hi l r (fun _ _ _=>rfl)⟩
  · rw [qr (h.heap.blk n b d).1] at s;rw [qr (h.heap.blk m c j).1] at o;exact h.heap.sep n m b c p q d j k t s o
  · rw [qr (h.heap.blk n b d).1] at k;exact h.heap.out n b p d j k
theorem qqp {w0 : World} {Z0 : Nat→Prop} {inj0 : Inj} {c : AS} {g : Act} {Ds0 : List Nat} {l : List Oper} {st st' : AS} (h : Zo P base ops l st st') : l = []→∀ a w,Kw base w0 Z0 inj0 c g Ds0 st a w→Kw base w0 Z0 inj0 c g Ds0 st' a w:=by
  induction h with
  | nil=>exact fun _ a w hp=>hp
  | cons _ _ _=>intro h;cases h
  | wk hw _ ih=>
    intro k a w hp;refine ih k a w ?_;obtain ⟨Z',inj',f,j,m,o,p,n⟩:=hp;obtain ⟨b,d⟩:=q27 j hw;exact ⟨_,_,f,b,m.trans d (Nat.le_refl _),o,hw.bs,n⟩
theorem qqo {w0 : World} {Z0 : Nat→Prop} {inj0 : Inj} {m : AS} {p : Act} {Ds0 : List Nat} {ro : Option Nat} {Q : Exit→Act→World→Prop} {K : Act→World→Prop} {l : List Oper} {st st' : AS} (h : Zo P base ops l st st') : ∀ o,l = [o]→J9 p.tmps.size o.dst = true→∀ a w,Kw base w0 Z0 inj0 m p Ds0 st a w→Yl ro w→
    (∀ a' w',Kw base w0 Z0 inj0 m p Ds0 st' a' w'→Yl ro w'→K a' w')→Uo P (Fw ro) ops Q o K a w:=by
  induction h with
  | nil=>intro o h;cases h
  | cons hs hl _=>
    intro o h hd a w hp c n;simp only [List.cons.injEq] at h;obtain ⟨rfl,rfl⟩:=h;refine hp.bind fun Z' inj' f b g d _ j=>?_;exact hs ro Q w Z' inj' a f _ b (by rw [g];exact hd) d c fun a' w' hp'=>n a' w' (qqp hl rfl _ _ (j _ _ _ hp')) (by obtain ⟨_,_,_,_,s,_⟩:=hp';exact c.ext s)
  | wk hw _ ih=>
    intro o h hd a w hp c n;refine ih o h hd a w ?_ c n;obtain ⟨Z',inj',f,q,r,u,v,t⟩:=hp;obtain ⟨b,k⟩:=q27 q hw;exact ⟨_,_,f,b,r.trans k (Nat.le_refl _),u,hw.bs,t⟩
theorem qpt {o p : Oper} {i j : Nat} (c : Behind ops o i) (hp : ops[i]? = some p) (d : Behind ops p j) : Behind ops o j:=fun S a b=>d S a fun e f hb=>a i p (c S a b) hp e f hb
theorem qre {F : List Fp} (hD : q8d F ops) {w0 : World} {Z0 : Nat→Prop} {inj0 : Inj} {aa : AS} {a0 : Act} {Ds0 : List Nat} {ro : Option Nat} {Q : Exit→Act→World→Prop} (hd : ∀ (i : Nat) (o : Oper),ops[i]? = some o→J9 a0.tmps.size o.dst = true) :
    ∀ (n : Nat) (l : List Oper) (lo : Nat) (st st' : AS),l.length = n→ops.toList.drop lo = l→lo≤ops.size→Jp P base ops F l st st'→(∀ a' w',Kw base w0 Z0 inj0 aa a0 Ds0 st' a' w'→Q .normal a' w')→∀ (fuel : Nat) (listed : Array Bool) (a : Act) (w : World),
      listed.size = ops.size→listed.toList.count false = fuel→Adm ops (fun i=>listed[i]? = some true)→(∀ (i : Nat),listed[i]? = some true↔i < lo)→Kw base w0 Z0 inj0 aa a0 Ds0 st a w→Yl ro w→wpAnyIn (Fw ro) 0 P .any ops Q fuel listed a w:=by
  intro n
  induction n using Nat.strongRecOn with
  | _ n ihn=>
  intro l lo st st' ct aq cb hc hQ fuel listed a w bk br ba ak hp bm;obtain ⟨k,S,hk,e0,hS,ah⟩:=qir hc;have bu : l.length + lo = ops.size:=by rw [← aq];simp;omega
  have z : ∀ (i : Nat),l[i]? = ops[lo + i]?:=fun i=>by rw [← aq,List.getElem?_drop,Array.getElem?_toList]
  subst e0
  have y : Steps P F ops (fun i=>S (i - lo)) lo (lo + k):=fun i o u h2 ho=>by
    have:=hS (i - lo) o q6 (by rw [z,show lo + (i - lo) = i by omega];exact ho);rw [show l.length - (i - lo + 1) = ops.size - (i + 1) by omega] at this;show Js P ops o (fpO F ops i) (S (i - lo)) (S (i + 1 - lo));rw [show i + 1 - lo = i - lo + 1 by omega];exact this
  have am : ∀ (i j : Nat) (oj : Oper),i < lo + k→lo + k≤j→ops[j]? = some oj→Behind ops oj i:=fun i j oj hi hj ag=>by
    rcases ah with ⟨u,_⟩ | ⟨o,st1,u,h2,_,_⟩
    · have:=Zl ag;omega
    · rw [z] at u;rw [show l.length - (k + 1) = ops.size - (lo + k + 1) by omega] at h2;have bl : i < ops.size:=by have:=Zl u;omega
      obtain ⟨oi,ab⟩:=Yd (xs:=ops) (i:=i) bl;have hb:=hD.pivs i (lo + k) oi o hi ab u (.inr h2);by_cases bn : j = lo + k
      · subst bn;rw [u] at ag;cases ag;exact hb
      · exact qpt (hD.pivs (lo + k) j o oj q6 u ag (.inl h2)) u hb
  obtain ⟨Z,inj,Ds,u,h2,h3,h4,h5⟩:=hp
  have hN : (S 0).nx≤(S k).nx:=by
    have:=q1r q6 y (Nat.le_refl _) (lo + k) q6 (Nat.le_refl _);simpa using this
  have h0 : ∀ q,(S 0).nx≤q→find (S 0).hp q = none:=fun q hq=>by
    cases hf : find (S 0).hp q with
    | none=>rfl
    | some b=>have:=(u.heap.blk q b hf).1;omega
  have ax : Ext w0 Z0 inj0 aa.hp w Z (fun m=>if m < (S 0).nx then inj m else none) (S 0).hp base:=by
    refine {h2 with imm:=fun b bo=>h2.imm b ?_,pinj:=fun n hn=>(qr (show n < (S 0).nx by omega)).trans (h2.pinj n hn)};obtain ⟨n,c,o,s,g2,g3⟩:=bo;refine ⟨n,c,o,s,g2,?_⟩;have:=(u.heap.blk n c s).1;simpa [this] using g3
  have al : ∀ (i : Nat),lo≤i→listed[i]?≠some true:=fun i hi h=>by have:=(ak i).1 h;omega
  refine qrf (lo:=lo) (hi:=lo + k) (S:=fun i=>S (i - lo)) (hp0:=aa.hp) (Ds0:=Ds0) q6 q6 hD y am (by simpa using h0) (by simpa using h4) hd ?_ fuel listed a w {S 0 with nx:=(S k).nx} bk br ba (fun i hi=>(ak i).2 hi) (fun i hi=>al i q6) ⟨Z,_,Ds,qx8 u hN,ax,h3,h5,fun i o x ap ho _ m g2 g3=>?_⟩ bm ⟨qe,fun t m ao hm v=>?_,fun q m ao hm v=>?_⟩
  · intro r d a' w' ac af ad f hp' az
    have hp' : Kw base w0 Z0 inj0 aa a0 Ds0 (S k) a' w':=by
      obtain ⟨Z',inj',bj,s,g2,g3,g4,g5⟩:=hp';simp only [Nat.add_sub_cancel_left] at s g2 g4;exact ⟨Z',inj',bj,s,g2,g3,g4,g5⟩
    rcases ah with ⟨e1,e2⟩ | ⟨o,st1,e1,e2,e3,e4⟩
    ·
      subst e2
      have hz : r = 0:=by
        rw [← af,List.count_eq_zero];intro hm;obtain ⟨i,hi⟩:=List.getElem?_of_mem hm;have ap : d[i]? = some false:=by simpa using hi
        have:=(f i).2 (by have:=Zl ap;omega);rw [ap] at this;cases this
      subst hz;refine ⟨?_,hQ _ _ hp'⟩;rw [List.eq_nil_iff_forall_not_mem];intro j hj;obtain ⟨s,o,ho,_⟩:=mem_ready.1 hj;rw [qce,(f j).2 (by have:=Zl ho;omega)] at s;cases s
    ·
      have p : ops[lo + k]? = some o:=by rw [← z];exact e1
      rw [show l.length - (k + 1) = ops.size - (lo + k + 1) by omega] at e2
      have g : d[lo + k]? = some false:=by
        obtain ⟨b,hb⟩:=Yd (xs:=d) (i:=lo + k) (by rw [ac];exact Zl p)
        cases b with
        | true=>have:=(f _).1 hb;omega
        | false=>exact hb
      cases r with
      | zero=>
        have:=List.count_eq_zero.1 af;exact absurd (by simpa using Array.mem_of_getElem? g) this
      | succ r=>
        refine ⟨fun bc=>absurd bc (qmo hD ac _ _ rfl g),fun i hi=>?_⟩;obtain ⟨s,oi,ab,au⟩:=mem_ready.1 hi;rw [qce] at s;have ae : ∀ e∈oi.after,Region.binds .any e = true→d[e.on]? = some true:=fun e he hb=>qfl.1 (au e he hb)
        have bi : i = lo + k:=by
          rcases Nat.lt_trichotomy i (lo + k) with h | h | h
          · have:=(f i).2 h;rw [s] at this;cases this
          · exact h
          · have:=hD.pivs (lo + k) i o oi h p ab (.inl e2) _ ad ae;rw [g] at this;cases this
        subst bi;rw [p] at ab;cases ab;obtain ⟨bb,an⟩:=qi1 ad p s ae;refine qhc p ?_;refine qqo e3 o rfl (hd _ _ p) a' w' hp' az fun a2 w2 hp2 aw=>?_;refine ihn (l.drop (k + 1)).length (by have:=Zl p;simp;omega) _ (lo + k + 1) st1 st' rfl (by rw [← aq,List.drop_drop,Nat.add_assoc]) (Zl p) e4 hQ _ _ a2 w2 (by simp [ac]) (qj9 s af) an (fun j=>?_) hp2 aw;rw [bb,f];omega
  · have this : (S 0).nx≤(S (i - lo)).nx:=by simpa using q1r q6 y (Nat.le_refl lo) i x q6
    have ce : (S (i - lo)).nx≤m:=g2;exact qp q6
  · have:=qel q6 y (t:=t) (Nat.le_refl lo) m ao hm fun i o x hi ho bp=>al i x ((v i o ho bp).2 hi);simp at this ⊢;exact this.symm
  · have:=qek q6 y (q:=q) (Nat.le_refl lo) m ao hm fun i o x hi ho bq=>al i x ((v i o ho bq).2 hi);simp at this ⊢;exact this.symm
theorem qx1 {F : List Fp} {id : Nat} {w : World} {Z : Nat→Prop} {inj : Inj} {st st' : AS} {a : Act} {Ds : List Nat} {ro : Option Nat} {Q : Exit→Act→World→Prop} (u : P.follows .mixedOrders = true) (p : q8d F ops) (q : Jp P base ops F ops.toList st st')
    (h : RelS w Z inj st a Ds) (g : codeOk a.tmps.size (.region id ops true) = true) (hb : base≤st.nx) (m : Yl ro w) (s : ∀ a' w',Kw base w Z inj st a Ds st' a' w'→Q .normal a' w') : (Code.region id ops true).wpIn (Fw ro) 0 P Q a w:=by
  refine wpIn_region_any u ?_;have hs : RelS {w with drawn:=w.drawn + 1} Z inj st a Ds:=⟨h.slots.mono (fun _ _=>rfl) (fun _ h=>h) (fun b c e f hb=>⟨c,e,f,hb,rfl⟩) (fun _ _=>rfl) (Nat.le_refl _),h.heap.same rfl,h.defs,h.nodup,h.marks⟩
  have d : ∀ (i : Nat) (o : Oper),ops[i]? = some o→J9 a.tmps.size o.dst = true:=by
    intro i o r;simp only [codeOk,List.all_eq_true] at g;exact g o (by simpa using Array.mem_of_getElem? r)
  have k : ∀ (i : Nat),(Array.replicate ops.size false)[i]?≠some true:=by
    intro i hi;rw [Array.getElem?_replicate] at hi;split at hi <;> simp at hi
  exact qre p d ops.toList.length ops.toList 0 st st' rfl qe (Nat.zero_le _) q s ops.size _ a _ qe qe (fun j o t _=>absurd t (k j)) (fun i=>⟨fun hi=>absurd hi (k i),fun hi=>q6⟩) ⟨Z,inj,Ds,hs,.same rfl rfl rfl rfl,rfl,hb,fun _ h=>.inl h⟩ (fun l n=>m l n)
end
end Go.Am
namespace Go.Am
open Go
variable {P : Program} {T : Tab}
section
variable {w w' : World} {Z Z' : Nat→Prop} {inj inj' : Inj} {hp hp' : List (Nat × Blk)} {nx nx' pin : Nat}
theorem RelH.grow (h : RelH w Z inj hp nx) (d : ∀ b,b < w.heap.size→w'.heap[b]? = w.heap[b]?) : RelH w' Z inj hp nx:=by
  have hb : Zx w w':=fun b c e f l=>⟨c,e,f,(d b (J8 l)).trans l,rfl⟩
  refine ⟨fun n b k=>?_,h.sep,h.out,?_,?_⟩
  · obtain ⟨j,o⟩:=h.blk n b k;exact ⟨j,o.mono (fun b a=>d b (h.zs b a)) (fun _ h=>h) hb (fun _ _=>rfl) (Nat.le_refl _) j fun p hp m=>d _ (h.im_lt ⟨n,b,p.2,k,m,hp⟩)⟩
  · intro b a;obtain ⟨c,e,f,g⟩:=h.zc b a;have:=d b (h.zs b a);exact J8 (this.trans g)
  · intro b a;obtain ⟨c,e,f,g⟩:=h.zc b a;exact ⟨c,e,f,(d b (h.zs b a)).trans g⟩
theorem Ext.alloc (o : Obj) (a : Unfr o:=by first | exact rfl | exact trivial) : Ext w Z inj hp (w.alloc o) Z inj hp pin:=
  ⟨qe,fun b hb _=>Zy w o hb,fun _ h=>.inl h,q2r w o,qkx w o,fun _ h=>h,fun _ h=>.inl h,fun _ _=>rfl,rfl,rfl,rfl,qk8 w a⟩
theorem qmw (h : RelH w Z inj hp nx) {n : Nat} {b0 blk : Blk} (t : find hp n = some b0) (z : live b0 = true) {b off : Nat} (hi : inj n = some (b,off)) {r s : Loop} (hb : w.heap[b]? = some (.loop r)) (hd : s.defers = r.defers)
    (af : RelB (w.putObj b (.loop s)) Z inj nx n blk) (ac : live blk = true→True) : RelH (w.putObj b (.loop s)) Z inj (repl hp n blk) nx∧Ext w Z inj hp (w.putObj b (.loop s)) Z inj (repl hp n blk) pin:=by
  have a : ∀ k,k≠b→(w.putObj b (.loop s)).heap[k]? = w.heap[k]?:=fun k g=>World.putObj_heap_other g
  have al : ¬ Z b:=fun hz=>by
    obtain ⟨c,e,f,hc⟩:=h.zc b hz;rw [hb] at hc;cases hc
  have j : Zx w (w.putObj b (.loop s)):=fun k c e f g=>by
    by_cases j : k = b
    · subst j;rw [hb] at g;cases g
    · exact ⟨c,e,f,(a k j).trans g,rfl⟩
  have hz : ∀ k,Z k→(w.putObj b (.loop s)).heap[k]? = w.heap[k]?:=fun k g=>a k (fun e=>al (e ▸ g))
  have d : ∀ m c,find (repl hp n blk) m = some c→(m = n∧c = blk)∨(m≠n∧find hp m = some c):=by
    intro m c v;rw [Z7] at v;split at v
    · rename_i e;subst e;rw [t] at v;simp at v;exact .inl ⟨rfl,v.symm⟩
    · rename_i e;exact .inr ⟨fun h=>e h.symm,v⟩
  have ah : ∀ k,im (repl hp n blk) inj k→im hp inj k:=by
    rintro k ⟨m,c,o,h1,h2,u⟩;rcases d m c h1 with ⟨rfl,rfl⟩ | ⟨_,y⟩
    · exact ⟨m,b0,o,t,z,u⟩
    · exact ⟨m,c,o,y,h2,u⟩
  refine ⟨⟨?_,?_,?_,?_,?_⟩,⟨qe,?_,fun k g=>.inl (ah k g),j,?_,fun _ h=>h,fun _ h=>.inl h,fun _ _=>rfl,rfl,rfl,rfl,qfj (fun _ _ _=>by rw [hb];simp) (fun _ _ _=>qe)⟩⟩
  · intro m c v;rcases d m c v with ⟨rfl,rfl⟩ | ⟨l,y⟩
    · exact ⟨(h.blk _ _ t).1,af⟩
    · obtain ⟨h5,h6⟩:=h.blk m c y;exact ⟨h5,h6.mono hz (fun _ h=>h) j (fun _ _=>rfl) (Nat.le_refl _) h5 fun p hp ac=>a _ fun e=>h.sep m n c b0 p (b,off) y t ac z hp hi l e⟩
  · intro m m' c c' p q h1 h2 u y h5 h6 l;rcases d m c h1 with ⟨rfl,rfl⟩ | ⟨e1,k1⟩ <;> rcases d m' c' h2 with ⟨rfl,rfl⟩ | ⟨e2,k2⟩
    · exact absurd rfl l
    · exact h.sep _ _ _ _ p q t k2 z y h5 h6 l
    · exact h.sep _ _ _ _ p q k1 t u z h5 h6 l
    · exact h.sep _ _ _ _ p q k1 k2 u y h5 h6 l
  · intro m c p h1 h2 u;rcases d m c h1 with ⟨rfl,rfl⟩ | ⟨e1,k1⟩
    · exact h.out _ _ p t z u
    · exact h.out _ _ p k1 h2 u
  · intro k g;simpa using h.zs k g
  · intro k g;obtain ⟨c,e,f,hc⟩:=h.zc k g;exact ⟨c,e,f,(hz k g).trans hc⟩
  · intro k _ g;exact a k fun e=>g ⟨n,b0,off,t,z,e ▸ hi⟩
  · intro k x g;by_cases j : k = b
    · subst j;rw [hb] at g;cases g;exact ⟨s,World.putObj_heap_same (J8 hb),hd⟩
    · exact ⟨x,(a k j).trans g,rfl⟩
theorem qgv (h : RelH w Z inj hp nx) {n : Nat} {s : List (Nat × V)} {l : List Tmp} {as d : Code} {ls ls' : LoopState} {pe pe' : Option Code} (t : find hp n = some (.loop s l as d ls pe)) : ∃ b r,inj n = some (b,0)∧w.heap[b]? = some (.loop r)∧
    r.state = ls∧r.pending = pe∧r.params = l.toArray∧r.assign = as∧r.body = d∧(codeOk r.tmps.size as = true∧codeOk r.tmps.size d = true∧∀ p∈l,p < r.tmps.size)∧Yw w Z inj nx s r.tmps∧
    RelH (w.putObj b (.loop {r with state:=ls',pending:=pe'})) Z inj (repl hp n (.loop s l as d ls' pe')) nx∧Ext w Z inj hp (w.putObj b (.loop {r with state:=ls',pending:=pe'})) Z inj (repl hp n (.loop s l as d ls' pe')) pin:=by
  obtain ⟨y,b,tmps,D,fn,m,g,u,q⟩:=h.blk n _ t;refine ⟨b,_,m,g,rfl,rfl,rfl,rfl,rfl,u,q,?_⟩;refine qmw h t rfl m g rfl ?_ (fun _=>trivial);refine ⟨b,tmps,D,fn,m,World.putObj_heap_same (J8 g),u,?_⟩
  have o : ¬ Z b:=fun x=>by
    obtain ⟨c,e,f,v⟩:=h.zc b x;rw [g] at v;cases v
  refine q.mono (fun k j=>World.putObj_heap_other (fun e=>o (e ▸ j))) (fun _ h=>h) ?_ (fun _ _=>rfl) (Nat.le_refl _);intro k c e f j;by_cases a : k = b
  · subst a;rw [g] at j;cases j
  · exact ⟨c,e,f,(World.putObj_heap_other a).trans j,rfl⟩
theorem qx7 (h : RelH w Z inj hp nx) {n : Nat} {s : List (Nat × V)} {l : List Tmp} {as g : Code} {ls : LoopState} {pe : Option Code} (f : find hp n = some (.loop s l as g ls pe)) : ∃ b r,inj n = some (b,0)∧w.heap[b]? = some (.loop r)∧
    r.state = ls∧r.pending = pe∧∀ a : Loop,a.defers = r.defers→RelH (w.putObj b (.loop a)) Z inj (repl hp n .dead) nx∧Ext w Z inj hp (w.putObj b (.loop a)) Z inj (repl hp n .dead) pin:=by
  obtain ⟨k,b,tmps,D,fn,c,d,o,m⟩:=h.blk n _ f;exact ⟨b,_,c,d,rfl,rfl,fun a j=>qmw h f rfl c d j trivial (fun _=>trivial)⟩
theorem qju : ∀ (a : List V) (k t : Nat) (v : V),find (Y8 k a) t = some v→k≤t∧a[t - k]? = some v
  | [],k,t,v,h=>by simp [Y8,find] at h
  | x::r,k,t,v,h=>by
    simp only [Y8,Ku] at h
    split at h
    · rename_i e;subst e;cases h;simp
    · rename_i e
      obtain ⟨d,b⟩:=qju r (k + 1) t v h
      refine ⟨q6,?_⟩
      obtain ⟨m,c⟩ : ∃ m,t - k = m + 1:=⟨t - k - 1,q6⟩
      have : t - (k + 1) = m:=by omega
      rw [this] at b
      rw [c];simpa using b
theorem qxa {b : List V} {xs : Array Value} (n : Nat) (h : LRel w Z inj nx b xs) : Yw w Z inj nx (Y8 0 b) (xs ++ Array.replicate (n - xs.size) undef):=by
  intro t v f;obtain ⟨_,c⟩:=qju b 0 t v f;simp at c;have a : t < xs.size:=by rw [← h.1];exact Kd c
  obtain ⟨x,d⟩:=Yd a;exact ⟨x,by rw [Array.getElem?_append_left a];exact d,h.2 t v x c d⟩
theorem qmy : ∀ (f : List Tmp) (g : List V) (xs : List Value) (s : List (Nat × V)) (tmps : Array Value),g.length = xs.length→(∀ (i : Nat) (d : V) (c : Value),g[i]? = some d→xs[i]? = some c→RelV w Z inj nx d c)→(∀ p∈f,p < tmps.size)→
    Yw w Z inj nx s tmps→Yw w Z inj nx (q1y s f g) ((f.zip xs).foldl (fun tmps (x : Tmp × Value)=>tmps.setIfInBounds x.1 x.2) tmps)∧((f.zip xs).foldl (fun tmps (x : Tmp × Value)=>tmps.setIfInBounds x.1 x.2) tmps).size = tmps.size
  | [],g,xs,s,tmps,hl,hr,hp,h=>by simpa [q1y] using h
  | p::f,[],[],s,tmps,hl,hr,hp,h=>by simpa [q1y] using h
  | p::f,v::g,x::xs,s,tmps,hl,hr,hp,h=>by
    have l:=hr 0 v x rfl rfl
    have j:=h.put l (hp p qe)
    obtain ⟨a,b⟩:=qmy f g xs _ _ (by simpa using hl) (fun i d c hd m=>hr (i + 1) d c (by simpa using hd) (by simpa using m)) (fun q k=>by simpa using hp q (by simp [k])) j
    refine ⟨by simpa [q1y] using a,by simpa using b⟩
  | p::f,[],x::xs,s,tmps,hl,hr,hp,h=>by simp at hl
  | p::f,v::g,[],s,tmps,hl,hr,hp,h=>by simp at hl
theorem ql2 {fn : Func} {st : AS} {v : V} (hT : Z5 P T) {w0 : World} {Z0 : Nat→Prop} {inj0 : Inj} {hp0 : List (Nat × Blk)} {R : Ending→World→Prop} (m : resV T st fn.results.toList = some v)
    (hR : ∀ x w' Z' inj',RelH w' Z' inj' st.hp st.nx→Ext w0 Z0 inj0 hp0 w' Z' inj' st.hp pin→RelV w' Z' inj' st.nx v x→R (.returned x) w') : ∀ (Ds : List Nat) (w : World) (Z : Nat→Prop) (inj : Inj) (a : Act),
      Yw w Z inj st.nx st.sl a.tmps→RelH w Z inj st.hp st.nx→Ext w0 Z0 inj0 hp0 w Z inj st.hp pin→Ds.Nodup→(∀ D∈Ds,w.heap[D]? = some (.deferred (some []))∧w0.heap.size≤D)→
      LeavesInM (Fw none) 0 P fn a.tmps R (Ds.map fun D=>{target:=.collected D,args:=#[]}) .returning w
  | [],w,Z,inj,a,hs,hh,he,_,_=>by
    obtain ⟨x,hx,hv⟩:=qxe (a:=a) hT hh hs m
    exact ⟨x,hx,hR x w Z inj hh he hv⟩
  | D::Ds,w,Z,inj,a,hs,hh,he,hnd,hm=>by
    obtain ⟨q,ah⟩:=hm D qe
    have j:=List.nodup_cons.1 hnd
    refine ⟨qe,.inl ⟨D,_,rfl,run_takeDeferred q,?_⟩⟩
    have d : ∀ k,k≠D→(w.putObj D (.deferred none)).heap[k]? = w.heap[k]?:=fun k g=>World.putObj_heap_other g
    have ab : ¬ Z D:=fun u=>by obtain ⟨c,e,f,hc⟩:=hh.zc D u;rw [q] at hc;cases hc
    have y : ¬ im st.hp inj D:=fun hi=>by rcases hh.im_obj hi with ⟨_,_,e⟩ | ⟨_,e⟩ | ⟨_,_,e⟩ <;> rw [q] at e <;> cases e
    have u : ∀ k,Z k→(w.putObj D (.deferred none)).heap[k]? = w.heap[k]?:=fun k g=>d k fun e=>ab (e ▸ g)
    have o : Zx w (w.putObj D (.deferred none)):=fun k c e f g=>by
      by_cases s : k = D
      · subst s;rw [q] at g;cases g
      · exact ⟨c,e,f,(d k s).trans g,rfl⟩
    refine ql2 hT m hR Ds _ Z inj a (hs.mono u (fun _ h=>h) o (fun _ _=>rfl) (Nat.le_refl _)) ⟨?_,hh.sep,hh.out,fun k g=>by simpa using hh.zs k g,?_⟩ ?_ j.2 ?_
    · intro n b hn
      obtain ⟨l,t⟩:=hh.blk n b hn
      exact ⟨l,t.mono u (fun _ h=>h) o (fun _ _=>rfl) (Nat.le_refl _) l fun p hp hl=>d _ fun e=>y ⟨n,b,p.2,hn,hl,by rw [← e];exact hp⟩⟩
    · intro k g
      obtain ⟨c,e,f,hc⟩:=hh.zc k g
      exact ⟨c,e,f,(u k g).trans hc⟩
    · refine ⟨by simpa using he.size,fun b hb hi=>(d b q6).trans (he.keep b hb hi),he.imm,?_,?_,he.zin,he.zout,he.pinj,he.tape,he.os,he.output,fun x=>(qfj (fun _ _ _=>by rw [q];simp) (fun _ _ _=>qe) x).trans (he.frz x)⟩
      · intro b c e f hb
        obtain ⟨c1,e1,f1,l,s1⟩:=he.big b c e f hb
        obtain ⟨c2,e2,f2,t,s2⟩:=o b c1 e1 f1 l
        exact ⟨c2,e2,f2,t,s2.trans s1⟩
      · intro b r hb
        obtain ⟨r1,l,s1⟩:=he.loops b r hb
        exact ⟨r1,(d b (by have:=J8 hb;omega)).trans l,s1⟩
    · intro D' z
      obtain ⟨l,t⟩:=hm D' (by simp [z])
      exact ⟨(d D' (fun e=>j.1 (e ▸ z))).trans l,t⟩
end
end Go.Am
