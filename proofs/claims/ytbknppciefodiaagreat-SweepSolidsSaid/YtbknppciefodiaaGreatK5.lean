/- Am23 Am24 Am25 -/
import Derived.Test.YtbknppciefodiaaGreatK4
namespace Go.Am
open Go
variable {P : Program} {T : Tab}
section
variable {base : Nat} {w : World} {Z : Nat→Prop} {inj : Inj} {st st1 st2 : AS} {a : Act} {Ds : List Nat} {ops : Array Oper} {o : Oper}
structure Uj (ops : Array Oper) (o : Oper) (x : Fp) (st st2 : AS) : Prop where
  blk : qe7 x st st2
  sl : ∀ t∈reads ops o,st2.get t = st.get t
theorem Uj.ev {x : Fp} (h : Uj ops o x st st2) {y : Operand} (a : y∈o.op.operands) : st2.ev y = st.ev y:=by
  cases y with
  | tmp t=>exact h.sl t (List.mem_append_left _ (by unfold slotsOf;rw [List.mem_filterMap];exact ⟨.tmp t,by simpa using a,rfl⟩))
  | const v=>rfl
  | func f=>rfl
  | global g=>rfl
theorem Uj.guard {x : Fp} (h : Uj ops o x st st2) : Qx ops st2 o = Qx ops st o:=by
  have hs:=h.sl;unfold reads at hs;unfold Qx;grind
theorem Uj.callee {x : Fp} (h : Uj ops o x st st2) {c : Call} (d : o.op = .call c) : callee st2 c = callee st c:=by
  obtain ⟨a,args,argTypes⟩:=c;unfold Am.callee
  cases a with
  | builtin b=>rfl
  | invoke r n=>rfl
  | value f=>
    simp only;rw [h.ev (y:=f) (by rw [d];simp [Op.operands,Call.operands]),q8w (fun x g=>h.ev (y:=x) (by rw [d];simp [Op.operands,Call.operands];exact .inr (by simpa using g)))]
theorem Z7 {st : AS} {d : Option Tmp} {v : V} {t : Tmp} : (st.putD d v).get t = if d = some t then some v else st.get t:=by
  cases d with
  | none=>simp [AS.putD]
  | some d=>simp only [AS.putD,AS.put,AS.get,Kw,Option.some.injEq]
theorem qho {w : World} {Z : Nat→Prop} {inj : Inj} {nx : Nat} {fz : List Nat} {b : AS} {v : V} {x : Value} (h : RelV w Z inj nx v x) : Wv b (fun n=>n) fz [] nx v v:=by
  induction h with
  | d h=>exact .d (.refl _)
  | @agg ds cs hl _ ih=>
    exact .agg rfl fun i c d a hd=>by
      rw [a] at hd;cases hd;obtain ⟨y,g⟩:=Yd (xs:=cs) (i:=i) (by rw [← hl];exact Kg a);grind
  | @tup ds cs hl _ ih=>
    exact .tup rfl fun i c d a hd=>by
      rw [a] at hd;cases hd;obtain ⟨y,g⟩:=Yd (xs:=cs) (i:=i) (by rw [← hl];exact Kg a);grind
  | @fn f ds cs hl _ ih=>
    exact .fn rfl fun i c d a hd=>by
      rw [a] at hd;cases hd;obtain ⟨y,g⟩:=Yd (xs:=cs) (i:=i) (by rw [← hl];exact Kg a);grind
  | ref h1 h2=>exact .ref rfl qf h1
  | @dref cs j _ _ _ _ _=>exact .dref cs j
  | hsnil h1=>exact .hs rfl qf h1
  | hs h1 _ _ _=>exact .hs rfl qf h1
  | yld h1 _=>exact .yld rfl qf h1
  | mp h1 _=>exact .mp rfl qf h1
  | dead v=>exact .dead _
theorem q12z {w : World} {Z : Nat→Prop} {inj : Inj} {nx n : Nat} {fz : List Nat} {a : AS} {b : Blk} (h : RelB w Z inj nx n b) : Wb a (fun n=>n) fz [] nx b b:=by
  cases b with
  | dead=>exact .dead _
  | dat es xs=>exact .dat _ _
  | mp es=>exact .mp _
  | cel es xs=>
    obtain ⟨_,_,u⟩:=h;refine .cel rfl fun i x y f m=>?_;rw [f] at m;cases m;refine ⟨rfl,fun j c d k hd=>?_⟩;rw [k] at hd;cases hd;rcases u with ⟨rfl,_⟩ | ⟨b,o,arr,ty,_,_,v⟩
    · simp at f
    · obtain ⟨p,c',_,z⟩:=v i x j c f k;exact ⟨qho z,p⟩
  | loop s ps assign body dn pe=>
    obtain ⟨b,tmps,D,fn,_,_,_,r⟩:=h;refine .loop fun t g l=>?_;obtain ⟨x,_,q⟩:=r t g l;exact ⟨g,l,qho q⟩
theorem qjx {w' : World} {Z' : Nat→Prop} {inj' : Inj} {a' : Act} {p : List Nat} {dst : Option Tmp} {n es : Nat} {xs : List (List DV)} {hp2 : List (Nat × Blk)} (w : RelS w' Z' inj' (st1.putD dst (.hs n es 0 xs.length)) a' p) (s : st1.hp = (n,.dat es xs)::hp2) (hf : find hp2 n = none) (hn : base≤n) (h4 : base≤st1.nx) :
    Wk base (fun n=>n) [n] [] (st1.putD dst (.hs n es 0 xs.length)) (({sl:=st1.sl,hp:=hp2,nx:=st1.nx} : AS).putD dst (.d (.sl es xs))):=by
  have f : (({sl:=st1.sl,hp:=hp2,nx:=st1.nx} : AS).putD dst (.d (.sl es xs))).nx = st1.nx:=Yo _ _ _;have r : (({sl:=st1.sl,hp:=hp2,nx:=st1.nx} : AS).putD dst (.d (.sl es xs))).hp = hp2:=Yn _ _ _
  have g : ∀ m b,find hp2 m = some b→m≠n∧find (st1.putD dst (.hs n es 0 xs.length)).hp m = some b:=by
    intro m b a;have c : m≠n:=by rintro rfl;rw [hf] at a;cases a
    refine ⟨c,?_⟩;rw [Yn,s,Kw,qp (by intro e;exact c e.symm)];exact a
  refine ⟨?_,?_,?_,?_,fun _ _=>rfl,by rw [f];exact h4,fun m a=>by simp at a;omega,fun m a=>by cases a⟩
  · intro t o h;rw [f];rw [Z7] at h;by_cases l : dst = some t
    · rw [qq l] at h;cases h;refine ⟨_,by rw [Z7,qq l],.frz (k:=es) (xs:=xs) ?_ qf q6 qf rfl⟩;show find (st1.putD dst _).hp n = _;rw [Yn,s,Kw,qq rfl]
    · rw [qp l] at h;have z : (st1.putD dst (.hs n es 0 xs.length)).get t = some o:=by rw [Z7,qp l];exact h
      obtain ⟨x,_,u⟩:=w.slots t o z;rw [Yo] at u;exact ⟨o,z,qho u⟩
  · intro m q a;rw [f];unfold AS.blk at a;rw [r] at a;obtain ⟨c,j⟩:=g m q a;obtain ⟨y,v⟩:=w.heap.blk m q j;rw [Yo] at y v;exact ⟨y,.inr ⟨qf,q,j,q12z v⟩⟩
  · omega
  · intro m b a _ hc;unfold AS.blk at a;grind
theorem qv0 {w : World} {Z : Nat→Prop} {inj : Inj} {a a' : Act} {Ds : List Nat} {w' : World} {dst : Option Tmp} {n es : Nat} {xs : List (List DV)} {hp2 : List (Nat × Blk)}
    (h : Kx base w Z inj st a Ds (st1.putD dst (.hs n es 0 xs.length)) a' w') (k : st1.hp = (n,.dat es xs)::hp2) (p : find hp2 n = none) (l : base≤n) :
    Kx base w Z inj st a Ds (({sl:=st1.sl,hp:=hp2,nx:=st1.nx} : AS).putD dst (.d (.sl es xs))) a' w':=by
  obtain ⟨Z',inj',g,j,q,m,f,o⟩:=h;obtain ⟨c,b⟩:=q26 j (qjx j k p l (by rw [Yo] at f;exact f));exact ⟨_,_,g,c,q.trans b (Nat.le_refl _),m,by rw [Yo];rw [Yo] at f;exact f,o⟩
theorem qro {n es : Nat} {xs : List (List DV)} {hp2 : List (Nat × Blk)} (j : Z4 P T) (k : Qx ops st o = some true) (l : opFn T st o.op = some (.hs n es 0 xs.length,st1)) (f : st.nx≤n) (c : st1.hp = (n,.dat es xs)::hp2) (m : find hp2 n = none) :
    Jo P base ops o st (({sl:=st1.sl,hp:=hp2,nx:=st1.nx} : AS).putD o.dst (.d (.sl es xs))):=by
  intro ro Q w Z inj a Ds K h hd hb b g;exact qfj j k l ro Q w Z inj a Ds K h hd hb b fun a' w' hp=>g a' w' (qv0 hp c m (Nat.le_trans hb f))
theorem q9s {w : World} {Z : Nat→Prop} {inj inj' : Inj} {nx : Nat} {v : V} {x : Value} (h : RelV w Z inj nx v x) (hi : ∀ n p,n < nx→inj n = some p→inj' n = some p) : RelV w Z inj' nx v x:=by
  induction h with
  | d h=>exact .d h
  | agg hl _ ih=>exact .agg hl ih
  | tup hl _ ih=>exact .tup hl ih
  | fn hl _ ih=>exact .fn hl ih
  | ref h1 h2=>exact .ref h1 (hi _ _ h1 h2)
  | dref h1 h2 h3=>exact .dref h1 h2 h3
  | hsnil h1=>exact .hsnil h1
  | hs h1 h2 hsp h3=>
    refine .hs h1 h2 hsp fun a=>?_;grind
  | yld h1 h2=>exact .yld h1 (hi _ _ h1 h2)
  | mp h1 h2=>exact .mp h1 (hi _ _ h1 h2)
  | dead v=>exact .dead v
theorem qmn {w : World} {Z : Nat→Prop} {inj inj' : Inj} {nx n : Nat} {b : Blk} (h : RelB w Z inj nx n b) (hi : ∀ n p,n < nx→inj n = some p→inj' n = some p) (m : n < nx) (r : inj n = none→inj' n = none) : RelB w Z inj' nx n b:=by
  cases b with
  | dead=>trivial
  | dat es xs=>
    obtain ⟨f,g,a⟩:=h;refine ⟨f,g,?_⟩;grind
  | mp es=>
    obtain ⟨b,k,cl,f,g⟩:=h;exact ⟨b,k,cl,hi _ _ m f,g⟩
  | cel es xs=>
    obtain ⟨f,g,a⟩:=h;refine ⟨f,g,?_⟩;rcases a with ⟨a,l⟩ | ⟨b,o,arr,ty,a,l,z⟩
    · grind
    · refine .inr ⟨b,o,arr,ty,hi _ _ m a,l,fun i x j d q hd=>?_⟩;obtain ⟨h6,c,u,h8⟩:=z i x j d q hd;exact ⟨h6,c,u,q9s h8 hi⟩
  | loop s ps assign body dn pe=>
    obtain ⟨b,tmps,D,fn,f,g,a,l⟩:=h;refine ⟨b,tmps,D,fn,hi _ _ m f,g,a,fun t v ht=>?_⟩;obtain ⟨x,q,y⟩:=l t v ht;exact ⟨x,q,q9s y hi⟩
def qbq (base lo hi : Nat) (w : World) (Z : Nat→Prop) (inj : Inj) (st : AS) (a : Act) (Ds : List Nat) (st' : AS) (a' : Act) (w' : World) : Prop:=
  ∃ Z' inj' Ds',RelS w' Z' inj' st' a' Ds'∧Ext w Z inj st.hp w' Z' inj' st'.hp base∧a'.tmps.size = a.tmps.size∧(∀ D∈Ds',D∈Ds∨w.heap.size≤D)∧∀ m,m < st.nx→(m < lo∨hi≤m)→inj' m = inj m
def qe9 (P : Program) (base : Nat) (ops : Array Oper) (o : Oper) (st st' : AS) (lo hi : Nat) : Prop:=
  ∀ (ro : Option Nat) (Q : Exit→Act→World→Prop) (w : World) (Z : Nat→Prop) (inj : Inj) (a : Act) (Ds : List Nat) (K : Act→World→Prop),RelS w Z inj st a Ds→J7 a.tmps.size o.dst = true→base≤lo→base≤st.nx→Yj ro w→(∀ m,lo≤m→m < hi→inj m = none)→
    (∀ a' w',qbq base lo hi w Z inj st a Ds st' a' w'→K a' w')→Ui P (Fw ro) ops Q o K a w
theorem qk5 {st' : AS} {lo hi : Nat} (h : Jo P st.nx ops o st st') : qe9 P base ops o st st' lo hi:=by
  intro ro Q w Z inj a Ds K f hd _ hb c _ j;refine h ro Q w Z inj a Ds K f hd (Nat.le_refl _) c fun a' w' hp=>j a' w' ?_;obtain ⟨Z',inj',b,l,d,g,p,k⟩:=hp;exact ⟨Z',inj',b,l,d.pin_le hb,g,k,fun m n _=>d.pinj m n⟩
theorem qmt {w : World} {Z : Nat→Prop} {inj : Inj} {w' : World} {Z' : Nat→Prop} {inj' b : Inj} {N l : Nat} {v : V} {x k : Value} (h : RelV w Z inj N v x) (j : RelV w' Z' inj' l v k) (hi : ∀ m p,m < N→inj' m = some p→b m = some p) : RelV w' Z' b N v k:=by
  induction j generalizing x with
  | d j=>exact .d j
  | @agg ds cs hl _ ih=>
    cases h with | @agg _ cs0 hl0 h0=>
    refine .agg hl fun i d c hd g=>?_;grind
  | @tup ds cs hl _ ih=>
    cases h with | @tup _ cs0 hl0 h0=>
    refine .tup hl fun i d c hd g=>?_;grind
  | @fn f ds cs hl _ ih=>
    cases h with | @fn _ _ cs0 hl0 h0=>
    refine .fn hl fun i d c hd g=>?_;grind
  | ref h1 h2=>
    have a:=by cases h with | ref h1 _=>exact h1
    exact .ref a (hi _ _ a h2)
  | dref h1 h2 h3=>exact .dref h1 h2 h3
  | hsnil h1=>
    have a:=by cases h with
      | hsnil h1=>exact h1
      | hs h1 _ _ _=>exact h1
    exact .hsnil a
  | hs h1 h2 hsp h3=>
    have a:=by cases h with
      | hsnil h1=>exact h1
      | hs h1 _ _ _=>exact h1
    refine .hs a h2 hsp fun g=>?_;grind
  | yld h1 h2=>
    have a:=by cases h with | yld h1 _=>exact h1
    exact .yld a (hi _ _ a h2)
  | mp h1 h2=>
    have a:=by cases h with | mp h1 _=>exact h1
    exact .mp a (hi _ _ a h2)
  | dead v=>exact .dead v
theorem qw9 {w : World} {Z : Nat→Prop} {inj : Inj} {w' : World} {Z' : Nat→Prop} {inj' a : Inj} {N N' n : Nat} {b : Blk} (h : RelB w Z inj N n b) (r : RelB w' Z' inj' N' n b) (hi : ∀ m p,m < N→inj' m = some p→a m = some p) (u : a n = inj' n) : RelB w' Z' a N n b:=by
  cases b with
  | dead=>trivial
  | dat es xs=>
    obtain ⟨g,k,f⟩:=r;refine ⟨g,k,?_⟩;grind
  | mp es=>
    obtain ⟨b,q,cl,g,k⟩:=r;exact ⟨b,q,cl,u.trans g,k⟩
  | cel es xs=>
    obtain ⟨g,k,f⟩:=r;refine ⟨g,k,?_⟩;rw [u];rcases f with f | ⟨b,o,arr,ty,f,z,h5⟩
    · grind
    · refine .inr ⟨b,o,arr,ty,f,z,fun i x j d l hd=>?_⟩;obtain ⟨h6,c,h7,h8⟩:=h5 i x j d l hd;obtain ⟨_,_,k3⟩:=h;rcases k3 with ⟨rfl,_⟩ | ⟨_,_,_,_,_,_,k5⟩
      · simp at l
      · obtain ⟨_,c0,_,k8⟩:=k5 i x j d l hd;exact ⟨h6,c,h7,qmt k8 h8 hi⟩
  | loop s ps assign body dn pe=>
    obtain ⟨b,tmps,D,fn,g,k,f,z⟩:=r;obtain ⟨_,_,_,_,_,_,_,k4⟩:=h;refine ⟨b,tmps,D,fn,u.trans g,k,f,fun t v ht=>?_⟩;obtain ⟨x,l,hr⟩:=z t v ht;obtain ⟨x0,_,y⟩:=k4 t v ht;exact ⟨x,l,qmt y hr hi⟩
theorem qk4 {mk : Nat→V} {es q : Nat} {xs : List (List DV)} {f : List (Nat × Blk)} (hT : Z4 P T) (hg : Qx ops st o = some true) (hk : (∃ es,mk = fun n=>.ref n es 0 0)∨(∃ es l,mk = fun n=>.hs n es 0 l)∨(mk = fun n=>.mp n))
    (ho : opFn T st o.op = some (mk st.nx,⟨st.sl,(st.nx,.dat es xs)::f,st.nx + 1⟩)) (hq : q < st.nx) (aw : find st.hp q = none) (hold : ∀ m c,find f m = some c→c = .dead∨find st.hp m = some c) (ad : ∀ m,find st.hp m = none→find f m = none) :
    qe9 P base ops o st (({sl:=st.sl,hp:=(q,.dat es xs)::f,nx:=st.nx} : AS).putD o.dst (mk q)) q (q + 1):=by
  intro ro Q w Z inj a Ds K h hd bl hb _ aj hK;have av : inj q = none:=aj q (Nat.le_refl _) q6;unfold Ui;rw [q3l h hg];simp only [if_true];refine ⟨fun _ _=>trivial,?_⟩;rw [show (Fw ro).round = ro from rfl,Oper.semAt_eq ro _ o (qln ho)];obtain ⟨x,w',inj',hr,hv,hh,j,-,-⟩:=qlo hT h ho;simp only at hv hh j;obtain ⟨d,am⟩ : ∃ d : Inj,d = fun m=>if m = q then inj' st.nx else inj' m:=⟨_,rfl⟩
  have ae : d q = inj' st.nx:=by rw [am];simp
  have ac : ∀ m,m≠q→d m = inj' m:=fun m g=>by rw [am];simp [g]
  have hi : ∀ m p,m < st.nx→inj' m = some p→d m = some p:=fun m p g hp=>by
    by_cases k : m = q
    · subst k;rw [j.pinj m g,av] at hp;cases hp
    grind
  have al : ∀ m c,find f m = some c→m < st.nx:=fun m c g=>by
    cases hf : find st.hp m with
    | none=>rw [ad m hf] at g;cases g
    | some b=>exact (h.heap.blk m b hf).1
  have bv : ∀ m c,find f m = some c→m≠q:=fun m c g e=>by grind
  have up : ∀ m c,find f m = some c→find ((st.nx,Blk.dat es xs)::f) m = some c:=fun m c g=>by
    rw [Kw,qp (by have:=al m c g;omega)];exact g
  have ak : find ((st.nx,Blk.dat es xs)::f) st.nx = some (.dat es xs):=by rw [Kw,qq rfl]
  have back : ∀ m c,find ((q,Blk.dat es xs)::f) m = some c→∃ u,find ((st.nx,Blk.dat es xs)::f) u = some c∧d m = inj' u∧((m = q∧u = st.nx)∨(m≠q∧u = m)):=by
    intro m c g;rw [Kw] at g;grind
  have hH : RelH w' Z d ((q,Blk.dat es xs)::f) st.nx:=by
    refine ⟨fun m c g=>?_,fun m n b c p r h1 z h3 h4 h5 h6 aq=>?_,fun m b p h1 z h3=>?_,hh.zs,hh.zc⟩
    · rw [Kw] at g;by_cases k : q = m
      · subst k;rw [qq rfl] at g;cases g;refine ⟨hq,?_⟩;obtain ⟨_,k1,k2,k3⟩:=hh.blk st.nx _ ak;exact ⟨k1,k2,by rw [ae];exact k3⟩
      · rw [qp k] at g;refine ⟨al m c g,?_⟩;rcases hold m c g with rfl | ap
        · trivial
        · exact qw9 (h.heap.blk m c ap).2 (hh.blk m c (up m c g)).2 hi (ac m (Ne.symm k))
    · obtain ⟨u,a1,a2,a3⟩:=back m b h1;obtain ⟨n',b1,b2,b3⟩:=back n c z;refine hh.sep u n' b c p r a1 b1 h3 h4 (a2 ▸ h5) (b2 ▸ h6) ?_;rcases a3 with ⟨rfl,rfl⟩ | ⟨a3,rfl⟩ <;> rcases b3 with ⟨rfl,rfl⟩ | ⟨b3,rfl⟩
      · omega
      · intro e;have : find f n' = some c:=by rw [Kw,qp (Ne.symm b3)] at z;exact z
        grind
      · intro e;have : find f u = some b:=by rw [Kw,qp (Ne.symm a3)] at h1;exact h1
        grind
      · exact aq
    · obtain ⟨u,a1,a2,_⟩:=back m b h1;exact hh.out u b p a1 z (a2 ▸ h3)
  have hE : Ext w Z inj st.hp w' Z d ((q,Blk.dat es xs)::f) base:=by
    refine ⟨j.size,j.keep,?_,j.big,j.loops,j.zin,j.zout,fun n hn=>?_,j.tape,j.os,j.output,j.frz⟩
    · rintro b ⟨m,c,off,g1,g2,g3⟩;obtain ⟨u,a1,a2,_⟩:=back m c g1;exact j.imm b ⟨u,c,off,a1,g2,a2 ▸ g3⟩
    · rw [ac n q6];exact j.pinj n q6
  have hV : RelV w' Z d st.nx (mk q) x:=by
    rcases hk with ⟨es,rfl⟩ | ⟨es,l,rfl⟩ | rfl
    rotate_right
    · cases hv with | mp h1 z=>exact .mp hq (ae.trans z)
    · cases hv with | ref h1 z=>exact .ref hq (ae.trans z)
    · cases hv with
      | hsnil h1=>exact .hsnil hq
      | hs h1 z hsp h3=>
        refine .hs hq z hsp fun hc=>?_;grind
  have hS : Yt w' Z d st.nx st.sl a.tmps:=fun t v ht=>by
    obtain ⟨y,hy,hr⟩:=h.slots t v ht;exact ⟨y,hy,q9s (hr.mono (j.zkeep h.heap) j.zin j.big j.pinj (Nat.le_refl _)) hi⟩
  have s : qbq base q (q + 1) w Z inj st a Ds (({sl:=st.sl,hp:=(q,.dat es xs)::f,nx:=st.nx} : AS).putD o.dst (mk q)) (a.put o.dst x) w':=by
    refine ⟨Z,d,Ds,?_,by rw [Yn];exact hE,qly _ _ _,fun _ h=>.inl h,fun m g k=>?_⟩
    · generalize ba : o.dst = dst at hd
      cases dst with
      | none=>exact ⟨hS,hH,h.defs,h.nodup,fun D hD=>j.marks h.heap (h.marks D hD)⟩
      | some t=>exact ⟨hS.put hV (qj7 hd),hH,h.defs,h.nodup,fun D hD=>j.marks h.heap (h.marks D hD)⟩
    · rw [ac m q6];exact j.pinj m g
  rcases hr with hr | ⟨hr,rfl⟩
  · rw [hr];exact hK _ _ s
  · rw [hr];exact hK _ _ s
theorem quz {w : World} {Z : Nat→Prop} {inj : Inj} {a a' : Act} {Ds : List Nat} {w' : World} {dst : Option Tmp} {n es lo hi : Nat} {xs : List (List DV)} {hp2 : List (Nat × Blk)} (g : base≤st1.nx)
    (h : qbq base lo hi w Z inj st a Ds (st1.putD dst (.hs n es 0 xs.length)) a' w') (q : st1.hp = (n,.dat es xs)::hp2) (u : find hp2 n = none) (r : base≤n) :
    qbq base lo hi w Z inj st a Ds (({sl:=st1.sl,hp:=hp2,nx:=st1.nx} : AS).putD dst (.d (.sl es xs))) a' w':=by
  obtain ⟨Z',inj',c,j,p,o,l,s⟩:=h;have hp : Kx base w Z inj st a Ds (st1.putD dst (.hs n es 0 xs.length)) a' w':=⟨Z',inj',c,j,p,o,by rw [Yo];exact g,l⟩
  obtain ⟨f,b⟩:=q26 j (qjx j q u r g);refine ⟨_,_,c,f,p.trans b (Nat.le_refl _),o,l,fun m t k=>?_⟩;rw [← s m t k];simp [wkI]
structure Jq (P : Program) (ops : Array Oper) (o : Oper) (x : Fp) (st st1 : AS) : Prop where
  nx : st.nx≤st1.nx
  sl : ∀ t,o.dst≠some t→st1.get t = st.get t
  hp : ∀ m,m ∉ x.2→find st1.hp m = find st.hp m
  keys : ∀ m,st1.nx≤m→find st.hp m = none→find st1.hp m = none
  fresh : ∀ m,st.nx≤m→m < st1.nx→m∈x.2
  other : ∀ st2,st1.nx≤st2.nx→Uj ops o x st st2→(∀ m,st.nx≤m→m < st1.nx→find st2.hp m = none)→∃ st3,st3.nx = st2.nx∧(∀ base,qe9 P base ops o st2 st3 st.nx st1.nx)∧
    (∀ t,o.dst≠some t→st3.get t = st2.get t)∧(∀ t,o.dst = some t→st3.get t = st1.get t)∧(∀ m∈x.2,find st3.hp m = find st1.hp m)∧(∀ m,m ∉ x.2→find st3.hp m = find st2.hp m)
theorem qhi : ∀ {b : List Nat} {n : Nat},hasN b n = true→n∈b
  | a::r,n,h=>by
    simp only [hasN,Bool.or_eq_true] at h
    rcases h with h | h
    · rw [Nat.eq_of_beq_eq_true h];simp
    · exact List.mem_cons_of_mem _ (qhi h)
theorem ql4 : ∀ {b : List Nat} {n : Nat},n∈b→hasN b n = true
  | a::r,n,h=>by
    simp only [hasN,Bool.or_eq_true]
    rcases List.mem_cons.1 h with rfl | h
    · left;exact Nat.beq_refl _
    · exact .inr (ql4 h)
theorem qjt (y : Fp) : fpLe (some [],[]) y = true:=by
  unfold fpLe;cases y.1 <;> rfl
theorem Jq.mono {x y : Fp} (h : Jq P ops o x st st1) (l : fpLe x y = true) : Jq P ops o y st st1:=by
  simp only [fpLe,Bool.and_eq_true,subN,List.all_eq_true] at l;obtain ⟨v,d⟩:=l;have c : ∀ m∈x.2,m∈y.2:=fun m a=>qhi (v m a);refine ⟨h.nx,h.sl,fun m a=>h.hp m fun e=>a (c m e),h.keys,fun m b hb=>c m (h.fresh m b hb),fun st2 n b t=>?_⟩
  have f : Uj ops o x st st2:=by
    refine ⟨⟨fun m a=>b.blk.1 m (c m a),?_⟩,b.sl⟩;have hb:=b.blk.2;revert d hb
    cases y.1 with
    | none=>grind
    | some r=>
      cases x.1 with
      | none=>simp
      | some r'=>
        intro d hb m a;exact hb m (qhi (by simpa using List.all_eq_true.1 d m a))
  obtain ⟨g,u,q,s,p,w,k⟩:=h.other st2 n f t;refine ⟨g,u,q,s,p,fun m a=>?_,fun m a=>k m fun e=>a (c m e)⟩;by_cases j : m∈x.2
  · grind
  · rw [k m j,h.hp m j];exact b.blk.1 m a
theorem qo2 {v : V} {x : Fp} (d : x.2 = []) (a : ∀ st2,Uj ops o x st st2→Jo P st2.nx ops o st2 (st2.putD o.dst v)) : Jq P ops o x st (st.putD o.dst v):=by
  refine ⟨by rw [Yo];exact Nat.le_refl _,fun t h=>by rw [Z7,qp h],fun m _=>by rw [Yn],fun m _ h=>by rw [Yn];exact h,fun m g a=>by rw [Yo] at a;omega,fun st2 f c _=>?_⟩;refine ⟨st2.putD o.dst v,Yo _ _ _,fun base=>qk5 (a st2 c),fun t h=>by rw [Z7,qp h],fun t h=>by rw [Z7,Z7,qq h,qq h],fun m b=>(by rw [d] at b;cases b),fun m _=>by rw [Yn]⟩
theorem q11u (a : Qx ops st o = some false) : Jq P ops o (some [],[]) st (st.putD o.dst (.d (.tup []))):=
  qo2 rfl fun _ b=>qk7 (b.guard.trans a)
theorem qqn {b : Blk} {n : Nat} {sl : List (Nat × V)} {hp1 : List (Nat × Blk)} {v : V} {op : Op} (d : opFn T st op = some (v,⟨sl,(st.nx,b)::hp1,n + 1⟩)) (f : st.nx = n) (h : q3g st op ⟨sl,(st.nx,b)::hp1,n + 1⟩ = true) : ∃ es xs,b = .dat es xs:=by
  by_cases c : touch op = 2
  · simp only [q3g,c] at h
    cases b with
    | dat es xs=>exact ⟨es,xs,rfl⟩
    | _=>simp at h
  · have a : touch op≤1:=by
      have : touch op≤2:=by unfold touch;split <;> omega
      omega
    have g:=(qgk (st2:=st) d a (fun _=>rfl) (fun _ _=>rfl)).1;grind
theorem q11s {v : V} (w : Z4 P T) (y : Qx ops st o = some true) (z : opFn T st o.op = some (v,st1)) (hd : q3g st o.op st1 = true) : Jq P ops o (fp st o.op) st (st1.putD o.dst v):=by
  cases qlj z with
  | calm hsl hnx hhp hnone hall=>
    have g : ∀ t,st1.get t = st.get t:=fun t=>by unfold AS.get;rw [hsl]
    refine ⟨by rw [Yo];omega,fun t h=>by rw [Z7,qp h,g],fun m a=>by rw [Yn];exact hhp m a,fun m _ h=>by rw [Yn];exact hnone m h,fun m n s=>by rw [Yo] at s;omega,fun st2 j c _=>?_⟩;obtain ⟨d,p,l,k⟩:=hall st2 (fun x q=>c.ev q) c.blk;refine ⟨(⟨st2.sl,d,st2.nx⟩ : AS).putD o.dst v,Yo _ _ _,fun base=>qk5 (qfj w (c.guard.trans y) p),fun t h=>by rw [Z7,qp h];rfl,fun t h=>by rw [Z7,Z7,qq h,qq h],fun m a=>?_,fun m a=>?_⟩
    · rw [Yn,Yn];exact l m a
    · rw [Yn];exact k m a
  | new mk b hp1 hk hv n hmem hhp hnone hall=>
    subst n;obtain ⟨es,xs,rfl⟩:=qqn z rfl hd;refine ⟨by rw [Yo];exact Nat.le_succ _,fun t h=>by rw [Z7,qp h];rfl,fun m a=>?_,fun m a h=>?_,fun m n s=>?_,fun st2 j c r=>?_⟩
    · rw [Yn,Kw,qp (by rintro rfl;exact a hmem)];exact hhp m a
    · rw [Yo] at a;rw [Yn,Kw,qp (by simp only at a;omega)];exact hnone m h
    · rw [Yo] at s;grind
    · rw [Yo] at j r ⊢;simp only at j r;obtain ⟨d,p,l,k,k4⟩:=hall st2 (fun x q=>c.ev q) c.blk;have f:=r st.nx (Nat.le_refl _) q6;refine ⟨(⟨st2.sl,(st.nx,.dat es xs)::d,st2.nx⟩ : AS).putD o.dst (mk st.nx),Yo _ _ _,fun base=>qk4 w (c.guard.trans y) hk p q6 f k4 (fun m a=>?_),fun t h=>by rw [Z7,qp h];rfl,fun t h=>by rw [Z7,Z7,qq h,qq h,hv],fun m a=>?_,fun m a=>?_⟩
      · by_cases u : m∈(fp st o.op).2
        · rw [l m u];refine hnone m ?_;rw [← c.blk.1 m u];exact a
        grind
      · rw [Yn,Yn,Kw,Kw];grind
      · rw [Yn,Kw,qp (by rintro rfl;exact a hmem)];exact k m a
theorem q11t {n es : Nat} {xs : List (List DV)} {hp2 : List (Nat × Blk)} (hT : Z4 P T) (hg : Qx ops st o = some true) (ho : opFn T st o.op = some (.hs n es 0 xs.length,st1)) (q : n = st.nx∧st1.nx = n + 1) (u : st1.hp = (n,.dat es xs)::hp2) (hf : find hp2 n = none) :
    Jq P ops o (fp st o.op) st (({sl:=st1.sl,hp:=hp2,nx:=st1.nx} : AS).putD o.dst (.d (.sl es xs))):=by
  obtain ⟨rfl,ab⟩:=q
  cases qlj ho with
  | calm hsl hnx hhp hnone hall=>omega
  | new mk b hp1 hk hv z hmem hhp hnone hall=>
    subst z;simp only [List.cons.injEq,Prod.mk.injEq,true_and] at u;obtain ⟨rfl,rfl⟩:=u;refine ⟨by rw [Yo];exact Nat.le_succ _,fun t h=>by rw [Z7,qp h];rfl,fun m g=>by rw [Yn];exact hhp m g,fun m g h=>by rw [Yn];exact hnone m h,fun m z h2=>?_,fun st2 q r j=>?_⟩
    · rw [Yo] at h2;grind
    · rw [Yo] at q j ⊢;simp only at q j;obtain ⟨k,k1,v,k3,k4⟩:=hall st2 (fun x hx=>r.ev hx) r.blk;have c:=j st.nx (Nat.le_refl _) q6
      have f : ∀ m,find st2.hp m = none→find k m = none:=fun m g=>by
        by_cases y : m∈(fp st o.op).2
        · rw [v m y];refine hnone m ?_;rw [← r.blk.1 m y];exact g
        grind
      refine ⟨(⟨st2.sl,k,st2.nx⟩ : AS).putD o.dst (.d (.sl es xs)),Yo _ _ _,fun base=>?_,fun t h=>by rw [Z7,qp h];rfl,fun t h=>by rw [Z7,Z7,qq h,qq h],fun m g=>by rw [Yn,Yn];exact v m g,fun m g=>by rw [Yn];exact k3 m g⟩;intro ro Q w Z inj a Ds K h hd l hb s p hK;refine qk4 (base:=base) hT (r.guard.trans hg) hk k1 q6 c k4 f ro Q w Z inj a Ds K h hd l hb s p fun a' w' hp=>hK a' w' ?_;rw [← hv] at hp;exact quz (st1:=⟨st2.sl,(st.nx,.dat es xs)::k,st2.nx⟩) hb hp rfl (f _ c) l
theorem q12n {hp hp2 : List (Nat × Blk)} (h : ∀ m,find hp2 m = find hp m) : ∀ k,toD hp2 k = toD hp k:=by
  intro k
  induction k with
  | zero=>funext v;cases v <;> rfl
  | succ k ih=>funext v;cases v <;> simp only [toD,ih,h]
theorem qhy {hp hp2 : List (Nat × Blk)} (h : ∀ m,find hp2 m = find hp m) : ∀ {a : List V},Ku hp2 a = Ku hp a
  | []=>rfl
  | v::r=>by simp only [Ku,q12n h,qhy h]
theorem qhz {hp hp2 : List (Nat × Blk)} : ∀ {a : List V},a.all V.isD = true→Ku hp2 a = Ku hp a
  | [],_=>rfl
  | v::r,h=>by
    simp only [List.all_cons,Bool.and_eq_true] at h
    have e : toD hp2 8 v = toD hp 8 v:=by
      cases v <;> first | rfl | (simp [V.isD] at h;done)
    rw [Ku,Ku,e,qhz (hp:=hp) (hp2:=hp2) h.2]
theorem q11r {c : Call} {f : FuncId} {b : List V} {ds : List DV} {v : V} {hp' : List (Nat × Blk)} {nx' : Nat} {m r : DV} (q : Qx ops st o = some true) (n : o.op = .call c) (p : callee st c = some (f,b))
    (k : Ku st.hp b = some ds) (a : Jm P f (ds.map .d) [] 0 v hp' nx') (j : toD hp' 8 v = some m) (l : DLe m r) (hs : b.all V.isD = true∨r.scalar = true) : Jq P ops o (fpC b) st (st.putD o.dst (.d r)):=by
  refine qo2 (by unfold fpC;cases b.all V.isD <;> rfl) fun st2 g=>qk6 (g.guard.trans q) n ((g.callee n).trans p) ?_ a j l hs;rw [← k];by_cases hd : b.all V.isD = true
  · exact qhz hd
  · have h:=g.blk.2;simp only [fpC,hd,qx] at h;exact qhy h
theorem qrm {ops : Array Oper} {o : Oper} {c : Call} {f : FuncId} {vs bb : List V} {hp0 hp' am bd : List (Nat × Blk)} {k k' an : Nat} {v' vN : V} {ρ ρ3 : Nat→Nat} {cb au : List Nat} (hg : Qx ops st o = some true) (ho : o.op = .call c) (hc : callee st c = some (f,vs)) (ch : vs.length = bb.length)
    (cm : Wk 0 ρ [] [] {sl:=Y9 0 vs,hp:=st.hp,nx:=st.nx} {sl:=Y9 0 bb,hp:=hp0,nx:=k}) (ar : Jm P f bb hp0 k v' hp' k') (cn : Wk 0 ρ3 cb au {sl:=[(0,v')],hp:=hp',nx:=k'} {sl:=[(0,vN)],hp:=am,nx:=an})
    (hb : Back ρ ρ3 au k k' st.nx an st.hp am bd) : Jo P base ops o st ({sl:=st.sl,hp:=bd,nx:=an : AS}.putD o.dst vN):=by
  intro ro Q w Z inj a Ds K h hd bm _ hK;unfold Ui;rw [q3l h hg];simp only [if_true];refine ⟨fun _ _=>trivial,?_⟩;obtain ⟨xs,hr,hl⟩:=qep h ho hc ar.1;rw [show (Fw ro).round = ro from rfl,Oper.semAt_eq ro _ o (by rintro c' h';rw [ho] at h';cases h'),hr,Oper.uponIn_enter];refine ⟨fun h=>by simp [Fw] at h,?_⟩
  have bk : RelS w Z inj {sl:=Y9 0 vs,hp:=st.hp,nx:=st.nx} {a with tmps:=xs,defers:=[]} []:=by
    refine ⟨fun t v ht=>?_,h.heap,rfl,List.nodup_nil,qf⟩;rw [qbv] at ht;simp only [Nat.zero_le,if_true,Nat.sub_zero] at ht;obtain ⟨y,hy⟩:=Yd (xs:=xs) (i:=t) (by rw [← hl.1];exact Kg ht);exact ⟨y,hy,hl.2 t v y ht hy⟩
  obtain ⟨bt,aj⟩:=q26 bk cm
  have cx : LRel w (wkZ Z inj {sl:=Y9 0 vs,hp:=st.hp,nx:=st.nx} []) (wkI inj ρ []) k bb xs:=by
    refine ⟨by rw [← ch];exact hl.1,fun i d y cw cs=>?_⟩;obtain ⟨y',ce,hr⟩:=bt.slots i d (by rw [qbv];simpa using cw);rw [cs] at ce;cases ce;exact hr
  refine CallsIn.mono (ar.2 w _ _ xs bt.heap cx) ?_;rintro e w' ⟨x,Z',inj',rfl,hh,bw,hv,hn⟩;obtain ⟨s,af⟩ : ∃ s : Inj,s = fun n=>if n < k' then inj' n else none:=⟨_,rfl⟩
  have ab : ∀ n,n < k'→s n = inj' n:=fun n hn=>by rw [af];simp [hn]
  have cu : RelH w' Z' s hp' k':=by
    refine ⟨fun n b hb=>?_,fun n m b c p q l j u h4 h5 h6=>?_,fun n b p l j u=>?_,hh.zs,hh.zc⟩
    · obtain ⟨k1,k2⟩:=hh.blk n b hb;exact ⟨k1,qmn k2 (fun m p hm hp=>(ab m hm).trans hp) k1 (fun hp=>(ab n k1).trans hp)⟩
    · rw [ab n (hh.blk n b l).1] at h5;rw [ab m (hh.blk m c j).1] at h6;exact hh.sep n m b c p q l j u h4 h5 h6
    · rw [ab n (hh.blk n b l).1] at u;exact hh.out n b p l j u
  have cz : RelV w' Z' s k' v' x:=q9s hv fun n p hn hp=>(ab n hn).trans hp
  have bi : ∀ b,im hp' s b→im hp' inj' b:=by
    rintro b ⟨n,blk,o,l,j,u⟩;exact ⟨n,blk,o,l,j,by rw [← ab n (hh.blk n blk l).1];exact u⟩
  have bl : RelS w' Z' s {sl:=[(0,v')],hp:=hp',nx:=k'} {a with tmps:=#[x],defers:=[]} []:=by
    refine ⟨fun t v ht=>?_,cu,rfl,List.nodup_nil,qf⟩;rw [Kw] at ht;split at ht
    · rename_i e;subst e;cases ht;exact ⟨x,rfl,cz⟩
    · simp [find] at ht
  obtain ⟨ac,ai⟩:=q26 bl cn;generalize dr : wkZ Z' s {sl:=[(0,v')],hp:=hp',nx:=k'} cb = Z3 at ac ai;generalize bv : wkI s ρ3 au = z at ac ai
  have cv : RelV w' Z3 z an vN x:=by
    obtain ⟨y,hy,hr⟩:=ac.slots 0 vN (by simp [find]);simp at hy;subst hy;exact hr
  have be : ∀ i,i < k→inj' i = inj (ρ i):=fun i hi=>by rw [bw.pinj i hi];simp [wkI]
  have ci : ∀ m,m < st.nx→∀ p,z m = some p→inj m = some p:=by
    intro m hm p hp;have ba : m ∉ au:=fun hc=>by have:=hb.phn m hc;omega
    rw [← bv] at hp;simp only [wkI,ba,if_false] at hp;rcases hb.snd m hm with ⟨l,j⟩ | l
    · rw [af] at hp;simp only [show ρ3 m < k' by omega,if_true] at hp;rw [be _ l,j] at hp;exact hp
    · rw [af] at hp;simp [show ¬ ρ3 m < k' by omega] at hp
  obtain ⟨r,ag⟩ : ∃ r : Inj,r = fun m=>if m < st.nx then inj m else z m:=⟨_,rfl⟩
  have aa : ∀ m,m < st.nx→r m = inj m:=fun m hm=>by rw [ag];simp [hm]
  have cd : ∀ m p,z m = some p→r m = some p:=fun m p hp=>by
    by_cases hm : m < st.nx
    · rw [aa m hm];exact ci m hm p hp
    · rw [ag];simp [hm,hp]
  have hR : ∀ m b,find am m = some b→∀ p,r m = some p→z m = some p:=by
    intro m b bn p hp;by_cases hm : m < st.nx
    · rw [aa m hm] at hp;have ba : m ∉ au:=fun hc=>by have:=hb.phn m hc;omega
      obtain ⟨_,j⟩:=cn.blocks m b bn;rcases j with ⟨j,_⟩ | ⟨_,b0,u,_⟩
      · exact absurd j ba
      · have df:=(hh.blk _ _ u).1;rcases hb.snd m hm with ⟨k1,k2⟩ | k1
        · rw [← bv];simp only [wkI,ba,if_false];rw [ab _ q6,be _ k1,k2];exact hp
        · omega
    · rw [ag] at hp;simpa [hm] using hp
  have hE : Ext w (wkZ Z inj {sl:=Y9 0 vs,hp:=st.hp,nx:=st.nx} []) (wkI inj ρ []) hp0 w' Z' inj' hp' 0:=bw.pin_le (Nat.zero_le _)
  have dc : ∀ b,im am z b→im st.hp inj b∨w.heap.size≤b:=by
    intro b de;rcases ai.imm b de with l | l
    · rcases hE.imm b (bi b l) with j | j
      · exact aj.imm b j
      · exact .inr j
    · exact .inr (Nat.le_trans hE.size l)
  have keep : ∀ b,b < w.heap.size→¬ im hp0 (wkI inj ρ []) b→w'.heap[b]? = w.heap[b]?:=fun b ct cr=>hE.keep b ct cr
  have aq : ∀ m b p,find st.hp m = some b→live b = true→inj m = some p→(∀ i,i < k→ρ i≠m)→¬ im hp0 (wkI inj ρ []) p.1:=by
    rintro m b p l j u h4 ⟨i,blk,o,g1,g2,g3⟩;obtain ⟨j1,j2⟩:=cm.blocks i blk g1;rcases j2 with ⟨j2,_⟩ | ⟨_,b0,j3,j4⟩
    · cases j2
    · have dd : inj (ρ i) = some (p.1,o):=by simpa [wkI] using g3
      exact h.heap.sep (ρ i) m b0 b _ p j3 l (qok j4 g2) j dd u (h4 i j1) rfl
  have hZ : ∀ b,Z b→Z3 b:=fun b hz=>ai.zin b (hE.zin b (aj.zin b hz))
  have ca : ∀ b,Z3 b→Z b∨im hp0 (wkI inj ρ []) b∨w.heap.size≤b:=by
    intro b hz;rcases ai.zout b hz with l | l | l
    · rcases hE.zout b l with j | j | j
      · rcases aj.zout b j with u | u | u
        · exact .inl u
        · rcases j with j | ⟨n,hn,_⟩
          · exact .inl j
          · cases hn
        · exact .inr (.inr u)
      · exact .inr (.inl j)
      · exact .inr (.inr j)
    · rcases hE.imm b (bi b l) with j | j
      · exact .inr (.inl j)
      · exact .inr (.inr j)
    · exact .inr (.inr (Nat.le_trans hE.size l))
  have bg : Zv w w':=hE.big;have az : qbp w w':=hE.loops
  have cj : Ext w Z inj st.hp w' Z3 r bd st.nx:=by
    refine ⟨hE.size,fun b l j=>keep b l (fun u=>(aj.imm b u).elim j (fun h4=>q6)),?_,bg,az,hZ,?_,aa,hE.tape,hE.os,hE.output,hE.frz⟩
    · rintro b ⟨m,blk,o,g1,g2,g3⟩;rcases hb.old m blk g1 with g4 | ⟨g4,_⟩
      · exact dc b ⟨m,blk,o,g4,g2,hR m blk g4 _ g3⟩
      · exact .inl ⟨m,blk,o,g4,g2,by rw [← aa m (h.heap.blk m blk g4).1];exact g3⟩
    · intro b hz;rcases ca b hz with l | l | l
      · exact .inl l
      · exact .inr ((aj.imm b l).imp (fun x=>x) (fun x=>x))
      · exact .inr (.inr l)
  have hH : RelH w' Z3 r bd an:=by
    refine ⟨fun m b bn=>?_,fun m n b c p q l j u h4 h5 h6 ck=>?_,fun m b p l j u hz=>?_,ac.heap.zs,ac.heap.zc⟩
    · rcases hb.old m b bn with g | ⟨g,gi⟩
      · obtain ⟨k1,k2⟩:=ac.heap.blk m b g;refine ⟨k1,qmn k2 (fun n p _ hp=>cd n p hp) k1 fun hp=>?_⟩
        cases hq : r m with
        | none=>rfl
        | some p=>rw [hR m b g p hq] at hp;cases hp
      · obtain ⟨k1,k2⟩:=h.heap.blk m b g;refine ⟨Nat.lt_of_lt_of_le k1 hb.nxs,k2.mono (fun b' hz=>?_) hZ bg (fun n hn=>aa n hn) hb.nxs k1 fun p hp bz=>?_⟩
        · refine keep b' (h.heap.zs b' hz) fun hi=>?_;rcases aj.imm b' hi with l | l
          · exact h.heap.z_im hz l
          · have:=h.heap.zs b' hz;omega
        · exact keep _ (h.heap.im_lt ⟨m,b,p.2,g,bz,hp⟩) (aq m b p g bz hp gi)
    · have ao : ∀ (m n : Nat) (b c : Blk) (p q : Nat × Nat),find am m = some b→live b = true→r m = some p→find st.hp n = some c→live c = true→r n = some q→(∀ i,i < k→ρ i≠n)→p.1≠q.1:=by
        intro m n b c p q l u h5 j h4 h6 hn e;have hq : inj n = some q:=by rw [← aa n (h.heap.blk n c j).1];exact h6
        have df:=h.heap.im_lt (b:=q.1) ⟨n,c,q.2,j,h4,hq⟩;rcases ai.imm p.1 ⟨m,b,p.2,l,u,hR m b l p h5⟩ with g1 | g1
        · rcases hE.imm p.1 (bi _ g1) with g2 | g2
          · exact aq n c q j h4 hq hn (e ▸ g2)
          · omega
        · have:=hE.size;omega
      rcases hb.old m b l with g | ⟨g,gi⟩ <;> rcases hb.old n c j with g' | ⟨g',da⟩
      · exact ac.heap.sep m n b c p q g g' u h4 (hR m b g p h5) (hR n c g' q h6) ck
      · exact ao m n b c p q g u h5 g' h4 h6 da
      · exact fun e=>ao n m c b q p g' h4 h6 g u h5 gi e.symm
      · exact h.heap.sep m n b c p q g g' u h4 (by rw [← aa m (h.heap.blk m b g).1];exact h5) (by rw [← aa n (h.heap.blk n c g').1];exact h6) ck
    · rcases hb.old m b l with g | ⟨g,gi⟩
      · exact ac.heap.out m b p g j (hR m b g p u) hz
      · have hq : inj m = some p:=by rw [← aa m (h.heap.blk m b g).1];exact u
        rcases ca p.1 hz with h4 | h4 | h4
        · exact h.heap.out m b p g j hq h4
        · exact aq m b p g j hq gi h4
        · have:=h.heap.im_lt (b:=p.1) ⟨m,b,p.2,g,j,hq⟩;omega
  exact hK _ _ (q3q h bm cj hH hb.nxs (q9s cv fun n p _ hp=>cd n p hp) hd)
theorem q11v {c : Call} {f : FuncId} {b : List V} {v : V} {hp' : List (Nat × Blk)} {nx' : Nat} (d : Qx ops st o = some true) (g : o.op = .call c) (h : callee st c = some (f,b)) (a : Jm P f b st.hp st.nx v hp' nx') :
    Jo P base ops o st ({sl:=st.sl,hp:=hp',nx:=nx' : AS}.putD o.dst v):=qrn d g h a
inductive Zn (P : Program) (base : Nat) (ops : Array Oper) : List Oper→AS→AS→Prop
  | nil {st : AS} : Zn P base ops [] st st
  | cons {o : Oper} {l : List Oper} {st st1 st2 : AS} : Jo P base ops o st st1→Zn P base ops l st1 st2→Zn P base ops (o::l) st st2
  | wk {ρ : Nat→Nat} {fz ph : List Nat} {l : List Oper} {st st1 st2 : AS} : Wk base ρ fz ph st st1→Zn P base ops l st1 st2→Zn P base ops l st st2
inductive Jn (P : Program) (base : Nat) (ops : Array Oper) (F : List Fp) : List Oper→AS→AS→Prop
  | nil {st : AS} : Jn P base ops F [] st st
  | cons {o : Oper} {l : List Oper} {st st1 st2 : AS} : Jq P ops o (fpAt F l.length) st st1→Jn P base ops F l st1 st2→Jn P base ops F (o::l) st st2
  | piv {o : Oper} {l : List Oper} {st st1 st2 : AS} : Ud (fpAt F l.length) = true→Zn P base ops [o] st st1→Jn P base ops F l st1 st2→Jn P base ops F (o::l) st st2
def q15 (P : Program) (base : Nat) (ops : Array Oper) (dr : Dr) (l : List Oper) (st st' : AS) : Prop:=match dr with
  | none=>Zn P base ops l st st'
  | some F=>Jn P base ops F l st st'
theorem qik {F : List Fp} : ∀ {l : List Oper} {st st' : AS},Jn P base ops F l st st'→∃ (n : Nat) (S : Nat→AS),n≤l.length∧S 0 = st∧(∀ i o,i < n→l[i]? = some o→Jq P ops o (fpAt F (l.length - (i + 1))) (S i) (S (i + 1)))∧
    ((n = l.length∧S n = st')∨∃ o st1,l[n]? = some o∧Ud (fpAt F (l.length - (n + 1))) = true∧Zn P base ops [o] (S n) st1∧Jn P base ops F (l.drop (n + 1)) st1 st')
  | [],st,st',h=>by cases h;exact ⟨0,fun _=>st,Nat.le_refl _,rfl,fun i o h=>q6,.inl ⟨rfl,rfl⟩⟩
  | o::l,st,st',h=>by
    cases h with
    | @cons _ _ _ st1 _ h1 h2=>
      obtain ⟨n,S,p,j,hs,a⟩:=qik h2
      refine ⟨n + 1,fun i=>match i with | 0=>st | i + 1=>S i,by simp;omega,rfl,fun i d hi f=>?_,?_⟩
      · cases i with
        | zero=>simp at f;subst f;simp only [j,List.length_cons,Nat.zero_add,Nat.add_sub_cancel];exact h1
        | succ i=>
          have:=hs i d q6 (by simpa using f)
          simp only [List.length_cons]
          rw [show l.length + 1 - (i + 1 + 1) = l.length - (i + 1) by omega]
          exact this
      · rcases a with ⟨b,c⟩ | ⟨d,m,b,c,k,g⟩
        · exact .inl ⟨by simp [b],c⟩
        · refine .inr ⟨d,m,by simpa using b,?_,k,by simpa using g⟩
          rw [List.length_cons,show l.length + 1 - (n + 1 + 1) = l.length - (n + 1) by omega]
          exact c
    | @piv _ _ _ st1 _ h1 h2 b=>exact ⟨0,fun _=>st,Nat.zero_le _,rfl,fun i o h=>q6,.inr ⟨o,st1,rfl,by simpa using h1,h2,by simpa using b⟩⟩
theorem qpk {dr : Dr} {l : List Oper} {st2 : AS} (a : Qx ops st o = some false) (h : q15 P base ops dr l (st.putD o.dst (.d (.tup []))) st2) : q15 P base ops dr (o::l) st st2:=by
  cases dr with
  | none=>exact .cons (qk7 a) h
  | some F=>exact .cons ((q11u a).mono (qjt _)) h
theorem qpi {dr : Dr} {l : List Oper} {st2 : AS} {v : V} (d : Z4 P T) (b : Qx ops st o = some true) (c : opFn T st o.op = some (v,st1)) (a : okO dr l.length st o.op st1 = true) (h : q15 P base ops dr l (st1.putD o.dst v) st2) : q15 P base ops dr (o::l) st st2:=by
  cases dr with
  | none=>exact .cons (qfj d b c) h
  | some F=>
    simp only [okO,Bool.and_eq_true] at a;exact .cons ((q11s d b c a.2).mono a.1) h
theorem qpj {dr : Dr} {l : List Oper} {st2 : AS} {n es : Nat} {xs : List (List DV)} {hp2 : List (Nat × Blk)} (j : Z4 P T) (a : Qx ops st o = some true) (g : opFn T st o.op = some (.hs n es 0 xs.length,st1)) (b : n = st.nx∧st1.nx = n + 1) (c : st1.hp = (n,.dat es xs)::hp2) (f : find hp2 n = none) (k : okF dr l.length (fp st o.op) = true)
    (h : q15 P base ops dr l (({sl:=st1.sl,hp:=hp2,nx:=st1.nx} : AS).putD o.dst (.d (.sl es xs))) st2) : q15 P base ops dr (o::l) st st2:=by
  cases dr with
  | none=>exact .cons (qro j a g (Nat.le_of_eq b.1.symm) c f) h
  | some F=>exact .cons ((q11t j a g b c f).mono k) h
theorem qph {dr : Dr} {l : List Oper} {st2 : AS} {c : Call} {f : FuncId} {k : List V} {ds : List DV} {v : V} {hp' : List (Nat × Blk)} {nx' : Nat} {p r : DV} (n : Qx ops st o = some true) (q : o.op = .call c) (m : callee st c = some (f,k))
    (g : Ku st.hp k = some ds) (a : Jm P f (ds.map .d) [] 0 v hp' nx') (b : toD hp' 8 v = some p) (j : DLe p r) (hs : k.all V.isD = true∨r.scalar = true) (s : okF dr l.length (fpC k) = true) (h : q15 P base ops dr l (st.putD o.dst (.d r)) st2) : q15 P base ops dr (o::l) st st2:=by
  cases dr with
  | none=>exact .cons (qk6 n q m g a b j hs) h
  | some F=>exact .cons ((q11r n q m g a b j hs).mono s) h
def Adm (ops : Array Oper) (S : Nat→Prop) : Prop:=∀ j o,S j→ops[j]? = some o→∀ e∈o.after,Region.binds .any e = true→S e.on
def Behind (ops : Array Oper) (o : Oper) (j : Nat) : Prop:=∀ S : Nat→Prop,Adm ops S→(∀ e∈o.after,Region.binds .any e = true→S e.on)→S j
theorem ql1 (acc : List Nat) (j : Nat) : ∀ (l : List Edge) (s : Nat),(l.foldl (fun s e=>if Region.binds .any e then s ||| 2 ^ e.on ||| acc.getD e.on 0 else s) s).testBit j = true→
    s.testBit j = true∨∃ e∈l,Region.binds .any e = true∧(e.on = j∨(acc.getD e.on 0).testBit j = true)
  | [],s,h=>.inl h
  | e::l,s,h=>by
    simp only [List.foldl_cons] at h
    rcases ql1 acc j l _ h with h | ⟨a,c,d,b⟩
    · by_cases hb : Region.binds .any e = true
      · simp only [hb,if_true,Nat.testBit_or,Bool.or_eq_true,Nat.testBit_two_pow] at h
        rcases h with (h | h) | h
        · exact .inl h
        · exact .inr ⟨e,qf,hb,.inl (by simpa using h)⟩
        · exact .inr ⟨e,qf,hb,.inr h⟩
      · simp only [hb] at h;exact .inl (by simpa using h)
    · exact .inr ⟨a,List.mem_cons_of_mem _ c,d,b⟩
theorem ql2 : ∀ (r : List Oper) (pre : List Oper) (acc : List Nat),ops.toList = pre ++ r→acc.length = pre.length→
    (∀ (i m : Nat),acc[i]? = some m→∃ o,ops[i]? = some o∧∀ j,m.testBit j = true→Behind ops o j)→
    (masks acc r).length = ops.size∧∀ (i m : Nat),(masks acc r)[i]? = some m→∃ o,ops[i]? = some o∧∀ j,m.testBit j = true→Behind ops o j
  | [],pre,acc,h,hl,ha=>by
    refine ⟨?_,ha⟩
    have:=congrArg List.length h
    simp at this
    simp [masks,hl,this]
  | o::r,pre,acc,h,hl,ha=>by
    refine ql2 r (pre ++ [o]) (acc ++ [ql0 acc o]) (by rw [h];simp) (by simp [hl]) ?_
    intro i m b
    by_cases hi : i < acc.length
    · rw [List.getElem?_append_left hi] at b;exact ha i m b
    · rw [List.getElem?_append_right q6] at b
      have d : i = acc.length:=by
        have:=Kg b;simp at this;omega
      subst d
      simp at b;subst b
      refine ⟨o,by rw [← Array.getElem?_toList,h,hl];simp,fun j t S n p=>?_⟩
      rcases ql1 acc j _ _ t with q | ⟨e,u,v,a⟩
      · simp at q
      · have c:=p e (by simpa using u) v
        rcases a with a | a
        · exact a ▸ c
        · rw [List.getD_eq_getElem?_getD] at a
          cases f : acc[e.on]? with
          | none=>rw [f] at a;simp at a
          | some m'=>
            rw [f] at a;obtain ⟨w,l,hb⟩:=ha _ _ f;exact hb j a S n (fun s g k=>n _ _ c l s g k)
theorem qj8 : ∀ (l : List Oper) (n : Nat),qc6 n l = true→∀ i o,l[i]? = some o→∀ e∈o.after,Region.binds .any e = true→e.on < n + i
  | [],_,_,i,o,h=>by simp at h
  | x::l,n,h,i,o,ho=>by
    simp only [qc6,Bool.and_eq_true,List.all_eq_true] at h
    cases i with
    | zero=>
      simp at ho;subst ho
      intro e a hb
      have:=h.1 e (by simpa using a)
      simp [hb] at this
      exact this
    | succ i=>
      intro e a hb
      have:=qj8 l (n + 1) h.2 i o (by simpa using ho) e a hb
      omega
structure q8c (x y : Fp) : Prop where
  ww : ∀ m∈x.2,m ∉ y.2
  rw : ∀ m∈y.2,match x.1 with | none=>False | some r=>m ∉ r
  wr : ∀ m∈x.2,match y.1 with | none=>False | some r=>m ∉ r
theorem qeg {a b : List Nat} (h : q8f a b = true) : ∀ m∈a,m ∉ b:=fun m c hb=>by
  simp only [q8f,List.all_eq_true] at h
  have:=h m c
  rw [ql4 hb] at this;cases this
theorem qov {x y : Fp} (h : qef x y = true) : q8c x y:=by
  simp only [qef,Bool.and_eq_true] at h;obtain ⟨⟨f,c⟩,b⟩:=h;refine ⟨qeg f,fun m a=>?_,fun m a=>?_⟩
  · revert c
    cases x.1 with
    | none=>intro c;rw [List.isEmpty_iff] at c;rw [c] at a;cases a
    | some r=>intro c d;exact qeg c m d a
  · revert b
    cases y.1 with
    | none=>intro b;rw [List.isEmpty_iff] at b;rw [b] at a;cases a
    | some r=>intro b d;exact qeg b m d a
structure q8d (F : List Fp) (ops : Array Oper) : Prop where
  edges : ∀ j o,ops[j]? = some o→∀ e∈o.after,Region.binds .any e = true→e.on < j
  pairs : ∀ i j a b,i < j→ops[i]? = some a→ops[j]? = some b→Behind ops b i∨(q8c (fpAt F (ops.size - (i + 1))) (fpAt F (ops.size - (j + 1)))∧(∀ t∈reads ops a,b.dst≠some t)∧(∀ t∈reads ops b,a.dst≠some t)∧∀ t,a.dst = some t→b.dst≠some t)
  pivs : ∀ i j a b,i < j→ops[i]? = some a→ops[j]? = some b→(Ud (fpAt F (ops.size - (i + 1))) = true∨Ud (fpAt F (ops.size - (j + 1))) = true)→Behind ops b i
theorem qop {α : Type} {l : List α} {i : Nat} {x : α} (h : l[i]? = some x) : (x,i)∈l.zipIdx:=by grind
theorem qf6 {o : Oper} {t : Tmp} : q8s o t = true↔o.dst = some t:=by
  unfold q8s
  cases o.dst with
  | none=>simp
  | some d=>simp
theorem qqq {F : List Fp} (h : q8r F ops = true) : q8d F ops:=by
  simp only [q8r,Bool.and_eq_true,List.all_eq_true] at h;obtain ⟨u,r⟩:=h;obtain ⟨v,w⟩:=ql2 (ops:=ops) ops.toList [] [] rfl rfl qf;have d : ∀ (i : Nat) (o : Oper),ops[i]? = some o→ops.toList[i]? = some o:=fun i o l=>by rw [Array.getElem?_toList];exact l
  have main : ∀ i j a b,i < j→ops[i]? = some a→ops[j]? = some b→Behind ops b i∨((Ud (fpAt F (ops.size - (i + 1))) = false∧Ud (fpAt F (ops.size - (j + 1))) = false)∧(q8c (fpAt F (ops.size - (i + 1))) (fpAt F (ops.size - (j + 1)))∧(∀ t∈reads ops a,b.dst≠some t)∧(∀ t∈reads ops b,a.dst≠some t)∧∀ t,a.dst = some t→b.dst≠some t)):=fun i j a b c k hb=>by
    have:=r _ (qop (d j b hb)) _ (qop (d i a k));simp only [Bool.or_eq_true] at this;rcases this with (h | h) | h
    · have s : Nat.blt i j = true:=by rw [Nat.blt_eq];exact c
      grind
    · grind
    · right;simp only [Bool.and_eq_true,Bool.not_eq_true'] at h;obtain ⟨⟨⟨hp1,hp2⟩,h⟩,n⟩:=h;simp only [qi1,Bool.and_eq_true,List.all_eq_true,Bool.not_eq_true'] at h;obtain ⟨⟨q,m⟩,g⟩:=h;refine ⟨⟨hp1,hp2⟩,qov n,fun t f hd=>?_,fun t f hd=>?_,fun t f hd=>?_⟩
      · have:=q t f;rw [qf6.2 hd] at this;cases this
      · have:=m t f;rw [qf6.2 hd] at this;cases this
      · rw [f] at g;simp only at g;rw [qf6.2 hd] at g;simp at g
  refine ⟨fun j o l e p hb=>?_,fun i j a b c k hb=>(main i j a b c k hb).imp id And.right,fun i j a b c k hb hp=>?_⟩
  · have:=qj8 _ 0 u j o (d j o l) e p hb;omega
  grind
end
end Go.Am
namespace Go.Am
open Go
variable {P : Program}
section
variable {base : Nat} {ops : Array Oper}
theorem qfi {l : Array Bool} {i : Nat} : l.getD i false = true↔l[i]? = some true:=by
  rw [Array.getD_eq_getD_getElem?];cases l[i]? <;> simp
theorem qca {l : Array Bool} {i : Nat} : l.getD i true = false↔l[i]? = some false:=by
  rw [Array.getD_eq_getD_getElem?];cases l[i]? <;> simp
theorem qwa {w : World} {Z : Nat→Prop} {inj : Inj} {hp hp2 : List (Nat × Blk)} {nx : Nat} (h : RelH w Z inj hp nx) (hs : ∀ m,find hp2 m = find hp m) : RelH w Z inj hp2 nx:=by
  refine ⟨fun n b hb=>h.blk n b (by rw [← hs];exact hb),fun n m b c p q a d=>h.sep n m b c p q (by rw [← hs];exact a) (by rw [← hs];exact d),fun n b p a=>h.out n b p (by rw [← hs];exact a),h.zs,h.zc⟩
theorem qr6 {w w' : World} {Z Z' : Nat→Prop} {inj inj' : Inj} {hp hp' hp2 : List (Nat × Blk)} {pin : Nat} (h : Ext w Z inj hp w' Z' inj' hp' pin) (hs : ∀ m,find hp2 m = find hp' m) : Ext w Z inj hp w' Z' inj' hp2 pin:=
  {h with imm:=fun b hb=>h.imm b (by
      obtain ⟨n,c,o,d,f,a⟩:=hb
      exact ⟨n,c,o,by rw [← hs];exact d,f,a⟩)}
abbrev fpO (F : List Fp) (ops : Array Oper) (i : Nat) : Fp:=fpAt F (ops.size - (i + 1))
def CutS (ops : Array Oper) (listed : Array Bool) (t : Tmp) (m : Nat) : Prop:=∀ (i : Nat) (o : Oper),ops[i]? = some o→o.dst = some t→(listed[i]? = some true↔i < m)
def CutB (F : List Fp) (ops : Array Oper) (listed : Array Bool) (q m : Nat) : Prop:=∀ (i : Nat) (o : Oper),ops[i]? = some o→q∈(fpO F ops i).2→(listed[i]? = some true↔i < m)
structure Mid (F : List Fp) (ops : Array Oper) (S : Nat→AS) (lo hi : Nat) (listed : Array Bool) (st : AS) : Prop where
  nx : st.nx = (S hi).nx
  sl : ∀ t m,lo≤m→m≤hi→CutS ops listed t m→st.get t = (S m).get t
  hp : ∀ q m,lo≤m→m≤hi→CutB F ops listed q m→find st.hp q = find (S m).hp q
abbrev Steps (P : Program) (F : List Fp) (ops : Array Oper) (S : Nat→AS) (lo hi : Nat) : Prop:=∀ (i : Nat) (o : Oper),lo≤i→i < hi→ops[i]? = some o→Jq P ops o (fpO F ops i) (S i) (S (i + 1))
theorem qem {F : List Fp} {S : Nat→AS} {lo hi : Nat} (a : hi≤ops.size) (d : Steps P F ops S lo hi) {t : Tmp} {j : Nat} (b : lo≤j) : ∀ m,j≤m→m≤hi→(∀ (i : Nat) (o : Oper),j≤i→i < m→ops[i]? = some o→o.dst≠some t)→(S m).get t = (S j).get t
  | 0,h,_,_=>by have : j = 0:=q6;subst this;rfl
  | m + 1,h,hm,hno=>by
    by_cases f : j = m + 1
    · subst f;rfl
    · obtain ⟨o,c⟩:=Yd (xs:=ops) (i:=m) q6
      rw [(d m o q6 q6 c).sl t (hno m o q6 q6 c)]
      exact qem a d b m q6 q6 fun i o g k=>hno i o g q6
theorem qel {F : List Fp} {S : Nat→AS} {lo hi : Nat} (a : hi≤ops.size) (d : Steps P F ops S lo hi) {q j : Nat} (b : lo≤j) : ∀ m,j≤m→m≤hi→(∀ (i : Nat) (o : Oper),j≤i→i < m→ops[i]? = some o→q ∉ (fpO F ops i).2)→find (S m).hp q = find (S j).hp q
  | 0,h,_,_=>by have : j = 0:=q6;subst this;rfl
  | m + 1,h,hm,hno=>by
    by_cases f : j = m + 1
    · subst f;rfl
    · obtain ⟨o,c⟩:=Yd (xs:=ops) (i:=m) q6
      rw [(d m o q6 q6 c).hp q (hno m o q6 q6 c)]
      exact qel a d b m q6 q6 fun i o g k=>hno i o g q6
theorem q1q {F : List Fp} {S : Nat→AS} {lo hi : Nat} (a : hi≤ops.size) (c : Steps P F ops S lo hi) {j : Nat} (b : lo≤j) : ∀ m,j≤m→m≤hi→(S j).nx≤(S m).nx
  | 0,h,_=>by have : j = 0:=q6;subst this;exact Nat.le_refl _
  | m + 1,h,hm=>by
    by_cases f : j = m + 1
    · subst f;exact Nat.le_refl _
    · obtain ⟨o,d⟩:=Yd (xs:=ops) (i:=m) q6
      exact Nat.le_trans (q1q a c b m q6 q6) (c m o q6 q6 d).nx
theorem qkr {F : List Fp} {S : Nat→AS} {lo hi : Nat} (a : hi≤ops.size) (c : Steps P F ops S lo hi) (b : ∀ q,(S lo).nx≤q→find (S lo).hp q = none) : ∀ m,lo≤m→m≤hi→∀ q,(S m).nx≤q→find (S m).hp q = none
  | 0,hl,_,q,hq=>by have : lo = 0:=q6;subst this;exact b q hq
  | m + 1,hl,hm,q,hq=>by
    by_cases d : lo = m + 1
    · subst d;exact b q hq
    obtain ⟨o,f⟩:=Yd (xs:=ops) (i:=m) q6
    have hs:=c m o q6 q6 f
    exact hs.keys q hq (qkr a c b m q6 q6 q (Nat.le_trans hs.nx hq))
def Keep (ops : Array Oper) (S : Nat→AS) (lo hi : Nat) (base : Nat) (w0 : World) (Z0 : Nat→Prop) (inj0 : Inj) (hp0 : List (Nat × Blk)) (a0 : Act) (Ds0 : List Nat) (listed : Array Bool) (st : AS) (a : Act) (w : World) : Prop:=
  ∃ Z inj Ds,RelS w Z inj st a Ds∧Ext w0 Z0 inj0 hp0 w Z inj st.hp base∧a.tmps.size = a0.tmps.size∧(∀ D∈Ds,D∈Ds0∨w0.heap.size≤D)∧
    ∀ (i : Nat) (o : Oper),lo≤i→i < hi→ops[i]? = some o→listed[i]?≠some true→∀ m,(S i).nx≤m→m < (S (i + 1)).nx→inj m = none
theorem qj1 {l : Array Bool} {i : Nat} {n : Nat} (hi : l[i]? = some false) (b : l.toList.count false = n + 1) : (l.setIfInBounds i true).toList.count false = n:=by
  have a : i < l.toList.length:=by simpa using Zj hi
  rw [Array.toList_setIfInBounds,List.count_set a]
  have : l.toList[i] = false:=by
    have:=hi;rw [← Array.getElem?_toList,List.getElem?_eq_getElem a] at this;simpa using this
  simp [this,b]
theorem qmh {F : List Fp} (l : q8d F ops) {listed : Array Bool} (f : listed.size = ops.size) : ∀ (n i : Nat),i = n→listed[i]? = some false→Region.ready .any ops listed≠[]:=by
  intro n
  induction n using Nat.strongRecOn with
  | _ n ihn=>
    intro i h hi;subst h;obtain ⟨o,k⟩:=Yd (xs:=ops) (i:=i) (by rw [← f];exact Zj hi);by_cases a : ∀ e∈o.after,Region.binds .any e = true→listed.getD e.on false = true
    · intro c;have : i∈Region.ready .any ops listed:=mem_ready.2 ⟨qca.2 hi,o,k,a⟩;rw [c] at this;cases this
    · simp only [Classical.not_forall] at a;obtain ⟨e,m,hb,g⟩:=a;have j:=l.edges i o k e m hb;obtain ⟨b,d⟩:=Yd (xs:=listed) (i:=e.on) (by have:=Zj hi;omega)
      cases b with
      | true=>exact absurd (qfi.2 d) g
      | false=>exact ihn e.on j e.on rfl d
theorem qhw {listed : Array Bool} {i : Nat} {o : Oper} (f : Adm ops (fun i=>listed[i]? = some true)) (k : ops[i]? = some o) (m : listed[i]? = some false) (c : ∀ e∈o.after,Region.binds .any e = true→listed[e.on]? = some true) :
    (∀ (j : Nat),(listed.setIfInBounds i true)[j]? = some true↔(j = i∨listed[j]? = some true))∧Adm ops (fun j=>(listed.setIfInBounds i true)[j]? = some true):=by
  have a : ∀ (j : Nat),(listed.setIfInBounds i true)[j]? = some true↔(j = i∨listed[j]? = some true):=by
    intro j;by_cases d : j = i
    · subst d;simp [Zj m]
    · rw [Array.getElem?_setIfInBounds_ne (Ne.symm d)];simp [d]
  refine ⟨a,?_⟩;intro j l g b e h hb;rw [a] at g ⊢;rcases g with rfl | g
  · rw [k] at b;cases b;exact .inr (c e h hb)
  · exact .inr (f j l g b e h hb)
theorem qqs {F : List Fp} {S : Nat→AS} {lo hi : Nat} (bb : lo≤hi) (aa : hi≤ops.size) (hD : q8d F ops) (hS : Steps P F ops S lo hi) (bc : ∀ (i j : Nat) (d : Oper),i < hi→hi≤j→ops[j]? = some d→Behind ops d i) (h0 : ∀ q,(S lo).nx≤q→find (S lo).hp q = none)
    {w0 : World} {Z0 : Nat→Prop} {inj0 : Inj} {hp0 : List (Nat × Blk)} {a0 : Act} {Ds0 : List Nat} {ro : Option Nat} {Q : Exit→Act→World→Prop} (bm : base≤(S lo).nx)
    (hd : ∀ (i : Nat) (o : Oper),ops[i]? = some o→J7 a0.tmps.size o.dst = true)
    (hQ : ∀ (fuel : Nat) (listed : Array Bool) (a' : Act) (w' : World),listed.size = ops.size→listed.toList.count false = fuel→Adm ops (fun i=>listed[i]? = some true)→(∀ (i : Nat),listed[i]? = some true↔i < hi)→
      (∃ Z inj Ds,RelS w' Z inj (S hi) a' Ds∧Ext w0 Z0 inj0 hp0 w' Z inj (S hi).hp base∧a'.tmps.size = a0.tmps.size∧base≤(S hi).nx∧(∀ D∈Ds,D∈Ds0∨w0.heap.size≤D))→Yj ro w'→wpAnyIn (Fw ro) 0 P .any ops Q fuel listed a' w') : ∀ (fuel : Nat) (listed : Array Bool) (a : Act) (w : World) (st : AS),
      listed.size = ops.size→listed.toList.count false = fuel→Adm ops (fun i=>listed[i]? = some true)→(∀ (i : Nat),i < lo→listed[i]? = some true)→(∀ (i : Nat),hi≤i→listed[i]?≠some true)→Keep ops S lo hi base w0 Z0 inj0 hp0 a0 Ds0 listed st a w→Yj ro w→Mid F ops S lo hi listed st→
      wpAnyIn (Fw ro) 0 P .any ops Q fuel listed a w:=by
  have fin : ∀ (fuel : Nat) (listed : Array Bool) (a : Act) (w : World) (st : AS),
      listed.size = ops.size→listed.toList.count false = fuel→Adm ops (fun i=>listed[i]? = some true)→(∀ (i : Nat),i < lo→listed[i]? = some true)→(∀ (i : Nat),hi≤i→listed[i]?≠some true)→Keep ops S lo hi base w0 Z0 inj0 hp0 a0 Ds0 listed st a w→Yj ro w→Mid F ops S lo hi listed st→
      (∀ (i : Nat),lo≤i→i < hi→listed[i]? = some true)→wpAnyIn (Fw ro) 0 P .any ops Q fuel listed a w:=by
    intro fuel listed a w st ah hc n y aj hp ae g ac
    have al : ∀ (i : Nat),listed[i]? = some true↔i < hi:=fun i=>⟨fun h=>by
      rcases Nat.lt_or_ge i hi with z | z
      · exact z
      · exact absurd h (aj i z),fun h=>by
      rcases Nat.lt_or_ge i lo with z | z
      · exact y i z
      · exact ac i z h⟩
    refine hQ fuel listed a w ah hc n al ?_ ae
    obtain ⟨Z,inj,Ds,z,h2,h3,h4,_⟩:=hp
    have bx : ∀ q,find (S hi).hp q = find st.hp q:=fun q=>(g.hp q hi bb (Nat.le_refl _) fun i o ho _=>al i).symm
    refine ⟨Z,inj,Ds,⟨fun t v ht=>?_,?_,z.defs,z.nodup,z.marks⟩,qr6 h2 bx,h3,Nat.le_trans bm (q1q aa hS (Nat.le_refl _) _ bb (Nat.le_refl _)),h4⟩
    · rw [← g.nx]
      refine z.slots t v ?_
      have:=g.sl t hi bb (Nat.le_refl _) fun i o ho _=>al i
      exact this.trans ht
    · rw [← g.nx];exact qwa z.heap bx
  intro fuel
  induction fuel with
  | zero=>
    intro listed a w st ah hc n y aj hp ae g;refine fin 0 listed a w st ah hc n y aj hp ae g fun i _ hi=>?_;have h:=List.count_eq_zero.1 hc;obtain ⟨b,hb⟩:=Yd (xs:=listed) (i:=i) q6
    cases b with
    | true=>exact hb
    | false=>exact absurd (by simpa using Array.mem_of_getElem? hb) h
  | succ fuel ih=>
    intro listed a w st ah hc n y aj hp ae g;by_cases ac : ∀ (i : Nat),lo≤i→i < hi→listed[i]? = some true
    · exact fin _ listed a w st ah hc n y aj hp ae g ac
    have bf : ∃ k : Nat,(lo≤k∧k < hi)∧listed[k]? = some false:=by
      simp only [Classical.not_forall] at ac;obtain ⟨k,z,h2,h3⟩:=ac;obtain ⟨b,hb⟩:=Yd (xs:=listed) (i:=k) q6
      cases b with
      | true=>exact absurd hb h3
      | false=>exact ⟨k,⟨z,h2⟩,hb⟩
    obtain ⟨k0,⟨dc,ch⟩,br⟩:=bf;refine ⟨fun bq=>?_,fun i cr=>?_⟩
    · exact absurd bq (qmh hD ah k0 k0 rfl br)
    · obtain ⟨z,o,ho,bi⟩:=mem_ready.1 cr;rw [qca] at z;have ak : ∀ e∈o.after,Region.binds .any e = true→(fun i=>listed[i]? = some true) e.on:=fun e he hb=>qfi.1 (bi e he hb);have ax : ∀ j,Behind ops o j→listed[j]? = some true:=fun j hb=>hb _ n ak;have x : lo≤i:=Nat.le_of_not_lt fun h=>by have:=y i h;rw [z] at this;cases this
      have ay : i < hi:=Nat.lt_of_not_le fun h=>by
        have:=ax k0 (bc k0 i o ch h ho);rw [br] at this;cases this
      have aw : ∀ (j : Nat) (d : Oper),ops[j]? = some d→Behind ops d i→listed[j]?≠some true:=by
        intro j d c hb hj;have:=hb (fun i=>listed[i]? = some true) n (fun e he cf=>n j d hj c e he cf);rw [z] at this;cases this
      obtain ⟨l,bj⟩:=qhw n ho z ak;have bv : (listed.setIfInBounds i true).size = ops.size:=by simp [ah]
      have cj:=qj1 z hc;have cz : i < ops.size:=Zj ho;have ba : listed[i]?≠some true:=by rw [z];simp
      have s : ∀ (j : Nat) (d : Oper),ops[j]? = some d→j≠i→(listed[j]? = some true↔j < i)∨(q8c (fpO F ops i) (fpO F ops j)∧(∀ t∈reads ops o,d.dst≠some t)∧∀ t,o.dst = some t→d.dst≠some t):=by
        intro j d c f;rcases Nat.lt_or_gt_of_ne f with h | h
        · rcases hD.pairs j i d o h c ho with hb | ⟨ha,h2,h3,h4⟩
          · exact .inl ⟨fun _=>h,fun _=>ax j hb⟩
          · exact .inr ⟨⟨fun m h5 h6=>ha.ww m h6 h5,ha.wr,ha.rw⟩,h3,fun t h5 h6=>h4 t h6 h5⟩
        · rcases hD.pairs i j o d h ho c with hb | ⟨ha,h2,h3,h4⟩
          · exact .inl ⟨fun p=>absurd p (aw j d c hb),fun p=>q6⟩
          · exact .inr ⟨ha,h2,h4⟩
      have an : ∀ m∈(fpO F ops i).2,find st.hp m = find (S i).hp m:=fun m hm=>by
        refine g.hp m i x q6 fun j d c ab=>?_;by_cases f : j = i
        · subst f;exact ⟨fun p=>absurd p ba,fun p=>absurd p (Nat.lt_irrefl _)⟩
        · rcases s j d c f with h | ⟨ha,_⟩
          · exact h
          · exact absurd ab (ha.ww m hm)
      have ce : Uj ops o (fpO F ops i) (S i) st:=by
        refine ⟨⟨an,?_⟩,fun t ht=>?_⟩
        · have key : ∀ m,(∀ (j : Nat) (d : Oper),ops[j]? = some d→j≠i→q8c (fpO F ops i) (fpO F ops j)→m ∉ (fpO F ops j).2)→find st.hp m = find (S i).hp m:=fun m hm=>by
            by_cases bp : m∈(fpO F ops i).2
            · exact an m bp
            refine g.hp m i x q6 fun j d c ab=>?_;by_cases f : j = i
            · subst f;exact absurd ab bp
            · rcases s j d c f with h | ⟨ha,_⟩
              · exact h
              · exact absurd ab (hm j d c f ha)
          cases hR : (fpO F ops i).1 with
          | none=>exact fun m=>key m fun j d _ _ ha ab=>by have:=ha.rw m ab;rw [hR] at this;exact this
          | some r=>exact fun m ca=>key m fun j d _ _ ha ab=>by have:=ha.rw m ab;rw [hR] at this;exact this ca
        · refine g.sl t i x q6 fun j d c ag=>?_;by_cases f : j = i
          · subst f;exact ⟨fun p=>absurd p ba,fun p=>absurd p (Nat.lt_irrefl _)⟩
          · rcases s j d c f with h | ⟨_,hr,_⟩
            · exact h
            · exact absurd ag (hr t ht)
      have ad:=hS i o x ay ho;have bg : (S (i + 1)).nx≤st.nx:=by rw [g.nx];exact q1q aa hS q6 _ q6 (Nat.le_refl _)
      have bd : ∀ m,(S i).nx≤m→m < (S (i + 1)).nx→find st.hp m = none:=fun m h2 h3=>by
        rw [an m (ad.fresh m h2 h3)];exact qkr aa hS h0 i x q6 m h2
      obtain ⟨ci,bs,bh,ck,co,cn,cg⟩:=ad.other st bg ce bd;refine qhf ho ?_;obtain ⟨Z,inj,Ds,k1,k2,k3,k4,k5⟩:=hp;have cs : base≤(S i).nx:=Nat.le_trans bm (q1q aa hS (Nat.le_refl _) _ x q6);refine bh base ro Q w Z inj a Ds _ k1 (by rw [k3];exact hd i o ho) cs (by have:=ad.nx;omega) ae (k5 i o x ay ho ba) fun a' w' hp'=>?_;obtain ⟨Z',inj',cq,g1,g2,g3,g4,g5⟩:=hp';refine ih _ a' w' ci bv cj bj (fun j hj=>(l j).2 (.inr (y j hj))) (fun j hj p=>?_) ⟨Z',inj',cq,g1,k2.trans g2 (Nat.le_refl _),g3.trans k3,fun D hD=>?_,fun j d be ap c bt m h2 h3=>?_⟩ (ae.ext g2) ⟨bs.trans g.nx,fun t m bk hm u=>?_,fun q m bk hm u=>?_⟩
      · rcases (l j).1 p with rfl | p
        · omega
        · exact aj j hj p
      · rcases g4 D hD with h | h
        · exact k4 D h
        · exact .inr (Nat.le_trans k2.size h)
      · have f : j≠i:=by rintro rfl;exact bt ((l j).2 (.inl rfl))
        have bu : listed[j]?≠some true:=fun e=>bt ((l j).2 (.inr e))
        rw [g5 m (by
          have:=q1q aa hS (j:=j + 1) q6 hi q6 (Nat.le_refl _)
          have:=g.nx;omega) (by
          rcases Nat.lt_or_gt_of_ne f with h | h
          · left;have:=q1q aa hS (j:=j + 1) q6 i q6 q6;omega
          · right;have:=q1q aa hS (j:=i + 1) q6 j q6 q6;omega)]
        exact k5 j d be ap c bu m h2 h3
      · by_cases ao : o.dst = some t
        · have cd : i < m:=(u i o ho ao).1 ((l i).2 (.inl rfl));rw [co t ao];refine (qem aa hS q6 m q6 hm fun j d be ap c ag=>?_).symm;have p:=(l j).1 ((u j d c ag).2 ap);rcases p with p | p
          · omega
          · rcases s j d c q6 with h | ⟨_,_,hw⟩
            · have:=h.1 p;omega
            · exact hw t ao ag
        · rw [ck t ao];refine g.sl t m bk hm fun j d c ag=>?_;have f : j≠i:=by rintro rfl;rw [ho] at c;cases c;exact ao ag
          rw [← u j d c ag,l];simp [f]
      · by_cases hq : q∈(fpO F ops i).2
        · have cd : i < m:=(u i o ho hq).1 ((l i).2 (.inl rfl));rw [cn q hq];refine (qel aa hS q6 m q6 hm fun j d be ap c am=>?_).symm;have p:=(l j).1 ((u j d c am).2 ap);rcases p with p | p
          · omega
          · rcases s j d c q6 with h | ⟨ha,_⟩
            · have:=h.1 p;omega
            · exact ha.ww q hq am
        · rw [cg q hq];refine g.hp q m bk hm fun j d c am=>?_;have f : j≠i:=by rintro rfl;exact hq am
          rw [← u j d c am,l];simp [f]
theorem qwc {w : World} {Z : Nat→Prop} {inj : Inj} {st : AS} {a : Act} {Ds : List Nat} {N : Nat} (h : RelS w Z inj st a Ds) (l : st.nx≤N) : RelS w Z (fun m=>if m < st.nx then inj m else none) {st with nx:=N} a Ds:=by
  have hi : ∀ n,n < st.nx→(fun m=>if m < st.nx then inj m else none) n = inj n:=fun n t=>by simp [t]
  have g : Zv w w:=fun _ c e f h=>⟨c,e,f,h,rfl⟩
  refine ⟨h.slots.mono (fun _ _=>rfl) (fun _ h=>h) g hi l,⟨fun n b hb=>?_,fun n m b c p q d k j u r o=>?_,fun n b p d k j=>?_,h.heap.zs,h.heap.zc⟩,h.defs,h.nodup,h.marks⟩
  · obtain ⟨s,v⟩:=h.heap.blk n b hb;exact ⟨Nat.lt_of_lt_of_le s l,v.mono (fun _ _=>rfl) (fun _ h=>h) g hi l s (fun _ _ _=>rfl)⟩
  · rw [qq (h.heap.blk n b d).1] at r;rw [qq (h.heap.blk m c k).1] at o;exact h.heap.sep n m b c p q d k j u r o
  · rw [qq (h.heap.blk n b d).1] at j;exact h.heap.out n b p d k j
theorem qq1 {w0 : World} {Z0 : Nat→Prop} {inj0 : Inj} {c : AS} {g : Act} {Ds0 : List Nat} {l : List Oper} {st st' : AS} (h : Zn P base ops l st st') : l = []→∀ a w,Kx base w0 Z0 inj0 c g Ds0 st a w→Kx base w0 Z0 inj0 c g Ds0 st' a w:=by
  induction h with
  | nil=>exact fun _ a w hp=>hp
  | cons _ _ _=>intro h;cases h
  | wk hw _ ih=>
    intro o a w hp;refine ih o a w ?_;obtain ⟨Z',inj',f,m,n,j,p,k⟩:=hp;obtain ⟨d,b⟩:=q26 m hw;exact ⟨_,_,f,d,n.trans b (Nat.le_refl _),j,hw.bs,k⟩
theorem qq0 {w0 : World} {Z0 : Nat→Prop} {inj0 : Inj} {m : AS} {p : Act} {Ds0 : List Nat} {ro : Option Nat} {Q : Exit→Act→World→Prop} {K : Act→World→Prop} {l : List Oper} {st st' : AS} (h : Zn P base ops l st st') : ∀ o,l = [o]→J7 p.tmps.size o.dst = true→∀ a w,Kx base w0 Z0 inj0 m p Ds0 st a w→Yj ro w→
    (∀ a' w',Kx base w0 Z0 inj0 m p Ds0 st' a' w'→Yj ro w'→K a' w')→Ui P (Fw ro) ops Q o K a w:=by
  induction h with
  | nil=>intro o h;cases h
  | cons hs hl _=>
    intro o h hd a w hp c n;simp only [List.cons.injEq] at h;obtain ⟨rfl,rfl⟩:=h;refine hp.bind fun Z' inj' j b f d _ g=>?_;exact hs ro Q w Z' inj' a j _ b (by rw [f];exact hd) d c fun a' w' hp'=>n a' w' (qq1 hl rfl _ _ (g _ _ _ hp')) (by obtain ⟨_,_,_,_,r,_⟩:=hp';exact c.ext r)
  | wk hw _ ih=>
    intro o h hd a w hp c n;refine ih o h hd a w ?_ c n;obtain ⟨Z',inj',j,t,u,s,v,q⟩:=hp;obtain ⟨b,k⟩:=q26 t hw;exact ⟨_,_,j,b,u.trans k (Nat.le_refl _),s,hw.bs,q⟩
theorem qp5 {o p : Oper} {i j : Nat} (d : Behind ops o i) (hp : ops[i]? = some p) (f : Behind ops p j) : Behind ops o j:=fun S a c=>f S a fun e b hb=>a i p (d S a c) hp e b hb
theorem qqr {F : List Fp} (hD : q8d F ops) {w0 : World} {Z0 : Nat→Prop} {inj0 : Inj} {z : AS} {a0 : Act} {Ds0 : List Nat} {ro : Option Nat} {Q : Exit→Act→World→Prop} (hd : ∀ (i : Nat) (o : Oper),ops[i]? = some o→J7 a0.tmps.size o.dst = true) :
    ∀ (n : Nat) (l : List Oper) (lo : Nat) (st st' : AS),l.length = n→ops.toList.drop lo = l→lo≤ops.size→Jn P base ops F l st st'→(∀ a' w',Kx base w0 Z0 inj0 z a0 Ds0 st' a' w'→Q .normal a' w')→∀ (fuel : Nat) (listed : Array Bool) (a : Act) (w : World),
      listed.size = ops.size→listed.toList.count false = fuel→Adm ops (fun i=>listed[i]? = some true)→(∀ (i : Nat),listed[i]? = some true↔i < lo)→Kx base w0 Z0 inj0 z a0 Ds0 st a w→Yj ro w→wpAnyIn (Fw ro) 0 P .any ops Q fuel listed a w:=by
  intro n
  induction n using Nat.strongRecOn with
  | _ n ihn=>
  intro l lo st st' bx ao cd hc hQ fuel listed a w bl bo bb ai hp bk;obtain ⟨k,S,hk,e0,hS,aj⟩:=qik hc;have bv : l.length + lo = ops.size:=by rw [← ao];simp;omega
  have v : ∀ (i : Nat),l[i]? = ops[lo + i]?:=fun i=>by rw [← ao,List.getElem?_drop,Array.getElem?_toList]
  subst e0
  have ac : Steps P F ops (fun i=>S (i - lo)) lo (lo + k):=fun i o u h2 ho=>by
    have:=hS (i - lo) o q6 (by rw [v,show lo + (i - lo) = i by omega];exact ho);rw [show l.length - (i - lo + 1) = ops.size - (i + 1) by omega] at this;show Jq P ops o (fpO F ops i) (S (i - lo)) (S (i + 1 - lo));rw [show i + 1 - lo = i - lo + 1 by omega];exact this
  have an : ∀ (i j : Nat) (oj : Oper),i < lo + k→lo + k≤j→ops[j]? = some oj→Behind ops oj i:=fun i j oj hi hj ag=>by
    rcases aj with ⟨u,_⟩ | ⟨o,st1,u,h2,_,_⟩
    · have:=Zj ag;omega
    · rw [v] at u;rw [show l.length - (k + 1) = ops.size - (lo + k + 1) by omega] at h2;have bn : i < ops.size:=by have:=Zj u;omega
      obtain ⟨oi,ad⟩:=Yd (xs:=ops) (i:=i) bn;have hb:=hD.pivs i (lo + k) oi o hi ad u (.inr h2);by_cases bq : j = lo + k
      · subst bq;rw [u] at ag;cases ag;exact hb
      · exact qp5 (hD.pivs (lo + k) j o oj q6 u ag (.inl h2)) u hb
  obtain ⟨Z,inj,Ds,u,h2,h3,h4,h5⟩:=hp
  have hN : (S 0).nx≤(S k).nx:=by
    have:=q1q q6 ac (Nat.le_refl _) (lo + k) q6 (Nat.le_refl _);simpa using this
  have h0 : ∀ q,(S 0).nx≤q→find (S 0).hp q = none:=fun q hq=>by
    cases hf : find (S 0).hp q with
    | none=>rfl
    | some b=>have:=(u.heap.blk q b hf).1;omega
  have bc : Ext w0 Z0 inj0 z.hp w Z (fun m=>if m < (S 0).nx then inj m else none) (S 0).hp base:=by
    refine {h2 with imm:=fun b bp=>h2.imm b ?_,pinj:=fun n hn=>(qq (show n < (S 0).nx by omega)).trans (h2.pinj n hn)};obtain ⟨n,c,o,s,g2,g3⟩:=bp;refine ⟨n,c,o,s,g2,?_⟩;have:=(u.heap.blk n c s).1;simpa [this] using g3
  have al : ∀ (i : Nat),lo≤i→listed[i]?≠some true:=fun i hi h=>by have:=(ai i).1 h;omega
  refine qqs (lo:=lo) (hi:=lo + k) (S:=fun i=>S (i - lo)) (hp0:=z.hp) (Ds0:=Ds0) q6 q6 hD ac an (by simpa using h0) (by simpa using h4) hd ?_ fuel listed a w {S 0 with nx:=(S k).nx} bl bo bb (fun i hi=>(ai i).2 hi) (fun i hi=>al i q6) ⟨Z,_,Ds,qwc u hN,bc,h3,h5,fun i o y ap ho _ m g2 g3=>?_⟩ bk ⟨qf,fun t m aq hm ab=>?_,fun q m aq hm ab=>?_⟩
  · intro r d a' w' ae aa af f hp' ax
    have hp' : Kx base w0 Z0 inj0 z a0 Ds0 (S k) a' w':=by
      obtain ⟨Z',inj',bm,s,g2,g3,g4,g5⟩:=hp';simp only [Nat.add_sub_cancel_left] at s g2 g4;exact ⟨Z',inj',bm,s,g2,g3,g4,g5⟩
    rcases aj with ⟨e1,e2⟩ | ⟨o,st1,e1,e2,e3,e4⟩
    ·
      subst e2
      have hz : r = 0:=by
        rw [← aa,List.count_eq_zero];intro hm;obtain ⟨i,hi⟩:=List.getElem?_of_mem hm;have ap : d[i]? = some false:=by simpa using hi
        have:=(f i).2 (by have:=Zj ap;omega);rw [ap] at this;cases this
      subst hz;refine ⟨?_,hQ _ _ hp'⟩;rw [List.eq_nil_iff_forall_not_mem];intro j hj;obtain ⟨s,o,ho,_⟩:=mem_ready.1 hj;rw [qca,(f j).2 (by have:=Zj ho;omega)] at s;cases s
    ·
      have p : ops[lo + k]? = some o:=by rw [← v];exact e1
      rw [show l.length - (k + 1) = ops.size - (lo + k + 1) by omega] at e2
      have g : d[lo + k]? = some false:=by
        obtain ⟨b,hb⟩:=Yd (xs:=d) (i:=lo + k) (by rw [ae];exact Zj p)
        cases b with
        | true=>have:=(f _).1 hb;omega
        | false=>exact hb
      cases r with
      | zero=>
        have:=List.count_eq_zero.1 aa;exact absurd (by simpa using Array.mem_of_getElem? g) this
      | succ r=>
        refine ⟨fun az=>absurd az (qmh hD ae _ _ rfl g),fun i hi=>?_⟩;obtain ⟨s,oi,ad,aw⟩:=mem_ready.1 hi;rw [qca] at s;have x : ∀ e∈oi.after,Region.binds .any e = true→d[e.on]? = some true:=fun e he hb=>qfi.1 (aw e he hb)
        have br : i = lo + k:=by
          rcases Nat.lt_trichotomy i (lo + k) with h | h | h
          · have:=(f i).2 h;rw [s] at this;cases this
          · exact h
          · have:=hD.pivs (lo + k) i o oi h p ad (.inl e2) _ af x;rw [g] at this;cases this
        subst br;rw [p] at ad;cases ad;obtain ⟨au,am⟩:=qhw af p s x;refine qhf p ?_;refine qq0 e3 o rfl (hd _ _ p) a' w' hp' ax fun a2 w2 hp2 ba=>?_;refine ihn (l.drop (k + 1)).length (by have:=Zj p;simp;omega) _ (lo + k + 1) st1 st' rfl (by rw [← ao,List.drop_drop,Nat.add_assoc]) (Zj p) e4 hQ _ _ a2 w2 (by simp [ae]) (qj1 s aa) am (fun j=>?_) hp2 ba;rw [au,f];omega
  · have this : (S 0).nx≤(S (i - lo)).nx:=by simpa using q1q q6 ac (Nat.le_refl lo) i y q6
    have co : (S (i - lo)).nx≤m:=g2;exact qp q6
  · have:=qem q6 ac (t:=t) (Nat.le_refl lo) m aq hm fun i o y hi ho bi=>al i y ((ab i o ho bi).2 hi);simp at this ⊢;exact this.symm
  · have:=qel q6 ac (q:=q) (Nat.le_refl lo) m aq hm fun i o y hi ho bj=>al i y ((ab i o ho bj).2 hi);simp at this ⊢;exact this.symm
theorem qw5 {F : List Fp} {id : Nat} {w : World} {Z : Nat→Prop} {inj : Inj} {st st' : AS} {a : Act} {Ds : List Nat} {ro : Option Nat} {Q : Exit→Act→World→Prop} (q : P.follows .mixedOrders = true) (t : q8d F ops) (p : Jn P base ops F ops.toList st st')
    (h : RelS w Z inj st a Ds) (d : codeOk a.tmps.size (.region id ops true) = true) (hb : base≤st.nx) (m : Yj ro w) (s : ∀ a' w',Kx base w Z inj st a Ds st' a' w'→Q .normal a' w') : (Code.region id ops true).wpIn (Fw ro) 0 P Q a w:=by
  refine wpIn_region_any q ?_;have hs : RelS {w with drawn:=w.drawn + 1} Z inj st a Ds:=⟨h.slots.mono (fun _ _=>rfl) (fun _ h=>h) (fun b c e f hb=>⟨c,e,f,hb,rfl⟩) (fun _ _=>rfl) (Nat.le_refl _),h.heap.same rfl,h.defs,h.nodup,h.marks⟩
  have k : ∀ (i : Nat) (o : Oper),ops[i]? = some o→J7 a.tmps.size o.dst = true:=by
    intro i o r;simp only [codeOk,List.all_eq_true] at d;exact d o (by simpa using Array.mem_of_getElem? r)
  have g : ∀ (i : Nat),(Array.replicate ops.size false)[i]?≠some true:=by
    intro i hi;rw [Array.getElem?_replicate] at hi;split at hi <;> simp at hi
  exact qqr t k ops.toList.length ops.toList 0 st st' rfl qf (Nat.zero_le _) p s ops.size _ a _ qf qf (fun j o n _=>absurd n (g j)) (fun i=>⟨fun hi=>absurd hi (g i),fun hi=>q6⟩) ⟨Z,inj,Ds,hs,.same rfl rfl rfl rfl,rfl,hb,fun _ h=>.inl h⟩ (fun l u=>m l u)
end
end Go.Am
namespace Go.Am
open Go
variable {P : Program} {T : Tab}
section
variable {w w' : World} {Z Z' : Nat→Prop} {inj inj' : Inj} {hp hp' : List (Nat × Blk)} {nx nx' pin : Nat}
theorem RelH.grow (h : RelH w Z inj hp nx) (d : ∀ b,b < w.heap.size→w'.heap[b]? = w.heap[b]?) : RelH w' Z inj hp nx:=by
  have hb : Zv w w':=fun b c e f j=>⟨c,e,f,(d b (J6 j)).trans j,rfl⟩
  refine ⟨fun n b k=>?_,h.sep,h.out,?_,?_⟩
  · obtain ⟨l,m⟩:=h.blk n b k;exact ⟨l,m.mono (fun b a=>d b (h.zs b a)) (fun _ h=>h) hb (fun _ _=>rfl) (Nat.le_refl _) l fun p hp o=>d _ (h.im_lt ⟨n,b,p.2,k,o,hp⟩)⟩
  · intro b a;obtain ⟨c,e,f,g⟩:=h.zc b a;have:=d b (h.zs b a);exact J6 (this.trans g)
  · intro b a;obtain ⟨c,e,f,g⟩:=h.zc b a;exact ⟨c,e,f,(d b (h.zs b a)).trans g⟩
theorem Ext.alloc (o : Obj) (a : Unfr o:=by first | exact rfl | exact trivial) : Ext w Z inj hp (w.alloc o) Z inj hp pin:=
  ⟨qf,fun b hb _=>Zw w o hb,fun _ h=>.inl h,q2n w o,qkn w o,fun _ h=>h,fun _ h=>.inl h,fun _ _=>rfl,rfl,rfl,rfl,qjy w a⟩
theorem qmp (h : RelH w Z inj hp nx) {n : Nat} {b0 blk : Blk} (s : find hp n = some b0) (hl : live b0 = true) {b off : Nat} (hi : inj n = some (b,off)) {r v : Loop} (hb : w.heap[b]? = some (.loop r)) (hd : v.defers = r.defers)
    (ac : RelB (w.putObj b (.loop v)) Z inj nx n blk) (af : live blk = true→True) : RelH (w.putObj b (.loop v)) Z inj (repl hp n blk) nx∧Ext w Z inj hp (w.putObj b (.loop v)) Z inj (repl hp n blk) pin:=by
  have a : ∀ k,k≠b→(w.putObj b (.loop v)).heap[k]? = w.heap[k]?:=fun k g=>World.putObj_heap_other g
  have al : ¬ Z b:=fun hz=>by
    obtain ⟨c,e,f,hc⟩:=h.zc b hz;rw [hb] at hc;cases hc
  have j : Zv w (w.putObj b (.loop v)):=fun k c e f g=>by
    by_cases j : k = b
    · subst j;rw [hb] at g;cases g
    · exact ⟨c,e,f,(a k j).trans g,rfl⟩
  have hz : ∀ k,Z k→(w.putObj b (.loop v)).heap[k]? = w.heap[k]?:=fun k g=>a k (fun e=>al (e ▸ g))
  have d : ∀ m c,find (repl hp n blk) m = some c→(m = n∧c = blk)∨(m≠n∧find hp m = some c):=by
    intro m c t;rw [Z6] at t;split at t
    · rename_i e;subst e;rw [s] at t;simp at t;exact .inl ⟨rfl,t.symm⟩
    · rename_i e;exact .inr ⟨fun h=>e h.symm,t⟩
  have ab : ∀ k,im (repl hp n blk) inj k→im hp inj k:=by
    rintro k ⟨m,c,o,h1,h2,u⟩;rcases d m c h1 with ⟨rfl,rfl⟩ | ⟨_,y⟩
    · exact ⟨m,b0,o,s,hl,u⟩
    · exact ⟨m,c,o,y,h2,u⟩
  refine ⟨⟨?_,?_,?_,?_,?_⟩,⟨qf,?_,fun k g=>.inl (ab k g),j,?_,fun _ h=>h,fun _ h=>.inl h,fun _ _=>rfl,rfl,rfl,rfl,qfh (fun _ _ _=>by rw [hb];simp) (fun _ _ _=>qf)⟩⟩
  · intro m c t;rcases d m c t with ⟨rfl,rfl⟩ | ⟨l,y⟩
    · exact ⟨(h.blk _ _ s).1,ac⟩
    · obtain ⟨z,h6⟩:=h.blk m c y;exact ⟨z,h6.mono hz (fun _ h=>h) j (fun _ _=>rfl) (Nat.le_refl _) z fun p hp af=>a _ fun e=>h.sep m n c b0 p (b,off) y s af hl hp hi l e⟩
  · intro m m' c c' p q h1 h2 u y z h6 l;rcases d m c h1 with ⟨rfl,rfl⟩ | ⟨e1,k1⟩ <;> rcases d m' c' h2 with ⟨rfl,rfl⟩ | ⟨e2,k2⟩
    · exact absurd rfl l
    · exact h.sep _ _ _ _ p q s k2 hl y z h6 l
    · exact h.sep _ _ _ _ p q k1 s u hl z h6 l
    · exact h.sep _ _ _ _ p q k1 k2 u y z h6 l
  · intro m c p h1 h2 u;rcases d m c h1 with ⟨rfl,rfl⟩ | ⟨e1,k1⟩
    · exact h.out _ _ p s hl u
    · exact h.out _ _ p k1 h2 u
  · intro k g;simpa using h.zs k g
  · intro k g;obtain ⟨c,e,f,hc⟩:=h.zc k g;exact ⟨c,e,f,(hz k g).trans hc⟩
  · intro k _ g;exact a k fun e=>g ⟨n,b0,off,s,hl,e ▸ hi⟩
  · intro k x g;by_cases j : k = b
    · subst j;rw [hb] at g;cases g;exact ⟨v,World.putObj_heap_same (J6 hb),hd⟩
    · exact ⟨x,(a k j).trans g,rfl⟩
theorem qgx (h : RelH w Z inj hp nx) {n : Nat} {s : List (Nat × V)} {a : List Tmp} {as g : Code} {x ls' : LoopState} {pe pe' : Option Code} (q : find hp n = some (.loop s a as g x pe)) : ∃ b r,inj n = some (b,0)∧w.heap[b]? = some (.loop r)∧
    r.state = x∧r.pending = pe∧r.params = a.toArray∧r.assign = as∧r.body = g∧(codeOk r.tmps.size as = true∧codeOk r.tmps.size g = true∧∀ p∈a,p < r.tmps.size)∧Yt w Z inj nx s r.tmps∧
    RelH (w.putObj b (.loop {r with state:=ls',pending:=pe'})) Z inj (repl hp n (.loop s a as g ls' pe')) nx∧Ext w Z inj hp (w.putObj b (.loop {r with state:=ls',pending:=pe'})) Z inj (repl hp n (.loop s a as g ls' pe')) pin:=by
  obtain ⟨z,b,tmps,D,fn,m,l,u,t⟩:=h.blk n _ q;refine ⟨b,_,m,l,rfl,rfl,rfl,rfl,rfl,u,t,?_⟩;refine qmp h q rfl m l rfl ?_ (fun _=>trivial);refine ⟨b,tmps,D,fn,m,World.putObj_heap_same (J6 l),u,?_⟩
  have o : ¬ Z b:=fun y=>by
    obtain ⟨c,e,f,v⟩:=h.zc b y;rw [l] at v;cases v
  refine t.mono (fun k d=>World.putObj_heap_other (fun e=>o (e ▸ d))) (fun _ h=>h) ?_ (fun _ _=>rfl) (Nat.le_refl _);intro k c e f d;by_cases j : k = b
  · subst j;rw [l] at d;cases d
  · exact ⟨c,e,f,(World.putObj_heap_other j).trans d,rfl⟩
theorem qwb (h : RelH w Z inj hp nx) {n : Nat} {s : List (Nat × V)} {k : List Tmp} {as l : Code} {f : LoopState} {pe : Option Code} (c : find hp n = some (.loop s k as l f pe)) : ∃ b r,inj n = some (b,0)∧w.heap[b]? = some (.loop r)∧
    r.state = f∧r.pending = pe∧∀ a : Loop,a.defers = r.defers→RelH (w.putObj b (.loop a)) Z inj (repl hp n .dead) nx∧Ext w Z inj hp (w.putObj b (.loop a)) Z inj (repl hp n .dead) pin:=by
  obtain ⟨m,b,tmps,D,fn,d,g,p,o⟩:=h.blk n _ c;exact ⟨b,_,d,g,rfl,rfl,fun a j=>qmp h c rfl d g j trivial (fun _=>trivial)⟩
theorem qjm : ∀ (a : List V) (k t : Nat) (v : V),find (Y9 k a) t = some v→k≤t∧a[t - k]? = some v
  | [],k,t,v,h=>by simp [Y9,find] at h
  | x::r,k,t,v,h=>by
    simp only [Y9,Kw] at h
    split at h
    · rename_i e;subst e;cases h;simp
    · rename_i e
      obtain ⟨d,b⟩:=qjm r (k + 1) t v h
      refine ⟨q6,?_⟩
      obtain ⟨m,c⟩ : ∃ m,t - k = m + 1:=⟨t - k - 1,q6⟩
      have : t - (k + 1) = m:=by omega
      rw [this] at b
      rw [c];simpa using b
theorem qwe {b : List V} {xs : Array Value} (n : Nat) (h : LRel w Z inj nx b xs) : Yt w Z inj nx (Y9 0 b) (xs ++ Array.replicate (n - xs.size) undef):=by
  intro t v f;obtain ⟨_,c⟩:=qjm b 0 t v f;simp at c;have a : t < xs.size:=by rw [← h.1];exact Kg c
  obtain ⟨x,d⟩:=Yd a;exact ⟨x,by rw [Array.getElem?_append_left a];exact d,h.2 t v x c d⟩
theorem qmr : ∀ (f : List Tmp) (g : List V) (xs : List Value) (s : List (Nat × V)) (tmps : Array Value),g.length = xs.length→(∀ (i : Nat) (d : V) (c : Value),g[i]? = some d→xs[i]? = some c→RelV w Z inj nx d c)→(∀ p∈f,p < tmps.size)→
    Yt w Z inj nx s tmps→Yt w Z inj nx (q1v s f g) ((f.zip xs).foldl (fun tmps (x : Tmp × Value)=>tmps.setIfInBounds x.1 x.2) tmps)∧((f.zip xs).foldl (fun tmps (x : Tmp × Value)=>tmps.setIfInBounds x.1 x.2) tmps).size = tmps.size
  | [],g,xs,s,tmps,hl,hr,hp,h=>by simpa [q1v] using h
  | p::f,[],[],s,tmps,hl,hr,hp,h=>by simpa [q1v] using h
  | p::f,v::g,x::xs,s,tmps,hl,hr,hp,h=>by
    have l:=hr 0 v x rfl rfl
    have k:=h.put l (hp p qf)
    obtain ⟨a,b⟩:=qmr f g xs _ _ (by simpa using hl) (fun i d c hd j=>hr (i + 1) d c (by simpa using hd) (by simpa using j)) (fun q m=>by simpa using hp q (by simp [m])) k
    refine ⟨by simpa [q1v] using a,by simpa using b⟩
  | p::f,[],x::xs,s,tmps,hl,hr,hp,h=>by simp at hl
  | p::f,v::g,[],s,tmps,hl,hr,hp,h=>by simp at hl
theorem qks {fn : Func} {st : AS} {v : V} (hT : Z4 P T) {w0 : World} {Z0 : Nat→Prop} {inj0 : Inj} {hp0 : List (Nat × Blk)} {R : Ending→World→Prop} (j : resV T st fn.results.toList = some v)
    (hR : ∀ x w' Z' inj',RelH w' Z' inj' st.hp st.nx→Ext w0 Z0 inj0 hp0 w' Z' inj' st.hp pin→RelV w' Z' inj' st.nx v x→R (.returned x) w') : ∀ (Ds : List Nat) (w : World) (Z : Nat→Prop) (inj : Inj) (a : Act),
      Yt w Z inj st.nx st.sl a.tmps→RelH w Z inj st.hp st.nx→Ext w0 Z0 inj0 hp0 w Z inj st.hp pin→Ds.Nodup→(∀ D∈Ds,w.heap[D]? = some (.deferred (some []))∧w0.heap.size≤D)→
      LeavesInM (Fw none) 0 P fn a.tmps R (Ds.map fun D=>{target:=.collected D,args:=#[]}) .returning w
  | [],w,Z,inj,a,hs,hh,he,_,_=>by
    obtain ⟨x,hx,hv⟩:=qwi (a:=a) hT hh hs j
    exact ⟨x,hx,hR x w Z inj hh he hv⟩
  | D::Ds,w,Z,inj,a,hs,hh,he,hnd,hm=>by
    obtain ⟨t,an⟩:=hm D qf
    have m:=List.nodup_cons.1 hnd
    refine ⟨qf,.inl ⟨D,_,rfl,run_takeDeferred t,?_⟩⟩
    have d : ∀ k,k≠D→(w.putObj D (.deferred none)).heap[k]? = w.heap[k]?:=fun k g=>World.putObj_heap_other g
    have ac : ¬ Z D:=fun q=>by obtain ⟨c,e,f,hc⟩:=hh.zc D q;rw [t] at hc;cases hc
    have y : ¬ im st.hp inj D:=fun hi=>by rcases hh.im_obj hi with ⟨_,_,e⟩ | ⟨_,e⟩ | ⟨_,_,e⟩ <;> rw [t] at e <;> cases e
    have q : ∀ k,Z k→(w.putObj D (.deferred none)).heap[k]? = w.heap[k]?:=fun k g=>d k fun e=>ac (e ▸ g)
    have o : Zv w (w.putObj D (.deferred none)):=fun k c e f g=>by
      by_cases s : k = D
      · subst s;rw [t] at g;cases g
      · exact ⟨c,e,f,(d k s).trans g,rfl⟩
    refine qks hT j hR Ds _ Z inj a (hs.mono q (fun _ h=>h) o (fun _ _=>rfl) (Nat.le_refl _)) ⟨?_,hh.sep,hh.out,fun k g=>by simpa using hh.zs k g,?_⟩ ?_ m.2 ?_
    · intro n b hn
      obtain ⟨l,z⟩:=hh.blk n b hn
      exact ⟨l,z.mono q (fun _ h=>h) o (fun _ _=>rfl) (Nat.le_refl _) l fun p hp hl=>d _ fun e=>y ⟨n,b,p.2,hn,hl,by rw [← e];exact hp⟩⟩
    · intro k g
      obtain ⟨c,e,f,hc⟩:=hh.zc k g
      exact ⟨c,e,f,(q k g).trans hc⟩
    · refine ⟨by simpa using he.size,fun b hb hi=>(d b q6).trans (he.keep b hb hi),he.imm,?_,?_,he.zin,he.zout,he.pinj,he.tape,he.os,he.output,fun x=>(qfh (fun _ _ _=>by rw [t];simp) (fun _ _ _=>qf) x).trans (he.frz x)⟩
      · intro b c e f hb
        obtain ⟨c1,e1,f1,l,s1⟩:=he.big b c e f hb
        obtain ⟨c2,e2,f2,z,s2⟩:=o b c1 e1 f1 l
        exact ⟨c2,e2,f2,z,s2.trans s1⟩
      · intro b r hb
        obtain ⟨r1,l,s1⟩:=he.loops b r hb
        exact ⟨r1,(d b (by have:=J6 hb;omega)).trans l,s1⟩
    · intro D' u
      obtain ⟨l,z⟩:=hm D' (by simp [u])
      exact ⟨(d D' (fun e=>m.1 (e ▸ u))).trans l,z⟩
end
end Go.Am
