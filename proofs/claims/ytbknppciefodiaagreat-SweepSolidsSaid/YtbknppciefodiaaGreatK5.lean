/- Am23 Am24 Am25 -/
import Derived.Test.YtbknppciefodiaaGreatK4
namespace Go.Am
open Go
variable {P : Program} {T : Tab}
section
variable {base : Nat} {w : World} {Z : Nat→Prop} {inj : Inj} {st st1 st2 : AS} {a : Act} {Ds : List Nat} {ops : Array Oper} {o : Oper}
structure Uj (ops : Array Oper) (o : Oper) (x : Fp) (st st2 : AS) : Prop where
  blk : qe8 x st st2
  sl : ∀ t∈reads ops o,st2.get t = st.get t
theorem Uj.ev {x : Fp} (h : Uj ops o x st st2) {y : Operand} (a : y∈o.op.operands) : st2.ev y = st.ev y:=by
  cases y with
  | tmp t=>exact h.sl t (List.mem_append_left _ (by unfold slotsOf;rw [List.mem_filterMap];exact ⟨.tmp t,by simpa using a,rfl⟩))
  | const v=>rfl
  | func f=>rfl
  | global g=>rfl
theorem Uj.guard {x : Fp} (h : Uj ops o x st st2) : Qx ops st2 o = Qx ops st o:=by
  have hs:=h.sl;unfold reads at hs;unfold Qx;grind
theorem Uj.callee {x : Fp} (h : Uj ops o x st st2) {c : Call} (d : o.op = .call c) : callee st2 c = callee st c:=by
  obtain ⟨a,args,argTypes⟩:=c;unfold Am.callee
  cases a with
  | builtin b=>rfl
  | invoke r n=>rfl
  | value f=>
    simp only;rw [h.ev (y:=f) (by rw [d];simp [Op.operands,Call.operands]),q8w (fun x g=>h.ev (y:=x) (by rw [d];simp [Op.operands,Call.operands];exact .inr (by simpa using g)))]
theorem Z7 {st : AS} {d : Option Tmp} {v : V} {t : Tmp} : (st.putD d v).get t = if d = some t then some v else st.get t:=by
  cases d with
  | none=>simp [AS.putD]
  | some d=>simp only [AS.putD,AS.put,AS.get,Kw,Option.some.injEq]
theorem qho {w : World} {Z : Nat→Prop} {inj : Inj} {nx : Nat} {fz : List Nat} {b : AS} {v : V} {x : Value} (h : RelV w Z inj nx v x) : Wv b (fun n=>n) fz [] nx v v:=by
  induction h with
  | d h=>exact .d (.refl _)
  | @agg ds cs hl _ ih=>
    exact .agg rfl fun i c d a hd=>by
      rw [a] at hd;cases hd;obtain ⟨y,g⟩:=Yd (xs:=cs) (i:=i) (by rw [← hl];exact Kg a);grind
  | @tup ds cs hl _ ih=>
    exact .tup rfl fun i c d a hd=>by
      rw [a] at hd;cases hd;obtain ⟨y,g⟩:=Yd (xs:=cs) (i:=i) (by rw [← hl];exact Kg a);grind
  | @fn f ds cs hl _ ih=>
    exact .fn rfl fun i c d a hd=>by
      rw [a] at hd;cases hd;obtain ⟨y,g⟩:=Yd (xs:=cs) (i:=i) (by rw [← hl];exact Kg a);grind
  | ref h1 h2=>exact .ref rfl qf h1
  | @dref cs j _ _ _ _ _=>exact .dref cs j
  | hsnil h1=>exact .hs rfl qf h1
  | hs h1 _ _ _=>exact .hs rfl qf h1
  | yld h1 _=>exact .yld rfl qf h1
  | mp h1 _=>exact .mp rfl qf h1
  | dead v=>exact .dead _
theorem q12z {w : World} {Z : Nat→Prop} {inj : Inj} {nx n : Nat} {fz : List Nat} {f : AS} {b : Blk} (h : RelB w Z inj nx n b) : Wb f (fun n=>n) fz [] nx b b:=by
  cases b with
  | dead=>exact .dead _
  | dat es xs=>exact .dat _ _
  | mp es=>exact .mp _
  | cel es xs=>
    obtain ⟨_,_,q⟩:=h;refine .cel rfl fun i x y a k=>?_;rw [a] at k;cases k;refine ⟨rfl,fun j c d m hd=>?_⟩;rw [m] at hd;cases hd;rcases q with ⟨rfl,_⟩ | ⟨b,o,arr,ty,_,_,r⟩
    · simp at a
    · obtain ⟨z,c',_,v⟩:=r i x j c a m;exact ⟨qho v,z⟩
  | loop s ps assign body dn pe=>
    obtain ⟨b,tmps,D,fn,_,_,_,p⟩:=h;refine .loop fun t g l=>?_;obtain ⟨x,_,u⟩:=p t g l;exact ⟨g,l,qho u⟩
theorem qjx {w' : World} {Z' : Nat→Prop} {inj' : Inj} {a' : Act} {p : List Nat} {dst : Option Tmp} {n es : Nat} {xs : List (List DV)} {hp2 : List (Nat × Blk)} (s : RelS w' Z' inj' (st1.putD dst (.hs n es 0 xs.length)) a' p) (y : st1.hp = (n,.dat es xs)::hp2) (hf : find hp2 n = none) (hn : base≤n) (h4 : base≤st1.nx) :
    Wk base (fun n=>n) [n] [] (st1.putD dst (.hs n es 0 xs.length)) (({sl:=st1.sl,hp:=hp2,nx:=st1.nx} : AS).putD dst (.d (.sl es xs))):=by
  have c : (({sl:=st1.sl,hp:=hp2,nx:=st1.nx} : AS).putD dst (.d (.sl es xs))).nx = st1.nx:=Yo _ _ _;have q : (({sl:=st1.sl,hp:=hp2,nx:=st1.nx} : AS).putD dst (.d (.sl es xs))).hp = hp2:=Yn _ _ _
  have j : ∀ m b,find hp2 m = some b→m≠n∧find (st1.putD dst (.hs n es 0 xs.length)).hp m = some b:=by
    intro m b a;have f : m≠n:=by rintro rfl;rw [hf] at a;cases a
    refine ⟨f,?_⟩;rw [Yn,y,Kw,qp (by intro e;exact f e.symm)];exact a
  refine ⟨?_,?_,?_,?_,fun _ _=>rfl,by rw [c];exact h4,fun m a=>by simp at a;omega,fun m a=>by cases a⟩
  · intro t o g;rw [c];rw [Z7] at g;by_cases l : dst = some t
    · rw [qq l] at g;cases g;refine ⟨_,by rw [Z7,qq l],.frz (k:=es) (xs:=xs) ?_ qf q6 qf rfl⟩;show find (st1.putD dst _).hp n = _;rw [Yn,y,Kw,qq rfl]
    · rw [qp l] at g;have v : (st1.putD dst (.hs n es 0 xs.length)).get t = some o:=by rw [Z7,qp l];exact g
      obtain ⟨x,_,u⟩:=s.slots t o v;rw [Yo] at u;exact ⟨o,v,qho u⟩
  · intro m r a;rw [c];unfold AS.blk at a;rw [q] at a;obtain ⟨f,h⟩:=j m r a;obtain ⟨z,w⟩:=s.heap.blk m r h;rw [Yo] at z w;exact ⟨z,.inr ⟨qf,r,h,q12z w⟩⟩
  · omega
  · intro m b a _ hc;unfold AS.blk at a;grind
theorem qv0 {w : World} {Z : Nat→Prop} {inj : Inj} {a a' : Act} {Ds : List Nat} {w' : World} {dst : Option Tmp} {n es : Nat} {xs : List (List DV)} {hp2 : List (Nat × Blk)}
    (h : Kx base w Z inj st a Ds (st1.putD dst (.hs n es 0 xs.length)) a' w') (p : st1.hp = (n,.dat es xs)::hp2) (q : find hp2 n = none) (o : base≤n) :
    Kx base w Z inj st a Ds (({sl:=st1.sl,hp:=hp2,nx:=st1.nx} : AS).putD dst (.d (.sl es xs))) a' w':=by
  obtain ⟨Z',inj',g,j,l,k,f,m⟩:=h;obtain ⟨c,b⟩:=q26 j (qjx j p q o (by rw [Yo] at f;exact f));exact ⟨_,_,g,c,l.trans b (Nat.le_refl _),k,by rw [Yo];rw [Yo] at f;exact f,m⟩
theorem qro {n es : Nat} {xs : List (List DV)} {hp2 : List (Nat × Blk)} (g : Z4 P T) (k : Qx ops st o = some true) (f : opFn T st o.op = some (.hs n es 0 xs.length,st1)) (l : st.nx≤n) (m : st1.hp = (n,.dat es xs)::hp2) (c : find hp2 n = none) :
    Jo P base ops o st (({sl:=st1.sl,hp:=hp2,nx:=st1.nx} : AS).putD o.dst (.d (.sl es xs))):=by
  intro ro Q w Z inj a Ds K h hd hb b j;exact qfk g k f ro Q w Z inj a Ds K h hd hb b fun a' w' hp=>j a' w' (qv0 hp m c (Nat.le_trans hb l))
theorem q9s {w : World} {Z : Nat→Prop} {inj inj' : Inj} {nx : Nat} {v : V} {x : Value} (h : RelV w Z inj nx v x) (hi : ∀ n p,n < nx→inj n = some p→inj' n = some p) : RelV w Z inj' nx v x:=by
  induction h with
  | d h=>exact .d h
  | agg hl _ ih=>exact .agg hl ih
  | tup hl _ ih=>exact .tup hl ih
  | fn hl _ ih=>exact .fn hl ih
  | ref h1 h2=>exact .ref h1 (hi _ _ h1 h2)
  | dref h1 h2 h3=>exact .dref h1 h2 h3
  | hsnil h1=>exact .hsnil h1
  | hs h1 h2 hsp h3=>
    refine .hs h1 h2 hsp fun a=>?_;grind
  | yld h1 h2=>exact .yld h1 (hi _ _ h1 h2)
  | mp h1 h2=>exact .mp h1 (hi _ _ h1 h2)
  | dead v=>exact .dead v
theorem qmn {w : World} {Z : Nat→Prop} {inj inj' : Inj} {nx n : Nat} {b : Blk} (h : RelB w Z inj nx n b) (hi : ∀ n p,n < nx→inj n = some p→inj' n = some p) (q : n < nx) (m : inj n = none→inj' n = none) : RelB w Z inj' nx n b:=by
  cases b with
  | dead=>trivial
  | dat es xs=>
    obtain ⟨g,a,f⟩:=h;refine ⟨g,a,?_⟩;grind
  | mp es=>
    obtain ⟨b,k,cl,g,a⟩:=h;exact ⟨b,k,cl,hi _ _ q g,a⟩
  | cel es xs=>
    obtain ⟨g,a,f⟩:=h;refine ⟨g,a,?_⟩;rcases f with ⟨f,l⟩ | ⟨b,o,arr,ty,f,l,h5⟩
    · grind
    · refine .inr ⟨b,o,arr,ty,hi _ _ q f,l,fun i x j d r hd=>?_⟩;obtain ⟨z,c,h7,y⟩:=h5 i x j d r hd;exact ⟨z,c,h7,q9s y hi⟩
  | loop s ps assign body dn pe=>
    obtain ⟨b,tmps,D,fn,g,a,f,l⟩:=h;refine ⟨b,tmps,D,fn,hi _ _ q g,a,f,fun t v ht=>?_⟩;obtain ⟨x,r,u⟩:=l t v ht;exact ⟨x,r,q9s u hi⟩
def qbq (base lo hi : Nat) (w : World) (Z : Nat→Prop) (inj : Inj) (st : AS) (a : Act) (Ds : List Nat) (st' : AS) (a' : Act) (w' : World) : Prop:=
  ∃ Z' inj' Ds',RelS w' Z' inj' st' a' Ds'∧Ext w Z inj st.hp w' Z' inj' st'.hp base∧a'.tmps.size = a.tmps.size∧(∀ D∈Ds',D∈Ds∨w.heap.size≤D)∧∀ m,m < st.nx→(m < lo∨hi≤m)→inj' m = inj m
def qea (P : Program) (base : Nat) (ops : Array Oper) (o : Oper) (st st' : AS) (lo hi : Nat) : Prop:=
  ∀ (ro : Option Nat) (Q : Exit→Act→World→Prop) (w : World) (Z : Nat→Prop) (inj : Inj) (a : Act) (Ds : List Nat) (K : Act→World→Prop),RelS w Z inj st a Ds→J7 a.tmps.size o.dst = true→base≤lo→base≤st.nx→Yj ro w→(∀ m,lo≤m→m < hi→inj m = none)→
    (∀ a' w',qbq base lo hi w Z inj st a Ds st' a' w'→K a' w')→Ui P (Fw ro) ops Q o K a w
theorem qk5 {st' : AS} {lo hi : Nat} (h : Jo P st.nx ops o st st') : qea P base ops o st st' lo hi:=by
  intro ro Q w Z inj a Ds K k hd _ hb b _ l;refine h ro Q w Z inj a Ds K k hd (Nat.le_refl _) b fun a' w' hp=>l a' w' ?_;obtain ⟨Z',inj',c,g,d,f,p,j⟩:=hp;exact ⟨Z',inj',c,g,d.pin_le hb,f,j,fun m n _=>d.pinj m n⟩
theorem qmt {w : World} {Z : Nat→Prop} {inj : Inj} {w' : World} {Z' : Nat→Prop} {inj' b : Inj} {N l : Nat} {v : V} {x k : Value} (h : RelV w Z inj N v x) (g : RelV w' Z' inj' l v k) (hi : ∀ m p,m < N→inj' m = some p→b m = some p) : RelV w' Z' b N v k:=by
  induction g generalizing x with
  | d g=>exact .d g
  | @agg ds cs hl _ ih=>
    cases h with | @agg _ cs0 hl0 h0=>
    refine .agg hl fun i d c hd j=>?_;grind
  | @tup ds cs hl _ ih=>
    cases h with | @tup _ cs0 hl0 h0=>
    refine .tup hl fun i d c hd j=>?_;grind
  | @fn f ds cs hl _ ih=>
    cases h with | @fn _ _ cs0 hl0 h0=>
    refine .fn hl fun i d c hd j=>?_;grind
  | ref h1 h2=>
    have a:=by cases h with | ref h1 _=>exact h1
    exact .ref a (hi _ _ a h2)
  | dref h1 h2 h3=>exact .dref h1 h2 h3
  | hsnil h1=>
    have a:=by cases h with
      | hsnil h1=>exact h1
      | hs h1 _ _ _=>exact h1
    exact .hsnil a
  | hs h1 h2 hsp h3=>
    have a:=by cases h with
      | hsnil h1=>exact h1
      | hs h1 _ _ _=>exact h1
    refine .hs a h2 hsp fun j=>?_;grind
  | yld h1 h2=>
    have a:=by cases h with | yld h1 _=>exact h1
    exact .yld a (hi _ _ a h2)
  | mp h1 h2=>
    have a:=by cases h with | mp h1 _=>exact h1
    exact .mp a (hi _ _ a h2)
  | dead v=>exact .dead v
theorem qw9 {w : World} {Z : Nat→Prop} {inj : Inj} {w' : World} {Z' : Nat→Prop} {inj' a : Inj} {N N' n : Nat} {b : Blk} (h : RelB w Z inj N n b) (r : RelB w' Z' inj' N' n b) (hi : ∀ m p,m < N→inj' m = some p→a m = some p) (y : a n = inj' n) : RelB w' Z' a N n b:=by
  cases b with
  | dead=>trivial
  | dat es xs=>
    obtain ⟨k,f,g⟩:=r;refine ⟨k,f,?_⟩;grind
  | mp es=>
    obtain ⟨b,q,cl,k,f⟩:=r;exact ⟨b,q,cl,y.trans k,f⟩
  | cel es xs=>
    obtain ⟨k,f,g⟩:=r;refine ⟨k,f,?_⟩;rw [y];rcases g with g | ⟨b,o,arr,ty,g,z,h5⟩
    · grind
    · refine .inr ⟨b,o,arr,ty,g,z,fun i x j d l hd=>?_⟩;obtain ⟨h6,c,h7,h8⟩:=h5 i x j d l hd;obtain ⟨_,_,k3⟩:=h;rcases k3 with ⟨rfl,_⟩ | ⟨_,_,_,_,_,_,k5⟩
      · simp at l
      · obtain ⟨_,c0,_,k8⟩:=k5 i x j d l hd;exact ⟨h6,c,h7,qmt k8 h8 hi⟩
  | loop s ps assign body dn pe=>
    obtain ⟨b,tmps,D,fn,k,f,g,z⟩:=r;obtain ⟨_,_,_,_,_,_,_,k4⟩:=h;refine ⟨b,tmps,D,fn,y.trans k,f,g,fun t v ht=>?_⟩;obtain ⟨x,l,hr⟩:=z t v ht;obtain ⟨x0,_,u⟩:=k4 t v ht;exact ⟨x,l,qmt u hr hi⟩
theorem qk4 {mk : Nat→V} {es q : Nat} {xs : List (List DV)} {f : List (Nat × Blk)} (hT : Z4 P T) (hg : Qx ops st o = some true) (hk : (∃ es,mk = fun n=>.ref n es 0 0)∨(∃ es l,mk = fun n=>.hs n es 0 l)∨(mk = fun n=>.mp n))
    (ho : opFn T st o.op = some (mk st.nx,⟨st.sl,(st.nx,.dat es xs)::f,st.nx + 1⟩)) (hq : q < st.nx) (av : find st.hp q = none) (hold : ∀ m c,find f m = some c→c = .dead∨find st.hp m = some c) (ab : ∀ m,find st.hp m = none→find f m = none) :
    qea P base ops o st (({sl:=st.sl,hp:=(q,.dat es xs)::f,nx:=st.nx} : AS).putD o.dst (mk q)) q (q + 1):=by
  intro ro Q w Z inj a Ds K h hd bu hb _ ag hK;have aw : inj q = none:=ag q (Nat.le_refl _) q6;unfold Ui;rw [q3l h hg];simp only [if_true];refine ⟨fun _ _=>trivial,?_⟩;rw [show (Fw ro).round = ro from rfl,Oper.semAt_eq ro _ o (qln ho)];obtain ⟨x,w',inj',hr,hv,hh,j,-,-⟩:=qlo hT h ho;simp only at hv hh j;obtain ⟨d,ai⟩ : ∃ d : Inj,d = fun m=>if m = q then inj' st.nx else inj' m:=⟨_,rfl⟩
  have af : d q = inj' st.nx:=by rw [ai];simp
  have ad : ∀ m,m≠q→d m = inj' m:=fun m g=>by rw [ai];simp [g]
  have hi : ∀ m p,m < st.nx→inj' m = some p→d m = some p:=fun m p g hp=>by
    by_cases k : m = q
    · subst k;rw [j.pinj m g,aw] at hp;cases hp
    grind
  have am : ∀ m c,find f m = some c→m < st.nx:=fun m c g=>by
    cases hf : find st.hp m with
    | none=>rw [ab m hf] at g;cases g
    | some b=>exact (h.heap.blk m b hf).1
  have bq : ∀ m c,find f m = some c→m≠q:=fun m c g e=>by grind
  have up : ∀ m c,find f m = some c→find ((st.nx,Blk.dat es xs)::f) m = some c:=fun m c g=>by
    rw [Kw,qp (by have:=am m c g;omega)];exact g
  have al : find ((st.nx,Blk.dat es xs)::f) st.nx = some (.dat es xs):=by rw [Kw,qq rfl]
  have back : ∀ m c,find ((q,Blk.dat es xs)::f) m = some c→∃ s,find ((st.nx,Blk.dat es xs)::f) s = some c∧d m = inj' s∧((m = q∧s = st.nx)∨(m≠q∧s = m)):=by
    intro m c g;rw [Kw] at g;grind
  have hH : RelH w' Z d ((q,Blk.dat es xs)::f) st.nx:=by
    refine ⟨fun m c g=>?_,fun m n b c p r h1 u h3 h4 h5 h6 ar=>?_,fun m b p h1 u h3=>?_,hh.zs,hh.zc⟩
    · rw [Kw] at g;by_cases k : q = m
      · subst k;rw [qq rfl] at g;cases g;refine ⟨hq,?_⟩;obtain ⟨_,k1,k2,k3⟩:=hh.blk st.nx _ al;exact ⟨k1,k2,by rw [af];exact k3⟩
      · rw [qp k] at g;refine ⟨am m c g,?_⟩;rcases hold m c g with rfl | ax
        · trivial
        · exact qw9 (h.heap.blk m c ax).2 (hh.blk m c (up m c g)).2 hi (ad m (Ne.symm k))
    · obtain ⟨s,a1,a2,a3⟩:=back m b h1;obtain ⟨n',b1,b2,b3⟩:=back n c u;refine hh.sep s n' b c p r a1 b1 h3 h4 (a2 ▸ h5) (b2 ▸ h6) ?_;rcases a3 with ⟨rfl,rfl⟩ | ⟨a3,rfl⟩ <;> rcases b3 with ⟨rfl,rfl⟩ | ⟨b3,rfl⟩
      · omega
      · intro e;have : find f n' = some c:=by rw [Kw,qp (Ne.symm b3)] at u;exact u
        grind
      · intro e;have : find f s = some b:=by rw [Kw,qp (Ne.symm a3)] at h1;exact h1
        grind
      · exact ar
    · obtain ⟨s,a1,a2,_⟩:=back m b h1;exact hh.out s b p a1 u (a2 ▸ h3)
  have hE : Ext w Z inj st.hp w' Z d ((q,Blk.dat es xs)::f) base:=by
    refine ⟨j.size,j.keep,?_,j.big,j.loops,j.zin,j.zout,fun n hn=>?_,j.tape,j.os,j.output,j.frz⟩
    · rintro b ⟨m,c,off,g1,g2,g3⟩;obtain ⟨s,a1,a2,_⟩:=back m c g1;exact j.imm b ⟨s,c,off,a1,g2,a2 ▸ g3⟩
    · rw [ad n q6];exact j.pinj n q6
  have hV : RelV w' Z d st.nx (mk q) x:=by
    rcases hk with ⟨es,rfl⟩ | ⟨es,l,rfl⟩ | rfl
    rotate_right
    · cases hv with | mp h1 u=>exact .mp hq (af.trans u)
    · cases hv with | ref h1 u=>exact .ref hq (af.trans u)
    · cases hv with
      | hsnil h1=>exact .hsnil hq
      | hs h1 u hsp h3=>
        refine .hs hq u hsp fun hc=>?_;grind
  have hS : Yt w' Z d st.nx st.sl a.tmps:=fun t v ht=>by
    obtain ⟨y,hy,hr⟩:=h.slots t v ht;exact ⟨y,hy,q9s (hr.mono (j.zkeep h.heap) j.zin j.big j.pinj (Nat.le_refl _)) hi⟩
  have z : qbq base q (q + 1) w Z inj st a Ds (({sl:=st.sl,hp:=(q,.dat es xs)::f,nx:=st.nx} : AS).putD o.dst (mk q)) (a.put o.dst x) w':=by
    refine ⟨Z,d,Ds,?_,by rw [Yn];exact hE,qly _ _ _,fun _ h=>.inl h,fun m g k=>?_⟩
    · generalize ba : o.dst = dst at hd
      cases dst with
      | none=>exact ⟨hS,hH,h.defs,h.nodup,fun D hD=>j.marks h.heap (h.marks D hD)⟩
      | some t=>exact ⟨hS.put hV (qj7 hd),hH,h.defs,h.nodup,fun D hD=>j.marks h.heap (h.marks D hD)⟩
    · rw [ad m q6];exact j.pinj m g
  rcases hr with hr | ⟨hr,rfl⟩
  · rw [hr];exact hK _ _ z
  · rw [hr];exact hK _ _ z
theorem quz {w : World} {Z : Nat→Prop} {inj : Inj} {a a' : Act} {Ds : List Nat} {w' : World} {dst : Option Tmp} {n es lo hi : Nat} {xs : List (List DV)} {hp2 : List (Nat × Blk)} (g : base≤st1.nx)
    (h : qbq base lo hi w Z inj st a Ds (st1.putD dst (.hs n es 0 xs.length)) a' w') (s : st1.hp = (n,.dat es xs)::hp2) (u : find hp2 n = none) (r : base≤n) :
    qbq base lo hi w Z inj st a Ds (({sl:=st1.sl,hp:=hp2,nx:=st1.nx} : AS).putD dst (.d (.sl es xs))) a' w':=by
  obtain ⟨Z',inj',c,j,p,o,l,q⟩:=h;have hp : Kx base w Z inj st a Ds (st1.putD dst (.hs n es 0 xs.length)) a' w':=⟨Z',inj',c,j,p,o,by rw [Yo];exact g,l⟩
  obtain ⟨f,b⟩:=q26 j (qjx j s u r g);refine ⟨_,_,c,f,p.trans b (Nat.le_refl _),o,l,fun m t k=>?_⟩;rw [← q m t k];simp [wkI]
structure Jq (P : Program) (ops : Array Oper) (o : Oper) (x : Fp) (st st1 : AS) : Prop where
  nx : st.nx≤st1.nx
  sl : ∀ t,o.dst≠some t→st1.get t = st.get t
  hp : ∀ m,m ∉ x.2→find st1.hp m = find st.hp m
  keys : ∀ m,st1.nx≤m→find st.hp m = none→find st1.hp m = none
  fresh : ∀ m,st.nx≤m→m < st1.nx→m∈x.2
  other : ∀ st2,st1.nx≤st2.nx→Uj ops o x st st2→(∀ m,st.nx≤m→m < st1.nx→find st2.hp m = none)→∃ st3,st3.nx = st2.nx∧(∀ base,qea P base ops o st2 st3 st.nx st1.nx)∧
    (∀ t,o.dst≠some t→st3.get t = st2.get t)∧(∀ t,o.dst = some t→st3.get t = st1.get t)∧(∀ m∈x.2,find st3.hp m = find st1.hp m)∧(∀ m,m ∉ x.2→find st3.hp m = find st2.hp m)
theorem qhi : ∀ {b : List Nat} {n : Nat},hasN b n = true→n∈b
  | a::r,n,h=>by
    simp only [hasN,Bool.or_eq_true] at h
    rcases h with h | h
    · rw [Nat.eq_of_beq_eq_true h];simp
    · exact List.mem_cons_of_mem _ (qhi h)
theorem ql4 : ∀ {b : List Nat} {n : Nat},n∈b→hasN b n = true
  | a::r,n,h=>by
    simp only [hasN,Bool.or_eq_true]
    rcases List.mem_cons.1 h with rfl | h
    · left;exact Nat.beq_refl _
    · exact .inr (ql4 h)
theorem qjt (y : Fp) : fpLe (some [],[]) y = true:=by
  unfold fpLe;cases y.1 <;> rfl
theorem Jq.mono {x y : Fp} (h : Jq P ops o x st st1) (j : fpLe x y = true) : Jq P ops o y st st1:=by
  simp only [fpLe,Bool.and_eq_true,subN,List.all_eq_true] at j;obtain ⟨s,d⟩:=j;have c : ∀ m∈x.2,m∈y.2:=fun m a=>qhi (s m a);refine ⟨h.nx,h.sl,fun m a=>h.hp m fun e=>a (c m e),h.keys,fun m b hb=>c m (h.fresh m b hb),fun st2 t b v=>?_⟩
  have g : Uj ops o x st st2:=by
    refine ⟨⟨fun m a=>b.blk.1 m (c m a),?_⟩,b.sl⟩;have hb:=b.blk.2;revert d hb
    cases y.1 with
    | none=>grind
    | some r=>
      cases x.1 with
      | none=>simp
      | some r'=>
        intro d hb m a;exact hb m (qhi (by simpa using List.all_eq_true.1 d m a))
  obtain ⟨f,n,p,u,q,w,l⟩:=h.other st2 t g v;refine ⟨f,n,p,u,q,fun m a=>?_,fun m a=>l m fun e=>a (c m e)⟩;by_cases k : m∈x.2
  · grind
  · rw [l m k,h.hp m k];exact b.blk.1 m a
theorem qo2 {v : V} {x : Fp} (d : x.2 = []) (a : ∀ st2,Uj ops o x st st2→Jo P st2.nx ops o st2 (st2.putD o.dst v)) : Jq P ops o x st (st.putD o.dst v):=by
  refine ⟨by rw [Yo];exact Nat.le_refl _,fun t h=>by rw [Z7,qp h],fun m _=>by rw [Yn],fun m _ h=>by rw [Yn];exact h,fun m g a=>by rw [Yo] at a;omega,fun st2 f c _=>?_⟩;refine ⟨st2.putD o.dst v,Yo _ _ _,fun base=>qk5 (a st2 c),fun t h=>by rw [Z7,qp h],fun t h=>by rw [Z7,Z7,qq h,qq h],fun m b=>(by rw [d] at b;cases b),fun m _=>by rw [Yn]⟩
theorem q11u (b : Qx ops st o = some false) : Jq P ops o (some [],[]) st (st.putD o.dst (.d (.tup []))):=
  qo2 rfl fun _ a=>qk7 (a.guard.trans b)
theorem qqn {b : Blk} {n : Nat} {sl : List (Nat × V)} {hp1 : List (Nat × Blk)} {v : V} {op : Op} (d : opFn T st op = some (v,⟨sl,(st.nx,b)::hp1,n + 1⟩)) (f : st.nx = n) (h : q3g st op ⟨sl,(st.nx,b)::hp1,n + 1⟩ = true) : ∃ es xs,b = .dat es xs:=by
  by_cases c : touch op = 2
  · simp only [q3g,c] at h
    cases b with
    | dat es xs=>exact ⟨es,xs,rfl⟩
    | _=>simp at h
  · have a : touch op≤1:=by
      have : touch op≤2:=by unfold touch;split <;> omega
      omega
    have g:=(qgl (st2:=st) d a (fun _=>rfl) (fun _ _=>rfl)).1;grind
theorem q11s {v : V} (w : Z4 P T) (y : Qx ops st o = some true) (u : opFn T st o.op = some (v,st1)) (hd : q3g st o.op st1 = true) : Jq P ops o (fp st o.op) st (st1.putD o.dst v):=by
  cases qlj u with
  | calm hsl hnx hhp hnone hall=>
    have g : ∀ t,st1.get t = st.get t:=fun t=>by unfold AS.get;rw [hsl]
    refine ⟨by rw [Yo];omega,fun t h=>by rw [Z7,qp h,g],fun m a=>by rw [Yn];exact hhp m a,fun m _ h=>by rw [Yn];exact hnone m h,fun m p n=>by rw [Yo] at n;omega,fun st2 q c _=>?_⟩;obtain ⟨d,s,r,k⟩:=hall st2 (fun x l=>c.ev l) c.blk;refine ⟨(⟨st2.sl,d,st2.nx⟩ : AS).putD o.dst v,Yo _ _ _,fun base=>qk5 (qfk w (c.guard.trans y) s),fun t h=>by rw [Z7,qp h];rfl,fun t h=>by rw [Z7,Z7,qq h,qq h],fun m a=>?_,fun m a=>?_⟩
    · rw [Yn,Yn];exact r m a
    · rw [Yn];exact k m a
  | new mk b hp1 hk hv p hmem hhp hnone hall=>
    subst p;obtain ⟨es,xs,rfl⟩:=qqn u rfl hd;refine ⟨by rw [Yo];exact Nat.le_succ _,fun t h=>by rw [Z7,qp h];rfl,fun m a=>?_,fun m a h=>?_,fun m p n=>?_,fun st2 q c j=>?_⟩
    · rw [Yn,Kw,qp (by rintro rfl;exact a hmem)];exact hhp m a
    · rw [Yo] at a;rw [Yn,Kw,qp (by simp only at a;omega)];exact hnone m h
    · rw [Yo] at n;grind
    · rw [Yo] at q j ⊢;simp only at q j;obtain ⟨d,s,r,k,k4⟩:=hall st2 (fun x l=>c.ev l) c.blk;have f:=j st.nx (Nat.le_refl _) q6;refine ⟨(⟨st2.sl,(st.nx,.dat es xs)::d,st2.nx⟩ : AS).putD o.dst (mk st.nx),Yo _ _ _,fun base=>qk4 w (c.guard.trans y) hk s q6 f k4 (fun m a=>?_),fun t h=>by rw [Z7,qp h];rfl,fun t h=>by rw [Z7,Z7,qq h,qq h,hv],fun m a=>?_,fun m a=>?_⟩
      · by_cases z : m∈(fp st o.op).2
        · rw [r m z];refine hnone m ?_;rw [← c.blk.1 m z];exact a
        grind
      · rw [Yn,Yn,Kw,Kw];grind
      · rw [Yn,Kw,qp (by rintro rfl;exact a hmem)];exact k m a
theorem q11t {n es : Nat} {xs : List (List DV)} {hp2 : List (Nat × Blk)} (hT : Z4 P T) (hg : Qx ops st o = some true) (ho : opFn T st o.op = some (.hs n es 0 xs.length,st1)) (q : n = st.nx∧st1.nx = n + 1) (z : st1.hp = (n,.dat es xs)::hp2) (hf : find hp2 n = none) :
    Jq P ops o (fp st o.op) st (({sl:=st1.sl,hp:=hp2,nx:=st1.nx} : AS).putD o.dst (.d (.sl es xs))):=by
  obtain ⟨rfl,aj⟩:=q
  cases qlj ho with
  | calm hsl hnx hhp hnone hall=>omega
  | new mk b hp1 hk hv u hmem hhp hnone hall=>
    subst u;simp only [List.cons.injEq,Prod.mk.injEq,true_and] at z;obtain ⟨rfl,rfl⟩:=z;refine ⟨by rw [Yo];exact Nat.le_succ _,fun t h=>by rw [Z7,qp h];rfl,fun m g=>by rw [Yn];exact hhp m g,fun m g h=>by rw [Yn];exact hnone m h,fun m u h2=>?_,fun st2 q r k=>?_⟩
    · rw [Yo] at h2;grind
    · rw [Yo] at q k ⊢;simp only at q k;obtain ⟨j,k1,v,k3,k4⟩:=hall st2 (fun x hx=>r.ev hx) r.blk;have c:=k st.nx (Nat.le_refl _) q6
      have f : ∀ m,find st2.hp m = none→find j m = none:=fun m g=>by
        by_cases y : m∈(fp st o.op).2
        · rw [v m y];refine hnone m ?_;rw [← r.blk.1 m y];exact g
        grind
      refine ⟨(⟨st2.sl,j,st2.nx⟩ : AS).putD o.dst (.d (.sl es xs)),Yo _ _ _,fun base=>?_,fun t h=>by rw [Z7,qp h];rfl,fun t h=>by rw [Z7,Z7,qq h,qq h],fun m g=>by rw [Yn,Yn];exact v m g,fun m g=>by rw [Yn];exact k3 m g⟩;intro ro Q w Z inj a Ds K h hd p hb s l hK;refine qk4 (base:=base) hT (r.guard.trans hg) hk k1 q6 c k4 f ro Q w Z inj a Ds K h hd p hb s l fun a' w' hp=>hK a' w' ?_;rw [← hv] at hp;exact quz (st1:=⟨st2.sl,(st.nx,.dat es xs)::j,st2.nx⟩) hb hp rfl (f _ c) p
theorem q12n {hp hp2 : List (Nat × Blk)} (h : ∀ m,find hp2 m = find hp m) : ∀ k,toD hp2 k = toD hp k:=by
  intro k
  induction k with
  | zero=>funext v;cases v <;> rfl
  | succ k ih=>funext v;cases v <;> simp only [toD,ih,h]
theorem qhy {hp hp2 : List (Nat × Blk)} (h : ∀ m,find hp2 m = find hp m) : ∀ {a : List V},Ku hp2 a = Ku hp a
  | []=>rfl
  | v::r=>by simp only [Ku,q12n h,qhy h]
theorem qhz {hp hp2 : List (Nat × Blk)} : ∀ {a : List V},a.all V.isD = true→Ku hp2 a = Ku hp a
  | [],_=>rfl
  | v::r,h=>by
    simp only [List.all_cons,Bool.and_eq_true] at h
    have e : toD hp2 8 v = toD hp 8 v:=by
      cases v <;> first | rfl | (simp [V.isD] at h;done)
    rw [Ku,Ku,e,qhz (hp:=hp) (hp2:=hp2) h.2]
theorem q11r {c : Call} {f : FuncId} {b : List V} {ds : List DV} {v : V} {hp' : List (Nat × Blk)} {nx' : Nat} {n r : DV} (p : Qx ops st o = some true) (m : o.op = .call c) (q : callee st c = some (f,b))
    (j : Ku st.hp b = some ds) (a : Jm P f (ds.map .d) [] 0 v hp' nx') (k : toD hp' 8 v = some n) (l : DLe n r) (hs : b.all V.isD = true∨r.scalar = true) : Jq P ops o (fpC b) st (st.putD o.dst (.d r)):=by
  refine qo2 (by unfold fpC;cases b.all V.isD <;> rfl) fun st2 g=>qk6 (g.guard.trans p) m ((g.callee m).trans q) ?_ a k l hs;rw [← j];by_cases hd : b.all V.isD = true
  · exact qhz hd
  · have h:=g.blk.2;simp only [fpC,hd,qx] at h;exact qhy h
theorem qrm {ops : Array Oper} {o : Oper} {c : Call} {f : FuncId} {vs bc : List V} {hp0 hp' am ay : List (Nat × Blk)} {k k' ap : Nat} {v' vN : V} {ρ ρ3 : Nat→Nat} {cm ao : List Nat} (hg : Qx ops st o = some true) (ho : o.op = .call c) (hc : callee st c = some (f,vs)) (cb : vs.length = bc.length)
    (ch : Wk 0 ρ [] [] {sl:=Y9 0 vs,hp:=st.hp,nx:=st.nx} {sl:=Y9 0 bc,hp:=hp0,nx:=k}) (an : Jm P f bc hp0 k v' hp' k') (bv : Wk 0 ρ3 cm ao {sl:=[(0,v')],hp:=hp',nx:=k'} {sl:=[(0,vN)],hp:=am,nx:=ap})
    (hb : Back ρ ρ3 ao k k' st.nx ap st.hp am ay) : Jo P base ops o st ({sl:=st.sl,hp:=ay,nx:=ap : AS}.putD o.dst vN):=by
  intro ro Q w Z inj a Ds K h hd bn _ hK;unfold Ui;rw [q3l h hg];simp only [if_true];refine ⟨fun _ _=>trivial,?_⟩;obtain ⟨xs,hr,hl⟩:=qeq h ho hc an.1;rw [show (Fw ro).round = ro from rfl,Oper.semAt_eq ro _ o (by rintro c' h';rw [ho] at h';cases h'),hr,Oper.uponIn_enter];refine ⟨fun h=>by simp [Fw] at h,?_⟩
  have bm : RelS w Z inj {sl:=Y9 0 vs,hp:=st.hp,nx:=st.nx} {a with tmps:=xs,defers:=[]} []:=by
    refine ⟨fun t v ht=>?_,h.heap,rfl,List.nodup_nil,qf⟩;rw [qbv] at ht;simp only [Nat.zero_le,if_true,Nat.sub_zero] at ht;obtain ⟨y,hy⟩:=Yd (xs:=xs) (i:=t) (by rw [← hl.1];exact Kg ht);exact ⟨y,hy,hl.2 t v y ht hy⟩
  obtain ⟨cd,ah⟩:=q26 bm ch
  have cu : LRel w (wkZ Z inj {sl:=Y9 0 vs,hp:=st.hp,nx:=st.nx} []) (wkI inj ρ []) k bc xs:=by
    refine ⟨by rw [← cb];exact hl.1,fun i d y cz cy=>?_⟩;obtain ⟨y',bz,hr⟩:=cd.slots i d (by rw [qbv];simpa using cz);rw [cy] at bz;cases bz;exact hr
  refine CallsIn.mono (an.2 w _ _ xs cd.heap cu) ?_;rintro e w' ⟨x,Z',inj',rfl,hh,bt,hv,hn⟩;obtain ⟨s,af⟩ : ∃ s : Inj,s = fun n=>if n < k' then inj' n else none:=⟨_,rfl⟩
  have ab : ∀ n,n < k'→s n = inj' n:=fun n hn=>by rw [af];simp [hn]
  have da : RelH w' Z' s hp' k':=by
    refine ⟨fun n b hb=>?_,fun n m b c p q l j u h4 h5 h6=>?_,fun n b p l j u=>?_,hh.zs,hh.zc⟩
    · obtain ⟨k1,k2⟩:=hh.blk n b hb;exact ⟨k1,qmn k2 (fun m p hm hp=>(ab m hm).trans hp) k1 (fun hp=>(ab n k1).trans hp)⟩
    · rw [ab n (hh.blk n b l).1] at h5;rw [ab m (hh.blk m c j).1] at h6;exact hh.sep n m b c p q l j u h4 h5 h6
    · rw [ab n (hh.blk n b l).1] at u;exact hh.out n b p l j u
  have de : RelV w' Z' s k' v' x:=q9s hv fun n p hn hp=>(ab n hn).trans hp
  have bo : ∀ b,im hp' s b→im hp' inj' b:=by
    rintro b ⟨n,blk,o,l,j,u⟩;exact ⟨n,blk,o,l,j,by rw [← ab n (hh.blk n blk l).1];exact u⟩
  have bh : RelS w' Z' s {sl:=[(0,v')],hp:=hp',nx:=k'} {a with tmps:=#[x],defers:=[]} []:=by
    refine ⟨fun t v ht=>?_,da,rfl,List.nodup_nil,qf⟩;rw [Kw] at ht;split at ht
    · rename_i e;subst e;cases ht;exact ⟨x,rfl,de⟩
    · simp [find] at ht
  obtain ⟨ac,aj⟩:=q26 bh bv;generalize du : wkZ Z' s {sl:=[(0,v')],hp:=hp',nx:=k'} cm = Z3 at ac aj;generalize ca : wkI s ρ3 ao = z at ac aj
  have df : RelV w' Z3 z ap vN x:=by
    obtain ⟨y,hy,hr⟩:=ac.slots 0 vN (by simp [find]);simp at hy;subst hy;exact hr
  have bg : ∀ i,i < k→inj' i = inj (ρ i):=fun i hi=>by rw [bt.pinj i hi];simp [wkI]
  have cf : ∀ m,m < st.nx→∀ p,z m = some p→inj m = some p:=by
    intro m hm p hp;have bb : m ∉ ao:=fun hc=>by have:=hb.phn m hc;omega
    rw [← ca] at hp;simp only [wkI,bb,if_false] at hp;rcases hb.snd m hm with ⟨l,j⟩ | l
    · rw [af] at hp;simp only [show ρ3 m < k' by omega,if_true] at hp;rw [bg _ l,j] at hp;exact hp
    · rw [af] at hp;simp [show ¬ ρ3 m < k' by omega] at hp
  obtain ⟨r,ag⟩ : ∃ r : Inj,r = fun m=>if m < st.nx then inj m else z m:=⟨_,rfl⟩
  have aa : ∀ m,m < st.nx→r m = inj m:=fun m hm=>by rw [ag];simp [hm]
  have bx : ∀ m p,z m = some p→r m = some p:=fun m p hp=>by
    by_cases hm : m < st.nx
    · rw [aa m hm];exact cf m hm p hp
    · rw [ag];simp [hm,hp]
  have hR : ∀ m b,find am m = some b→∀ p,r m = some p→z m = some p:=by
    intro m b bj p hp;by_cases hm : m < st.nx
    · rw [aa m hm] at hp;have bb : m ∉ ao:=fun hc=>by have:=hb.phn m hc;omega
      obtain ⟨_,j⟩:=bv.blocks m b bj;rcases j with ⟨j,_⟩ | ⟨_,b0,u,_⟩
      · exact absurd j bb
      · have dg:=(hh.blk _ _ u).1;rcases hb.snd m hm with ⟨k1,k2⟩ | k1
        · rw [← ca];simp only [wkI,bb,if_false];rw [ab _ q6,bg _ k1,k2];exact hp
        · omega
    · rw [ag] at hp;simpa [hm] using hp
  have hE : Ext w (wkZ Z inj {sl:=Y9 0 vs,hp:=st.hp,nx:=st.nx} []) (wkI inj ρ []) hp0 w' Z' inj' hp' 0:=bt.pin_le (Nat.zero_le _)
  have dc : ∀ b,im am z b→im st.hp inj b∨w.heap.size≤b:=by
    intro b cr;rcases aj.imm b cr with l | l
    · rcases hE.imm b (bo b l) with j | j
      · exact ah.imm b j
      · exact .inr j
    · exact .inr (Nat.le_trans hE.size l)
  have keep : ∀ b,b < w.heap.size→¬ im hp0 (wkI inj ρ []) b→w'.heap[b]? = w.heap[b]?:=fun b cv dd=>hE.keep b cv dd
  have aq : ∀ m b p,find st.hp m = some b→live b = true→inj m = some p→(∀ i,i < k→ρ i≠m)→¬ im hp0 (wkI inj ρ []) p.1:=by
    rintro m b p l j u h4 ⟨i,blk,o,g1,g2,g3⟩;obtain ⟨j1,j2⟩:=ch.blocks i blk g1;rcases j2 with ⟨j2,_⟩ | ⟨_,b0,j3,j4⟩
    · cases j2
    · have cw : inj (ρ i) = some (p.1,o):=by simpa [wkI] using g3
      exact h.heap.sep (ρ i) m b0 b _ p j3 l (qok j4 g2) j cw u (h4 i j1) rfl
  have hZ : ∀ b,Z b→Z3 b:=fun b hz=>aj.zin b (hE.zin b (ah.zin b hz))
  have ce : ∀ b,Z3 b→Z b∨im hp0 (wkI inj ρ []) b∨w.heap.size≤b:=by
    intro b hz;rcases aj.zout b hz with l | l | l
    · rcases hE.zout b l with j | j | j
      · rcases ah.zout b j with u | u | u
        · exact .inl u
        · rcases j with j | ⟨n,hn,_⟩
          · exact .inl j
          · cases hn
        · exact .inr (.inr u)
      · exact .inr (.inl j)
      · exact .inr (.inr j)
    · rcases hE.imm b (bo b l) with j | j
      · exact .inr (.inl j)
      · exact .inr (.inr j)
    · exact .inr (.inr (Nat.le_trans hE.size l))
  have bf : Zv w w':=hE.big;have az : qbp w w':=hE.loops
  have cn : Ext w Z inj st.hp w' Z3 r ay st.nx:=by
    refine ⟨hE.size,fun b l j=>keep b l (fun u=>(ah.imm b u).elim j (fun h4=>q6)),?_,bf,az,hZ,?_,aa,hE.tape,hE.os,hE.output,hE.frz⟩
    · rintro b ⟨m,blk,o,g1,g2,g3⟩;rcases hb.old m blk g1 with g4 | ⟨g4,_⟩
      · exact dc b ⟨m,blk,o,g4,g2,hR m blk g4 _ g3⟩
      · exact .inl ⟨m,blk,o,g4,g2,by rw [← aa m (h.heap.blk m blk g4).1];exact g3⟩
    · intro b hz;rcases ce b hz with l | l | l
      · exact .inl l
      · exact .inr ((ah.imm b l).imp (fun x=>x) (fun x=>x))
      · exact .inr (.inr l)
  have hH : RelH w' Z3 r ay ap:=by
    refine ⟨fun m b bj=>?_,fun m n b c p q l j u h4 h5 h6 cg=>?_,fun m b p l j u hz=>?_,ac.heap.zs,ac.heap.zc⟩
    · rcases hb.old m b bj with g | ⟨g,gi⟩
      · obtain ⟨k1,k2⟩:=ac.heap.blk m b g;refine ⟨k1,qmn k2 (fun n p _ hp=>bx n p hp) k1 fun hp=>?_⟩
        cases hq : r m with
        | none=>rfl
        | some p=>rw [hR m b g p hq] at hp;cases hp
      · obtain ⟨k1,k2⟩:=h.heap.blk m b g;refine ⟨Nat.lt_of_lt_of_le k1 hb.nxs,k2.mono (fun b' hz=>?_) hZ bf (fun n hn=>aa n hn) hb.nxs k1 fun p hp cj=>?_⟩
        · refine keep b' (h.heap.zs b' hz) fun hi=>?_;rcases ah.imm b' hi with l | l
          · exact h.heap.z_im hz l
          · have:=h.heap.zs b' hz;omega
        · exact keep _ (h.heap.im_lt ⟨m,b,p.2,g,cj,hp⟩) (aq m b p g cj hp gi)
    · have ar : ∀ (m n : Nat) (b c : Blk) (p q : Nat × Nat),find am m = some b→live b = true→r m = some p→find st.hp n = some c→live c = true→r n = some q→(∀ i,i < k→ρ i≠n)→p.1≠q.1:=by
        intro m n b c p q l u h5 j h4 h6 hn e;have hq : inj n = some q:=by rw [← aa n (h.heap.blk n c j).1];exact h6
        have dg:=h.heap.im_lt (b:=q.1) ⟨n,c,q.2,j,h4,hq⟩;rcases aj.imm p.1 ⟨m,b,p.2,l,u,hR m b l p h5⟩ with g1 | g1
        · rcases hE.imm p.1 (bo _ g1) with g2 | g2
          · exact aq n c q j h4 hq hn (e ▸ g2)
          · omega
        · have:=hE.size;omega
      rcases hb.old m b l with g | ⟨g,gi⟩ <;> rcases hb.old n c j with g' | ⟨g',cx⟩
      · exact ac.heap.sep m n b c p q g g' u h4 (hR m b g p h5) (hR n c g' q h6) cg
      · exact ar m n b c p q g u h5 g' h4 h6 cx
      · exact fun e=>ar n m c b q p g' h4 h6 g u h5 gi e.symm
      · exact h.heap.sep m n b c p q g g' u h4 (by rw [← aa m (h.heap.blk m b g).1];exact h5) (by rw [← aa n (h.heap.blk n c g').1];exact h6) cg
    · rcases hb.old m b l with g | ⟨g,gi⟩
      · exact ac.heap.out m b p g j (hR m b g p u) hz
      · have hq : inj m = some p:=by rw [← aa m (h.heap.blk m b g).1];exact u
        rcases ce p.1 hz with h4 | h4 | h4
        · exact h.heap.out m b p g j hq h4
        · exact aq m b p g j hq gi h4
        · have:=h.heap.im_lt (b:=p.1) ⟨m,b,p.2,g,j,hq⟩;omega
  exact hK _ _ (q3q h bn cn hH hb.nxs (q9s df fun n p _ hp=>bx n p hp) hd)
theorem q11v {c : Call} {f : FuncId} {b : List V} {v : V} {hp' : List (Nat × Blk)} {nx' : Nat} (d : Qx ops st o = some true) (g : o.op = .call c) (h : callee st c = some (f,b)) (a : Jm P f b st.hp st.nx v hp' nx') :
    Jo P base ops o st ({sl:=st.sl,hp:=hp',nx:=nx' : AS}.putD o.dst v):=qrn d g h a
inductive Zn (P : Program) (base : Nat) (ops : Array Oper) : List Oper→AS→AS→Prop
  | nil {st : AS} : Zn P base ops [] st st
  | cons {o : Oper} {l : List Oper} {st st1 st2 : AS} : Jo P base ops o st st1→Zn P base ops l st1 st2→Zn P base ops (o::l) st st2
  | wk {ρ : Nat→Nat} {fz ph : List Nat} {l : List Oper} {st st1 st2 : AS} : Wk base ρ fz ph st st1→Zn P base ops l st1 st2→Zn P base ops l st st2
inductive Jn (P : Program) (base : Nat) (ops : Array Oper) (F : List Fp) : List Oper→AS→AS→Prop
  | nil {st : AS} : Jn P base ops F [] st st
  | cons {o : Oper} {l : List Oper} {st st1 st2 : AS} : Jq P ops o (fpAt F l.length) st st1→Jn P base ops F l st1 st2→Jn P base ops F (o::l) st st2
  | piv {o : Oper} {l : List Oper} {st st1 st2 : AS} : Ud (fpAt F l.length) = true→Zn P base ops [o] st st1→Jn P base ops F l st1 st2→Jn P base ops F (o::l) st st2
def q15 (P : Program) (base : Nat) (ops : Array Oper) (dr : Dr) (l : List Oper) (st st' : AS) : Prop:=match dr with
  | none=>Zn P base ops l st st'
  | some F=>Jn P base ops F l st st'
theorem qik {F : List Fp} : ∀ {l : List Oper} {st st' : AS},Jn P base ops F l st st'→∃ (n : Nat) (S : Nat→AS),n≤l.length∧S 0 = st∧(∀ i o,i < n→l[i]? = some o→Jq P ops o (fpAt F (l.length - (i + 1))) (S i) (S (i + 1)))∧
    ((n = l.length∧S n = st')∨∃ o st1,l[n]? = some o∧Ud (fpAt F (l.length - (n + 1))) = true∧Zn P base ops [o] (S n) st1∧Jn P base ops F (l.drop (n + 1)) st1 st')
  | [],st,st',h=>by cases h;exact ⟨0,fun _=>st,Nat.le_refl _,rfl,fun i o h=>q6,.inl ⟨rfl,rfl⟩⟩
  | o::l,st,st',h=>by
    cases h with
    | @cons _ _ _ st1 _ h1 h2=>
      obtain ⟨n,S,p,m,hs,b⟩:=qik h2
      refine ⟨n + 1,fun i=>match i with | 0=>st | i + 1=>S i,by simp;omega,rfl,fun i f hi d=>?_,?_⟩
      · cases i with
        | zero=>simp at d;subst d;simp only [m,List.length_cons,Nat.zero_add,Nat.add_sub_cancel];exact h1
        | succ i=>
          have:=hs i f q6 (by simpa using d)
          simp only [List.length_cons]
          rw [show l.length + 1 - (i + 1 + 1) = l.length - (i + 1) by omega]
          exact this
      · rcases b with ⟨a,c⟩ | ⟨f,g,a,c,j,k⟩
        · exact .inl ⟨by simp [a],c⟩
        · refine .inr ⟨f,g,by simpa using a,?_,j,by simpa using k⟩
          rw [List.length_cons,show l.length + 1 - (n + 1 + 1) = l.length - (n + 1) by omega]
          exact c
    | @piv _ _ _ st1 _ h1 h2 a=>exact ⟨0,fun _=>st,Nat.zero_le _,rfl,fun i o h=>q6,.inr ⟨o,st1,rfl,by simpa using h1,h2,by simpa using a⟩⟩
theorem qpk {dr : Dr} {l : List Oper} {st2 : AS} (a : Qx ops st o = some false) (h : q15 P base ops dr l (st.putD o.dst (.d (.tup []))) st2) : q15 P base ops dr (o::l) st st2:=by
  cases dr with
  | none=>exact .cons (qk7 a) h
  | some F=>exact .cons ((q11u a).mono (qjt _)) h
theorem qpi {dr : Dr} {l : List Oper} {st2 : AS} {v : V} (d : Z4 P T) (b : Qx ops st o = some true) (c : opFn T st o.op = some (v,st1)) (a : okO dr l.length st o.op st1 = true) (h : q15 P base ops dr l (st1.putD o.dst v) st2) : q15 P base ops dr (o::l) st st2:=by
  cases dr with
  | none=>exact .cons (qfk d b c) h
  | some F=>
    simp only [okO,Bool.and_eq_true] at a;exact .cons ((q11s d b c a.2).mono a.1) h
theorem qpj {dr : Dr} {l : List Oper} {st2 : AS} {n es : Nat} {xs : List (List DV)} {hp2 : List (Nat × Blk)} (j : Z4 P T) (b : Qx ops st o = some true) (f : opFn T st o.op = some (.hs n es 0 xs.length,st1)) (c : n = st.nx∧st1.nx = n + 1) (g : st1.hp = (n,.dat es xs)::hp2) (a : find hp2 n = none) (k : okF dr l.length (fp st o.op) = true)
    (h : q15 P base ops dr l (({sl:=st1.sl,hp:=hp2,nx:=st1.nx} : AS).putD o.dst (.d (.sl es xs))) st2) : q15 P base ops dr (o::l) st st2:=by
  cases dr with
  | none=>exact .cons (qro j b f (Nat.le_of_eq c.1.symm) g a) h
  | some F=>exact .cons ((q11t j b f c g a).mono k) h
theorem qph {dr : Dr} {l : List Oper} {st2 : AS} {c : Call} {f : FuncId} {k : List V} {ds : List DV} {v : V} {hp' : List (Nat × Blk)} {nx' : Nat} {p r : DV} (n : Qx ops st o = some true) (m : o.op = .call c) (q : callee st c = some (f,k))
    (b : Ku st.hp k = some ds) (a : Jm P f (ds.map .d) [] 0 v hp' nx') (g : toD hp' 8 v = some p) (j : DLe p r) (hs : k.all V.isD = true∨r.scalar = true) (s : okF dr l.length (fpC k) = true) (h : q15 P base ops dr l (st.putD o.dst (.d r)) st2) : q15 P base ops dr (o::l) st st2:=by
  cases dr with
  | none=>exact .cons (qk6 n m q b a g j hs) h
  | some F=>exact .cons ((q11r n m q b a g j hs).mono s) h
def Adm (ops : Array Oper) (S : Nat→Prop) : Prop:=∀ j o,S j→ops[j]? = some o→∀ e∈o.after,Region.binds .any e = true→S e.on
def Behind (ops : Array Oper) (o : Oper) (j : Nat) : Prop:=∀ S : Nat→Prop,Adm ops S→(∀ e∈o.after,Region.binds .any e = true→S e.on)→S j
theorem ql1 (acc : List Nat) (j : Nat) : ∀ (l : List Edge) (s : Nat),(l.foldl (fun s e=>if Region.binds .any e then s ||| 2 ^ e.on ||| acc.getD e.on 0 else s) s).testBit j = true→
    s.testBit j = true∨∃ e∈l,Region.binds .any e = true∧(e.on = j∨(acc.getD e.on 0).testBit j = true)
  | [],s,h=>.inl h
  | e::l,s,h=>by
    simp only [List.foldl_cons] at h
    rcases ql1 acc j l _ h with h | ⟨c,d,a,b⟩
    · by_cases hb : Region.binds .any e = true
      · simp only [hb,if_true,Nat.testBit_or,Bool.or_eq_true,Nat.testBit_two_pow] at h
        rcases h with (h | h) | h
        · exact .inl h
        · exact .inr ⟨e,qf,hb,.inl (by simpa using h)⟩
        · exact .inr ⟨e,qf,hb,.inr h⟩
      · simp only [hb] at h;exact .inl (by simpa using h)
    · exact .inr ⟨c,List.mem_cons_of_mem _ d,a,b⟩
theorem ql2 : ∀ (r : List Oper) (pre : List Oper) (acc : List Nat),ops.toList = pre ++ r→acc.length = pre.length→
    (∀ (i m : Nat),acc[i]? = some m→∃ o,ops[i]? = some o∧∀ j,m.testBit j = true→Behind ops o j)→
    (masks acc r).length = ops.size∧∀ (i m : Nat),(masks acc r)[i]? = some m→∃ o,ops[i]? = some o∧∀ j,m.testBit j = true→Behind ops o j
  | [],pre,acc,h,hl,ha=>by
    refine ⟨?_,ha⟩
    have:=congrArg List.length h
    simp at this
    simp [masks,hl,this]
  | o::r,pre,acc,h,hl,ha=>by
    refine ql2 r (pre ++ [o]) (acc ++ [ql0 acc o]) (by rw [h];simp) (by simp [hl]) ?_
    intro i m b
    by_cases hi : i < acc.length
    · rw [List.getElem?_append_left hi] at b;exact ha i m b
    · rw [List.getElem?_append_right q6] at b
      have d : i = acc.length:=by
        have:=Kg b;simp at this;omega
      subst d
      simp at b;subst b
      refine ⟨o,by rw [← Array.getElem?_toList,h,hl];simp,fun j v S n q=>?_⟩
      rcases ql1 acc j _ _ v with p | ⟨e,s,t,a⟩
      · simp at p
      · have c:=q e (by simpa using s) t
        rcases a with a | a
        · exact a ▸ c
        · rw [List.getD_eq_getElem?_getD] at a
          cases l : acc[e.on]? with
          | none=>rw [l] at a;simp at a
          | some m'=>
            rw [l] at a;obtain ⟨w,k,hb⟩:=ha _ _ l;exact hb j a S n (fun u g f=>n _ _ c k u g f)
theorem qj8 : ∀ (l : List Oper) (n : Nat),qc6 n l = true→∀ i o,l[i]? = some o→∀ e∈o.after,Region.binds .any e = true→e.on < n + i
  | [],_,_,i,o,h=>by simp at h
  | x::l,n,h,i,o,ho=>by
    simp only [qc6,Bool.and_eq_true,List.all_eq_true] at h
    cases i with
    | zero=>
      simp at ho;subst ho
      intro e a hb
      have:=h.1 e (by simpa using a)
      simp [hb] at this
      exact this
    | succ i=>
      intro e a hb
      have:=qj8 l (n + 1) h.2 i o (by simpa using ho) e a hb
      omega
structure q8c (x y : Fp) : Prop where
  ww : ∀ m∈x.2,m ∉ y.2
  rw : ∀ m∈y.2,match x.1 with | none=>False | some r=>m ∉ r
  wr : ∀ m∈x.2,match y.1 with | none=>False | some r=>m ∉ r
theorem qeh {a b : List Nat} (h : q8f a b = true) : ∀ m∈a,m ∉ b:=fun m c hb=>by
  simp only [q8f,List.all_eq_true] at h
  have:=h m c
  rw [ql4 hb] at this;cases this
theorem qov {x y : Fp} (h : qeg x y = true) : q8c x y:=by
  simp only [qeg,Bool.and_eq_true] at h;obtain ⟨⟨f,c⟩,b⟩:=h;refine ⟨qeh f,fun m a=>?_,fun m a=>?_⟩
  · revert c
    cases x.1 with
    | none=>intro c;rw [List.isEmpty_iff] at c;rw [c] at a;cases a
    | some r=>intro c d;exact qeh c m d a
  · revert b
    cases y.1 with
    | none=>intro b;rw [List.isEmpty_iff] at b;rw [b] at a;cases a
    | some r=>intro b d;exact qeh b m d a
structure q8d (F : List Fp) (ops : Array Oper) : Prop where
  edges : ∀ j o,ops[j]? = some o→∀ e∈o.after,Region.binds .any e = true→e.on < j
  pairs : ∀ i j a b,i < j→ops[i]? = some a→ops[j]? = some b→Behind ops b i∨(q8c (fpAt F (ops.size - (i + 1))) (fpAt F (ops.size - (j + 1)))∧(∀ t∈reads ops a,b.dst≠some t)∧(∀ t∈reads ops b,a.dst≠some t)∧∀ t,a.dst = some t→b.dst≠some t)
  pivs : ∀ i j a b,i < j→ops[i]? = some a→ops[j]? = some b→(Ud (fpAt F (ops.size - (i + 1))) = true∨Ud (fpAt F (ops.size - (j + 1))) = true)→Behind ops b i
theorem qop {α : Type} {l : List α} {i : Nat} {x : α} (h : l[i]? = some x) : (x,i)∈l.zipIdx:=by grind
theorem qf7 {o : Oper} {t : Tmp} : q8s o t = true↔o.dst = some t:=by
  unfold q8s
  cases o.dst with
  | none=>simp
  | some d=>simp
theorem qqq {F : List Fp} (h : q8r F ops = true) : q8d F ops:=by
  simp only [q8r,Bool.and_eq_true,List.all_eq_true] at h;obtain ⟨q,r⟩:=h;obtain ⟨w,v⟩:=ql2 (ops:=ops) ops.toList [] [] rfl rfl qf;have d : ∀ (i : Nat) (o : Oper),ops[i]? = some o→ops.toList[i]? = some o:=fun i o l=>by rw [Array.getElem?_toList];exact l
  have main : ∀ i j a b,i < j→ops[i]? = some a→ops[j]? = some b→Behind ops b i∨((Ud (fpAt F (ops.size - (i + 1))) = false∧Ud (fpAt F (ops.size - (j + 1))) = false)∧(q8c (fpAt F (ops.size - (i + 1))) (fpAt F (ops.size - (j + 1)))∧(∀ t∈reads ops a,b.dst≠some t)∧(∀ t∈reads ops b,a.dst≠some t)∧∀ t,a.dst = some t→b.dst≠some t)):=fun i j a b c g hb=>by
    have:=r _ (qop (d j b hb)) _ (qop (d i a g));simp only [Bool.or_eq_true] at this;rcases this with (h | h) | h
    · have p : Nat.blt i j = true:=by rw [Nat.blt_eq];exact c
      grind
    · grind
    · right;simp only [Bool.and_eq_true,Bool.not_eq_true'] at h;obtain ⟨⟨⟨hp1,hp2⟩,h⟩,s⟩:=h;simp only [qi1,Bool.and_eq_true,List.all_eq_true,Bool.not_eq_true'] at h;obtain ⟨⟨m,u⟩,k⟩:=h;refine ⟨⟨hp1,hp2⟩,qov s,fun t f hd=>?_,fun t f hd=>?_,fun t f hd=>?_⟩
      · have:=m t f;rw [qf7.2 hd] at this;cases this
      · have:=u t f;rw [qf7.2 hd] at this;cases this
      · rw [f] at k;simp only at k;rw [qf7.2 hd] at k;simp at k
  refine ⟨fun j o l e n hb=>?_,fun i j a b c g hb=>(main i j a b c g hb).imp id And.right,fun i j a b c g hb hp=>?_⟩
  · have:=qj8 _ 0 q j o (d j o l) e n hb;omega
  grind
end
end Go.Am
namespace Go.Am
open Go
variable {P : Program}
section
variable {base : Nat} {ops : Array Oper}
theorem qfj {l : Array Bool} {i : Nat} : l.getD i false = true↔l[i]? = some true:=by
  rw [Array.getD_eq_getD_getElem?];cases l[i]? <;> simp
theorem qca {l : Array Bool} {i : Nat} : l.getD i true = false↔l[i]? = some false:=by
  rw [Array.getD_eq_getD_getElem?];cases l[i]? <;> simp
theorem qwa {w : World} {Z : Nat→Prop} {inj : Inj} {hp hp2 : List (Nat × Blk)} {nx : Nat} (h : RelH w Z inj hp nx) (hs : ∀ m,find hp2 m = find hp m) : RelH w Z inj hp2 nx:=by
  refine ⟨fun n b hb=>h.blk n b (by rw [← hs];exact hb),fun n m b c p q a d=>h.sep n m b c p q (by rw [← hs];exact a) (by rw [← hs];exact d),fun n b p a=>h.out n b p (by rw [← hs];exact a),h.zs,h.zc⟩
theorem qr6 {w w' : World} {Z Z' : Nat→Prop} {inj inj' : Inj} {hp hp' hp2 : List (Nat × Blk)} {pin : Nat} (h : Ext w Z inj hp w' Z' inj' hp' pin) (hs : ∀ m,find hp2 m = find hp' m) : Ext w Z inj hp w' Z' inj' hp2 pin:=
  {h with imm:=fun b hb=>h.imm b (by
      obtain ⟨n,c,o,f,d,a⟩:=hb
      exact ⟨n,c,o,by rw [← hs];exact f,d,a⟩)}
abbrev fpO (F : List Fp) (ops : Array Oper) (i : Nat) : Fp:=fpAt F (ops.size - (i + 1))
def CutS (ops : Array Oper) (listed : Array Bool) (t : Tmp) (m : Nat) : Prop:=∀ (i : Nat) (o : Oper),ops[i]? = some o→o.dst = some t→(listed[i]? = some true↔i < m)
def CutB (F : List Fp) (ops : Array Oper) (listed : Array Bool) (q m : Nat) : Prop:=∀ (i : Nat) (o : Oper),ops[i]? = some o→q∈(fpO F ops i).2→(listed[i]? = some true↔i < m)
structure Mid (F : List Fp) (ops : Array Oper) (S : Nat→AS) (lo hi : Nat) (listed : Array Bool) (st : AS) : Prop where
  nx : st.nx = (S hi).nx
  sl : ∀ t m,lo≤m→m≤hi→CutS ops listed t m→st.get t = (S m).get t
  hp : ∀ q m,lo≤m→m≤hi→CutB F ops listed q m→find st.hp q = find (S m).hp q
abbrev Steps (P : Program) (F : List Fp) (ops : Array Oper) (S : Nat→AS) (lo hi : Nat) : Prop:=∀ (i : Nat) (o : Oper),lo≤i→i < hi→ops[i]? = some o→Jq P ops o (fpO F ops i) (S i) (S (i + 1))
theorem qen {F : List Fp} {S : Nat→AS} {lo hi : Nat} (b : hi≤ops.size) (d : Steps P F ops S lo hi) {t : Tmp} {j : Nat} (a : lo≤j) : ∀ m,j≤m→m≤hi→(∀ (i : Nat) (o : Oper),j≤i→i < m→ops[i]? = some o→o.dst≠some t)→(S m).get t = (S j).get t
  | 0,h,_,_=>by have : j = 0:=q6;subst this;rfl
  | m + 1,h,hm,hno=>by
    by_cases f : j = m + 1
    · subst f;rfl
    · obtain ⟨o,c⟩:=Yd (xs:=ops) (i:=m) q6
      rw [(d m o q6 q6 c).sl t (hno m o q6 q6 c)]
      exact qen b d a m q6 q6 fun i o g k=>hno i o g q6
theorem qem {F : List Fp} {S : Nat→AS} {lo hi : Nat} (b : hi≤ops.size) (d : Steps P F ops S lo hi) {q j : Nat} (a : lo≤j) : ∀ m,j≤m→m≤hi→(∀ (i : Nat) (o : Oper),j≤i→i < m→ops[i]? = some o→q ∉ (fpO F ops i).2)→find (S m).hp q = find (S j).hp q
  | 0,h,_,_=>by have : j = 0:=q6;subst this;rfl
  | m + 1,h,hm,hno=>by
    by_cases f : j = m + 1
    · subst f;rfl
    · obtain ⟨o,c⟩:=Yd (xs:=ops) (i:=m) q6
      rw [(d m o q6 q6 c).hp q (hno m o q6 q6 c)]
      exact qem b d a m q6 q6 fun i o g k=>hno i o g q6
theorem q1q {F : List Fp} {S : Nat→AS} {lo hi : Nat} (b : hi≤ops.size) (c : Steps P F ops S lo hi) {j : Nat} (a : lo≤j) : ∀ m,j≤m→m≤hi→(S j).nx≤(S m).nx
  | 0,h,_=>by have : j = 0:=q6;subst this;exact Nat.le_refl _
  | m + 1,h,hm=>by
    by_cases f : j = m + 1
    · subst f;exact Nat.le_refl _
    · obtain ⟨o,d⟩:=Yd (xs:=ops) (i:=m) q6
      exact Nat.le_trans (q1q b c a m q6 q6) (c m o q6 q6 d).nx
theorem qkr {F : List Fp} {S : Nat→AS} {lo hi : Nat} (b : hi≤ops.size) (c : Steps P F ops S lo hi) (a : ∀ q,(S lo).nx≤q→find (S lo).hp q = none) : ∀ m,lo≤m→m≤hi→∀ q,(S m).nx≤q→find (S m).hp q = none
  | 0,hl,_,q,hq=>by have : lo = 0:=q6;subst this;exact a q hq
  | m + 1,hl,hm,q,hq=>by
    by_cases f : lo = m + 1
    · subst f;exact a q hq
    obtain ⟨o,d⟩:=Yd (xs:=ops) (i:=m) q6
    have hs:=c m o q6 q6 d
    exact hs.keys q hq (qkr b c a m q6 q6 q (Nat.le_trans hs.nx hq))
def Keep (ops : Array Oper) (S : Nat→AS) (lo hi : Nat) (base : Nat) (w0 : World) (Z0 : Nat→Prop) (inj0 : Inj) (hp0 : List (Nat × Blk)) (a0 : Act) (Ds0 : List Nat) (listed : Array Bool) (st : AS) (a : Act) (w : World) : Prop:=
  ∃ Z inj Ds,RelS w Z inj st a Ds∧Ext w0 Z0 inj0 hp0 w Z inj st.hp base∧a.tmps.size = a0.tmps.size∧(∀ D∈Ds,D∈Ds0∨w0.heap.size≤D)∧
    ∀ (i : Nat) (o : Oper),lo≤i→i < hi→ops[i]? = some o→listed[i]?≠some true→∀ m,(S i).nx≤m→m < (S (i + 1)).nx→inj m = none
theorem qj1 {l : Array Bool} {i : Nat} {n : Nat} (hi : l[i]? = some false) (b : l.toList.count false = n + 1) : (l.setIfInBounds i true).toList.count false = n:=by
  have a : i < l.toList.length:=by simpa using Zj hi
  rw [Array.toList_setIfInBounds,List.count_set a]
  have : l.toList[i] = false:=by
    have:=hi;rw [← Array.getElem?_toList,List.getElem?_eq_getElem a] at this;simpa using this
  simp [this,b]
theorem qmh {F : List Fp} (l : q8d F ops) {listed : Array Bool} (j : listed.size = ops.size) : ∀ (n i : Nat),i = n→listed[i]? = some false→Region.ready .any ops listed≠[]:=by
  intro n
  induction n using Nat.strongRecOn with
  | _ n ihn=>
    intro i g hi;subst g;obtain ⟨o,k⟩:=Yd (xs:=ops) (i:=i) (by rw [← j];exact Zj hi);by_cases a : ∀ e∈o.after,Region.binds .any e = true→listed.getD e.on false = true
    · intro d;have : i∈Region.ready .any ops listed:=mem_ready.2 ⟨qca.2 hi,o,k,a⟩;rw [d] at this;cases this
    · simp only [Classical.not_forall] at a;obtain ⟨e,m,hb,f⟩:=a;have h:=l.edges i o k e m hb;obtain ⟨b,c⟩:=Yd (xs:=listed) (i:=e.on) (by have:=Zj hi;omega)
      cases b with
      | true=>exact absurd (qfj.2 c) f
      | false=>exact ihn e.on h e.on rfl c
theorem qhw {listed : Array Bool} {i : Nat} {o : Oper} (f : Adm ops (fun i=>listed[i]? = some true)) (k : ops[i]? = some o) (m : listed[i]? = some false) (c : ∀ e∈o.after,Region.binds .any e = true→listed[e.on]? = some true) :
    (∀ (j : Nat),(listed.setIfInBounds i true)[j]? = some true↔(j = i∨listed[j]? = some true))∧Adm ops (fun j=>(listed.setIfInBounds i true)[j]? = some true):=by
  have a : ∀ (j : Nat),(listed.setIfInBounds i true)[j]? = some true↔(j = i∨listed[j]? = some true):=by
    intro j;by_cases b : j = i
    · subst b;simp [Zj m]
    · rw [Array.getElem?_setIfInBounds_ne (Ne.symm b)];simp [b]
  refine ⟨a,?_⟩;intro j l g d e h hb;rw [a] at g ⊢;rcases g with rfl | g
  · rw [k] at d;cases d;exact .inr (c e h hb)
  · exact .inr (f j l g d e h hb)
theorem qqs {F : List Fp} {S : Nat→AS} {lo hi : Nat} (az : lo≤hi) (aa : hi≤ops.size) (hD : q8d F ops) (hS : Steps P F ops S lo hi) (bd : ∀ (i j : Nat) (d : Oper),i < hi→hi≤j→ops[j]? = some d→Behind ops d i) (h0 : ∀ q,(S lo).nx≤q→find (S lo).hp q = none)
    {w0 : World} {Z0 : Nat→Prop} {inj0 : Inj} {hp0 : List (Nat × Blk)} {a0 : Act} {Ds0 : List Nat} {ro : Option Nat} {Q : Exit→Act→World→Prop} (bw : base≤(S lo).nx)
    (hd : ∀ (i : Nat) (o : Oper),ops[i]? = some o→J7 a0.tmps.size o.dst = true)
    (hQ : ∀ (fuel : Nat) (listed : Array Bool) (a' : Act) (w' : World),listed.size = ops.size→listed.toList.count false = fuel→Adm ops (fun i=>listed[i]? = some true)→(∀ (i : Nat),listed[i]? = some true↔i < hi)→
      (∃ Z inj Ds,RelS w' Z inj (S hi) a' Ds∧Ext w0 Z0 inj0 hp0 w' Z inj (S hi).hp base∧a'.tmps.size = a0.tmps.size∧base≤(S hi).nx∧(∀ D∈Ds,D∈Ds0∨w0.heap.size≤D))→Yj ro w'→wpAnyIn (Fw ro) 0 P .any ops Q fuel listed a' w') : ∀ (fuel : Nat) (listed : Array Bool) (a : Act) (w : World) (st : AS),
      listed.size = ops.size→listed.toList.count false = fuel→Adm ops (fun i=>listed[i]? = some true)→(∀ (i : Nat),i < lo→listed[i]? = some true)→(∀ (i : Nat),hi≤i→listed[i]?≠some true)→Keep ops S lo hi base w0 Z0 inj0 hp0 a0 Ds0 listed st a w→Yj ro w→Mid F ops S lo hi listed st→
      wpAnyIn (Fw ro) 0 P .any ops Q fuel listed a w:=by
  have fin : ∀ (fuel : Nat) (listed : Array Bool) (a : Act) (w : World) (st : AS),
      listed.size = ops.size→listed.toList.count false = fuel→Adm ops (fun i=>listed[i]? = some true)→(∀ (i : Nat),i < lo→listed[i]? = some true)→(∀ (i : Nat),hi≤i→listed[i]?≠some true)→Keep ops S lo hi base w0 Z0 inj0 hp0 a0 Ds0 listed st a w→Yj ro w→Mid F ops S lo hi listed st→
      (∀ (i : Nat),lo≤i→i < hi→listed[i]? = some true)→wpAnyIn (Fw ro) 0 P .any ops Q fuel listed a w:=by
    intro fuel listed a w st ae hc n x aj hp ad g ab
    have al : ∀ (i : Nat),listed[i]? = some true↔i < hi:=fun i=>⟨fun h=>by
      rcases Nat.lt_or_ge i hi with z | z
      · exact z
      · exact absurd h (aj i z),fun h=>by
      rcases Nat.lt_or_ge i lo with z | z
      · exact x i z
      · exact ab i z h⟩
    refine hQ fuel listed a w ae hc n al ?_ ad
    obtain ⟨Z,inj,Ds,z,h2,h3,h4,_⟩:=hp
    have br : ∀ q,find (S hi).hp q = find st.hp q:=fun q=>(g.hp q hi az (Nat.le_refl _) fun i o ho _=>al i).symm
    refine ⟨Z,inj,Ds,⟨fun t v ht=>?_,?_,z.defs,z.nodup,z.marks⟩,qr6 h2 br,h3,Nat.le_trans bw (q1q aa hS (Nat.le_refl _) _ az (Nat.le_refl _)),h4⟩
    · rw [← g.nx]
      refine z.slots t v ?_
      have:=g.sl t hi az (Nat.le_refl _) fun i o ho _=>al i
      exact this.trans ht
    · rw [← g.nx];exact qwa z.heap br
  intro fuel
  induction fuel with
  | zero=>
    intro listed a w st ae hc n x aj hp ad g;refine fin 0 listed a w st ae hc n x aj hp ad g fun i _ hi=>?_;have h:=List.count_eq_zero.1 hc;obtain ⟨b,hb⟩:=Yd (xs:=listed) (i:=i) q6
    cases b with
    | true=>exact hb
    | false=>exact absurd (by simpa using Array.mem_of_getElem? hb) h
  | succ fuel ih=>
    intro listed a w st ae hc n x aj hp ad g;by_cases ab : ∀ (i : Nat),lo≤i→i < hi→listed[i]? = some true
    · exact fin _ listed a w st ae hc n x aj hp ad g ab
    have bc : ∃ k : Nat,(lo≤k∧k < hi)∧listed[k]? = some false:=by
      simp only [Classical.not_forall] at ab;obtain ⟨k,z,h2,h3⟩:=ab;obtain ⟨b,hb⟩:=Yd (xs:=listed) (i:=k) q6
      cases b with
      | true=>exact absurd hb h3
      | false=>exact ⟨k,⟨z,h2⟩,hb⟩
    obtain ⟨k0,⟨dg,cf⟩,bx⟩:=bc;refine ⟨fun bo=>?_,fun i cb=>?_⟩
    · exact absurd bo (qmh hD ae k0 k0 rfl bx)
    · obtain ⟨z,o,ho,ba⟩:=mem_ready.1 cb;rw [qca] at z;have ap : ∀ e∈o.after,Region.binds .any e = true→(fun i=>listed[i]? = some true) e.on:=fun e he hb=>qfj.1 (ba e he hb);have ax : ∀ j,Behind ops o j→listed[j]? = some true:=fun j hb=>hb _ n ap;have s : lo≤i:=Nat.le_of_not_lt fun h=>by have:=x i h;rw [z] at this;cases this
      have ay : i < hi:=Nat.lt_of_not_le fun h=>by
        have:=ax k0 (bd k0 i o cf h ho);rw [bx] at this;cases this
      have av : ∀ (j : Nat) (d : Oper),ops[j]? = some d→Behind ops d i→listed[j]?≠some true:=by
        intro j d c hb hj;have:=hb (fun i=>listed[i]? = some true) n (fun e he cd=>n j d hj c e he cd);rw [z] at this;cases this
      obtain ⟨l,bb⟩:=qhw n ho z ap;have bm : (listed.setIfInBounds i true).size = ops.size:=by simp [ae]
      have cn:=qj1 z hc;have dl : i < ops.size:=Zj ho;have bk : listed[i]?≠some true:=by rw [z];simp
      have y : ∀ (j : Nat) (d : Oper),ops[j]? = some d→j≠i→(listed[j]? = some true↔j < i)∨(q8c (fpO F ops i) (fpO F ops j)∧(∀ t∈reads ops o,d.dst≠some t)∧∀ t,o.dst = some t→d.dst≠some t):=by
        intro j d c f;rcases Nat.lt_or_gt_of_ne f with h | h
        · rcases hD.pairs j i d o h c ho with hb | ⟨ha,h2,h3,h4⟩
          · exact .inl ⟨fun _=>h,fun _=>ax j hb⟩
          · exact .inr ⟨⟨fun m h5 h6=>ha.ww m h6 h5,ha.wr,ha.rw⟩,h3,fun t h5 h6=>h4 t h6 h5⟩
        · rcases hD.pairs i j o d h ho c with hb | ⟨ha,h2,h3,h4⟩
          · exact .inl ⟨fun p=>absurd p (av j d c hb),fun p=>q6⟩
          · exact .inr ⟨ha,h2,h4⟩
      have ao : ∀ m∈(fpO F ops i).2,find st.hp m = find (S i).hp m:=fun m hm=>by
        refine g.hp m i s q6 fun j d c ac=>?_;by_cases f : j = i
        · subst f;exact ⟨fun p=>absurd p bk,fun p=>absurd p (Nat.lt_irrefl _)⟩
        · rcases y j d c f with h | ⟨ha,_⟩
          · exact h
          · exact absurd ac (ha.ww m hm)
      have ci : Uj ops o (fpO F ops i) (S i) st:=by
        refine ⟨⟨ao,?_⟩,fun t ht=>?_⟩
        · have key : ∀ m,(∀ (j : Nat) (d : Oper),ops[j]? = some d→j≠i→q8c (fpO F ops i) (fpO F ops j)→m ∉ (fpO F ops j).2)→find st.hp m = find (S i).hp m:=fun m hm=>by
            by_cases bu : m∈(fpO F ops i).2
            · exact ao m bu
            refine g.hp m i s q6 fun j d c ac=>?_;by_cases f : j = i
            · subst f;exact absurd ac bu
            · rcases y j d c f with h | ⟨ha,_⟩
              · exact h
              · exact absurd ac (hm j d c f ha)
          cases hR : (fpO F ops i).1 with
          | none=>exact fun m=>key m fun j d _ _ ha ac=>by have:=ha.rw m ac;rw [hR] at this;exact this
          | some r=>exact fun m cq=>key m fun j d _ _ ha ac=>by have:=ha.rw m ac;rw [hR] at this;exact this cq
        · refine g.sl t i s q6 fun j d c ag=>?_;by_cases f : j = i
          · subst f;exact ⟨fun p=>absurd p bk,fun p=>absurd p (Nat.lt_irrefl _)⟩
          · rcases y j d c f with h | ⟨_,hr,_⟩
            · exact h
            · exact absurd ag (hr t ht)
      have ah:=hS i o s ay ho;have bf : (S (i + 1)).nx≤st.nx:=by rw [g.nx];exact q1q aa hS q6 _ q6 (Nat.le_refl _)
      have bi : ∀ m,(S i).nx≤m→m < (S (i + 1)).nx→find st.hp m = none:=fun m h2 h3=>by
        rw [ao m (ah.fresh m h2 h3)];exact qkr aa hS h0 i s q6 m h2
      obtain ⟨ch,bt,bg,co,cs,ck,cj⟩:=ah.other st bf ci bi;refine qhg ho ?_;obtain ⟨Z,inj,Ds,k1,k2,k3,k4,k5⟩:=hp;have ca : base≤(S i).nx:=Nat.le_trans bw (q1q aa hS (Nat.le_refl _) _ s q6);refine bg base ro Q w Z inj a Ds _ k1 (by rw [k3];exact hd i o ho) ca (by have:=ah.nx;omega) ad (k5 i o s ay ho bk) fun a' w' hp'=>?_;obtain ⟨Z',inj',cc,g1,g2,g3,g4,g5⟩:=hp';refine ih _ a' w' ch bm cn bb (fun j hj=>(l j).2 (.inr (x j hj))) (fun j hj p=>?_) ⟨Z',inj',cc,g1,k2.trans g2 (Nat.le_refl _),g3.trans k3,fun D hD=>?_,fun j d be am c bp m h2 h3=>?_⟩ (ad.ext g2) ⟨bt.trans g.nx,fun t m bh hm u=>?_,fun q m bh hm u=>?_⟩
      · rcases (l j).1 p with rfl | p
        · omega
        · exact aj j hj p
      · rcases g4 D hD with h | h
        · exact k4 D h
        · exact .inr (Nat.le_trans k2.size h)
      · have f : j≠i:=by rintro rfl;exact bp ((l j).2 (.inl rfl))
        have bs : listed[j]?≠some true:=fun e=>bp ((l j).2 (.inr e))
        rw [g5 m (by
          have:=q1q aa hS (j:=j + 1) q6 hi q6 (Nat.le_refl _);have:=g.nx;omega) (by;rcases Nat.lt_or_gt_of_ne f with h | h
          · left;have:=q1q aa hS (j:=j + 1) q6 i q6 q6;omega
          · right;have:=q1q aa hS (j:=i + 1) q6 j q6 q6;omega)]
        exact k5 j d be am c bs m h2 h3
      · by_cases aq : o.dst = some t
        · have cp : i < m:=(u i o ho aq).1 ((l i).2 (.inl rfl));rw [cs t aq];refine (qen aa hS q6 m q6 hm fun j d be am c ag=>?_).symm;have p:=(l j).1 ((u j d c ag).2 am);rcases p with p | p
          · omega
          · rcases y j d c q6 with h | ⟨_,_,hw⟩
            · have:=h.1 p;omega
            · exact hw t aq ag
        · rw [co t aq];refine g.sl t m bh hm fun j d c ag=>?_;have f : j≠i:=by rintro rfl;rw [ho] at c;cases c;exact aq ag
          rw [← u j d c ag,l];simp [f]
      · by_cases hq : q∈(fpO F ops i).2
        · have cp : i < m:=(u i o ho hq).1 ((l i).2 (.inl rfl));rw [ck q hq];refine (qem aa hS q6 m q6 hm fun j d be am c ak=>?_).symm;have p:=(l j).1 ((u j d c ak).2 am);rcases p with p | p
          · omega
          · rcases y j d c q6 with h | ⟨ha,_⟩
            · have:=h.1 p;omega
            · exact ha.ww q hq ak
        · rw [cj q hq];refine g.hp q m bh hm fun j d c ak=>?_;have f : j≠i:=by rintro rfl;exact hq ak
          rw [← u j d c ak,l];simp [f]
theorem qwc {w : World} {Z : Nat→Prop} {inj : Inj} {st : AS} {a : Act} {Ds : List Nat} {N : Nat} (h : RelS w Z inj st a Ds) (l : st.nx≤N) : RelS w Z (fun m=>if m < st.nx then inj m else none) {st with nx:=N} a Ds:=by
  have hi : ∀ n,n < st.nx→(fun m=>if m < st.nx then inj m else none) n = inj n:=fun n u=>by simp [u]
  have d : Zv w w:=fun _ c e f h=>⟨c,e,f,h,rfl⟩
  refine ⟨h.slots.mono (fun _ _=>rfl) (fun _ h=>h) d hi l,⟨fun n b hb=>?_,fun n m b c p q g k j t o s=>?_,fun n b p g k j=>?_,h.heap.zs,h.heap.zc⟩,h.defs,h.nodup,h.marks⟩
  · obtain ⟨r,v⟩:=h.heap.blk n b hb;exact ⟨Nat.lt_of_lt_of_le r l,v.mono (fun _ _=>rfl) (fun _ h=>h) d hi l r (fun _ _ _=>rfl)⟩
  · rw [qq (h.heap.blk n b g).1] at o;rw [qq (h.heap.blk m c k).1] at s;exact h.heap.sep n m b c p q g k j t o s
  · rw [qq (h.heap.blk n b g).1] at j;exact h.heap.out n b p g k j
theorem qq1 {w0 : World} {Z0 : Nat→Prop} {inj0 : Inj} {d : AS} {g : Act} {Ds0 : List Nat} {l : List Oper} {st st' : AS} (h : Zn P base ops l st st') : l = []→∀ a w,Kx base w0 Z0 inj0 d g Ds0 st a w→Kx base w0 Z0 inj0 d g Ds0 st' a w:=by
  induction h with
  | nil=>exact fun _ a w hp=>hp
  | cons _ _ _=>intro h;cases h
  | wk hw _ ih=>
    intro k a w hp;refine ih k a w ?_;obtain ⟨Z',inj',f,n,m,j,p,o⟩:=hp;obtain ⟨c,b⟩:=q26 n hw;exact ⟨_,_,f,c,m.trans b (Nat.le_refl _),j,hw.bs,o⟩
theorem qq0 {w0 : World} {Z0 : Nat→Prop} {inj0 : Inj} {k : AS} {n : Act} {Ds0 : List Nat} {ro : Option Nat} {Q : Exit→Act→World→Prop} {K : Act→World→Prop} {l : List Oper} {st st' : AS} (h : Zn P base ops l st st') : ∀ o,l = [o]→J7 n.tmps.size o.dst = true→∀ a w,Kx base w0 Z0 inj0 k n Ds0 st a w→Yj ro w→
    (∀ a' w',Kx base w0 Z0 inj0 k n Ds0 st' a' w'→Yj ro w'→K a' w')→Ui P (Fw ro) ops Q o K a w:=by
  induction h with
  | nil=>intro o h;cases h
  | cons hs hl _=>
    intro o h hd a w hp c p;simp only [List.cons.injEq] at h;obtain ⟨rfl,rfl⟩:=h;refine hp.bind fun Z' inj' f b g d _ j=>?_;exact hs ro Q w Z' inj' a f _ b (by rw [g];exact hd) d c fun a' w' hp'=>p a' w' (qq1 hl rfl _ _ (j _ _ _ hp')) (by obtain ⟨_,_,_,_,t,_⟩:=hp';exact c.ext t)
  | wk hw _ ih=>
    intro o h hd a w hp c p;refine ih o h hd a w ?_ c p;obtain ⟨Z',inj',f,s,q,r,v,u⟩:=hp;obtain ⟨b,m⟩:=q26 s hw;exact ⟨_,_,f,b,q.trans m (Nat.le_refl _),r,hw.bs,u⟩
theorem qp5 {o p : Oper} {i j : Nat} (f : Behind ops o i) (hp : ops[i]? = some p) (b : Behind ops p j) : Behind ops o j:=fun S a c=>b S a fun e d hb=>a i p (f S a c) hp e d hb
theorem qqr {F : List Fp} (hD : q8d F ops) {w0 : World} {Z0 : Nat→Prop} {inj0 : Inj} {ad : AS} {a0 : Act} {Ds0 : List Nat} {ro : Option Nat} {Q : Exit→Act→World→Prop} (hd : ∀ (i : Nat) (o : Oper),ops[i]? = some o→J7 a0.tmps.size o.dst = true) :
    ∀ (n : Nat) (l : List Oper) (lo : Nat) (st st' : AS),l.length = n→ops.toList.drop lo = l→lo≤ops.size→Jn P base ops F l st st'→(∀ a' w',Kx base w0 Z0 inj0 ad a0 Ds0 st' a' w'→Q .normal a' w')→∀ (fuel : Nat) (listed : Array Bool) (a : Act) (w : World),
      listed.size = ops.size→listed.toList.count false = fuel→Adm ops (fun i=>listed[i]? = some true)→(∀ (i : Nat),listed[i]? = some true↔i < lo)→Kx base w0 Z0 inj0 ad a0 Ds0 st a w→Yj ro w→wpAnyIn (Fw ro) 0 P .any ops Q fuel listed a w:=by
  intro n
  induction n using Nat.strongRecOn with
  | _ n ihn=>
  intro l lo st st' cj aq cs hc hQ fuel listed a w bp bq au ai hp bi;obtain ⟨k,S,hk,e0,hS,ak⟩:=qik hc;have bv : l.length + lo = ops.size:=by rw [← aq];simp;omega
  have aa : ∀ (i : Nat),l[i]? = ops[lo + i]?:=fun i=>by rw [← aq,List.getElem?_drop,Array.getElem?_toList]
  subst e0
  have v : Steps P F ops (fun i=>S (i - lo)) lo (lo + k):=fun i o u h2 ho=>by
    have:=hS (i - lo) o q6 (by rw [aa,show lo + (i - lo) = i by omega];exact ho);rw [show l.length - (i - lo + 1) = ops.size - (i + 1) by omega] at this;show Jq P ops o (fpO F ops i) (S (i - lo)) (S (i + 1 - lo));rw [show i + 1 - lo = i - lo + 1 by omega];exact this
  have al : ∀ (i j : Nat) (oj : Oper),i < lo + k→lo + k≤j→ops[j]? = some oj→Behind ops oj i:=fun i j oj hi hj ag=>by
    rcases ak with ⟨u,_⟩ | ⟨o,st1,u,h2,_,_⟩
    · have:=Zj ag;omega
    · rw [aa] at u;rw [show l.length - (k + 1) = ops.size - (lo + k + 1) by omega] at h2;have bj : i < ops.size:=by have:=Zj u;omega
      obtain ⟨oi,ac⟩:=Yd (xs:=ops) (i:=i) bj;have hb:=hD.pivs i (lo + k) oi o hi ac u (.inr h2);by_cases bo : j = lo + k
      · subst bo;rw [u] at ag;cases ag;exact hb
      · exact qp5 (hD.pivs (lo + k) j o oj q6 u ag (.inl h2)) u hb
  obtain ⟨Z,inj,Ds,u,h2,h3,h4,h5⟩:=hp
  have hN : (S 0).nx≤(S k).nx:=by
    have:=q1q q6 v (Nat.le_refl _) (lo + k) q6 (Nat.le_refl _);simpa using this
  have h0 : ∀ q,(S 0).nx≤q→find (S 0).hp q = none:=fun q hq=>by
    cases hf : find (S 0).hp q with
    | none=>rfl
    | some b=>have:=(u.heap.blk q b hf).1;omega
  have bb : Ext w0 Z0 inj0 ad.hp w Z (fun m=>if m < (S 0).nx then inj m else none) (S 0).hp base:=by
    refine {h2 with imm:=fun b bl=>h2.imm b ?_,pinj:=fun n hn=>(qq (show n < (S 0).nx by omega)).trans (h2.pinj n hn)};obtain ⟨n,c,o,s,g2,g3⟩:=bl;refine ⟨n,c,o,s,g2,?_⟩;have:=(u.heap.blk n c s).1;simpa [this] using g3
  have an : ∀ (i : Nat),lo≤i→listed[i]?≠some true:=fun i hi h=>by have:=(ai i).1 h;omega
  refine qqs (lo:=lo) (hi:=lo + k) (S:=fun i=>S (i - lo)) (hp0:=ad.hp) (Ds0:=Ds0) q6 q6 hD v al (by simpa using h0) (by simpa using h4) hd ?_ fuel listed a w {S 0 with nx:=(S k).nx} bp bq au (fun i hi=>(ai i).2 hi) (fun i hi=>an i q6) ⟨Z,_,Ds,qwc u hN,bb,h3,h5,fun i o af am ho _ m g2 g3=>?_⟩ bi ⟨qf,fun t m ao hm ab=>?_,fun q m ao hm ab=>?_⟩
  · intro r d a' w' x z y f hp' bc
    have hp' : Kx base w0 Z0 inj0 ad a0 Ds0 (S k) a' w':=by
      obtain ⟨Z',inj',bk,s,g2,g3,g4,g5⟩:=hp';simp only [Nat.add_sub_cancel_left] at s g2 g4;exact ⟨Z',inj',bk,s,g2,g3,g4,g5⟩
    rcases ak with ⟨e1,e2⟩ | ⟨o,st1,e1,e2,e3,e4⟩
    ·
      subst e2
      have hz : r = 0:=by
        rw [← z,List.count_eq_zero];intro hm;obtain ⟨i,hi⟩:=List.getElem?_of_mem hm;have am : d[i]? = some false:=by simpa using hi
        have:=(f i).2 (by have:=Zj am;omega);rw [am] at this;cases this
      subst hz;refine ⟨?_,hQ _ _ hp'⟩;rw [List.eq_nil_iff_forall_not_mem];intro j hj;obtain ⟨s,o,ho,_⟩:=mem_ready.1 hj;rw [qca,(f j).2 (by have:=Zj ho;omega)] at s;cases s
    ·
      have p : ops[lo + k]? = some o:=by rw [← aa];exact e1
      rw [show l.length - (k + 1) = ops.size - (lo + k + 1) by omega] at e2
      have g : d[lo + k]? = some false:=by
        obtain ⟨b,hb⟩:=Yd (xs:=d) (i:=lo + k) (by rw [x];exact Zj p)
        cases b with
        | true=>have:=(f _).1 hb;omega
        | false=>exact hb
      cases r with
      | zero=>
        have:=List.count_eq_zero.1 z;exact absurd (by simpa using Array.mem_of_getElem? g) this
      | succ r=>
        refine ⟨fun ay=>absurd ay (qmh hD x _ _ rfl g),fun i hi=>?_⟩;obtain ⟨s,oi,ac,aw⟩:=mem_ready.1 hi;rw [qca] at s;have ae : ∀ e∈oi.after,Region.binds .any e = true→d[e.on]? = some true:=fun e he hb=>qfj.1 (aw e he hb)
        have bm : i = lo + k:=by
          rcases Nat.lt_trichotomy i (lo + k) with h | h | h
          · have:=(f i).2 h;rw [s] at this;cases this
          · exact h
          · have:=hD.pivs (lo + k) i o oi h p ac (.inl e2) _ y ae;rw [g] at this;cases this
        subst bm;rw [p] at ac;cases ac;obtain ⟨az,ap⟩:=qhw y p s ae;refine qhg p ?_;refine qq0 e3 o rfl (hd _ _ p) a' w' hp' bc fun a2 w2 hp2 ax=>?_;refine ihn (l.drop (k + 1)).length (by have:=Zj p;simp;omega) _ (lo + k + 1) st1 st' rfl (by rw [← aq,List.drop_drop,Nat.add_assoc]) (Zj p) e4 hQ _ _ a2 w2 (by simp [x]) (qj1 s z) ap (fun j=>?_) hp2 ax;rw [az,f];omega
  · have this : (S 0).nx≤(S (i - lo)).nx:=by simpa using q1q q6 v (Nat.le_refl lo) i af q6
    have cb : (S (i - lo)).nx≤m:=g2;exact qp q6
  · have:=qen q6 v (t:=t) (Nat.le_refl lo) m ao hm fun i o af hi ho bn=>an i af ((ab i o ho bn).2 hi);simp at this ⊢;exact this.symm
  · have:=qem q6 v (q:=q) (Nat.le_refl lo) m ao hm fun i o af hi ho br=>an i af ((ab i o ho br).2 hi);simp at this ⊢;exact this.symm
theorem qw5 {F : List Fp} {id : Nat} {w : World} {Z : Nat→Prop} {inj : Inj} {st st' : AS} {a : Act} {Ds : List Nat} {ro : Option Nat} {Q : Exit→Act→World→Prop} (s : P.follows .mixedOrders = true) (p : q8d F ops) (u : Jn P base ops F ops.toList st st')
    (h : RelS w Z inj st a Ds) (d : codeOk a.tmps.size (.region id ops true) = true) (hb : base≤st.nx) (m : Yj ro w) (q : ∀ a' w',Kx base w Z inj st a Ds st' a' w'→Q .normal a' w') : (Code.region id ops true).wpIn (Fw ro) 0 P Q a w:=by
  refine wpIn_region_any s ?_;have hs : RelS {w with drawn:=w.drawn + 1} Z inj st a Ds:=⟨h.slots.mono (fun _ _=>rfl) (fun _ h=>h) (fun b c e f hb=>⟨c,e,f,hb,rfl⟩) (fun _ _=>rfl) (Nat.le_refl _),h.heap.same rfl,h.defs,h.nodup,h.marks⟩
  have g : ∀ (i : Nat) (o : Oper),ops[i]? = some o→J7 a.tmps.size o.dst = true:=by
    intro i o n;simp only [codeOk,List.all_eq_true] at d;exact d o (by simpa using Array.mem_of_getElem? n)
  have k : ∀ (i : Nat),(Array.replicate ops.size false)[i]?≠some true:=by
    intro i hi;rw [Array.getElem?_replicate] at hi;split at hi <;> simp at hi
  exact qqr p g ops.toList.length ops.toList 0 st st' rfl qf (Nat.zero_le _) u q ops.size _ a _ qf qf (fun j o t _=>absurd t (k j)) (fun i=>⟨fun hi=>absurd hi (k i),fun hi=>q6⟩) ⟨Z,inj,Ds,hs,.same rfl rfl rfl rfl,rfl,hb,fun _ h=>.inl h⟩ (fun l r=>m l r)
end
end Go.Am
namespace Go.Am
open Go
variable {P : Program} {T : Tab}
section
variable {w w' : World} {Z Z' : Nat→Prop} {inj inj' : Inj} {hp hp' : List (Nat × Blk)} {nx nx' pin : Nat}
theorem RelH.grow (h : RelH w Z inj hp nx) (d : ∀ b,b < w.heap.size→w'.heap[b]? = w.heap[b]?) : RelH w' Z inj hp nx:=by
  have hb : Zv w w':=fun b c e f k=>⟨c,e,f,(d b (J6 k)).trans k,rfl⟩
  refine ⟨fun n b j=>?_,h.sep,h.out,?_,?_⟩
  · obtain ⟨l,o⟩:=h.blk n b j;exact ⟨l,o.mono (fun b a=>d b (h.zs b a)) (fun _ h=>h) hb (fun _ _=>rfl) (Nat.le_refl _) l fun p hp m=>d _ (h.im_lt ⟨n,b,p.2,j,m,hp⟩)⟩
  · intro b a;obtain ⟨c,e,f,g⟩:=h.zc b a;have:=d b (h.zs b a);exact J6 (this.trans g)
  · intro b a;obtain ⟨c,e,f,g⟩:=h.zc b a;exact ⟨c,e,f,(d b (h.zs b a)).trans g⟩
theorem Ext.alloc (o : Obj) (a : Unfr o:=by first | exact rfl | exact trivial) : Ext w Z inj hp (w.alloc o) Z inj hp pin:=
  ⟨qf,fun b hb _=>Zw w o hb,fun _ h=>.inl h,q2n w o,qkn w o,fun _ h=>h,fun _ h=>.inl h,fun _ _=>rfl,rfl,rfl,rfl,qjy w a⟩
theorem qmp (h : RelH w Z inj hp nx) {n : Nat} {b0 blk : Blk} (s : find hp n = some b0) (z : live b0 = true) {b off : Nat} (hi : inj n = some (b,off)) {r t : Loop} (hb : w.heap[b]? = some (.loop r)) (hd : t.defers = r.defers)
    (ac : RelB (w.putObj b (.loop t)) Z inj nx n blk) (ag : live blk = true→True) : RelH (w.putObj b (.loop t)) Z inj (repl hp n blk) nx∧Ext w Z inj hp (w.putObj b (.loop t)) Z inj (repl hp n blk) pin:=by
  have a : ∀ k,k≠b→(w.putObj b (.loop t)).heap[k]? = w.heap[k]?:=fun k g=>World.putObj_heap_other g
  have al : ¬ Z b:=fun hz=>by
    obtain ⟨c,e,f,hc⟩:=h.zc b hz;rw [hb] at hc;cases hc
  have j : Zv w (w.putObj b (.loop t)):=fun k c e f g=>by
    by_cases j : k = b
    · subst j;rw [hb] at g;cases g
    · exact ⟨c,e,f,(a k j).trans g,rfl⟩
  have hz : ∀ k,Z k→(w.putObj b (.loop t)).heap[k]? = w.heap[k]?:=fun k g=>a k (fun e=>al (e ▸ g))
  have d : ∀ m c,find (repl hp n blk) m = some c→(m = n∧c = blk)∨(m≠n∧find hp m = some c):=by
    intro m c u;rw [Z6] at u;split at u
    · rename_i e;subst e;rw [s] at u;simp at u;exact .inl ⟨rfl,u.symm⟩
    · rename_i e;exact .inr ⟨fun h=>e h.symm,u⟩
  have ae : ∀ k,im (repl hp n blk) inj k→im hp inj k:=by
    rintro k ⟨m,c,o,h1,h2,v⟩;rcases d m c h1 with ⟨rfl,rfl⟩ | ⟨_,y⟩
    · exact ⟨m,b0,o,s,z,v⟩
    · exact ⟨m,c,o,y,h2,v⟩
  refine ⟨⟨?_,?_,?_,?_,?_⟩,⟨qf,?_,fun k g=>.inl (ae k g),j,?_,fun _ h=>h,fun _ h=>.inl h,fun _ _=>rfl,rfl,rfl,rfl,qfi (fun _ _ _=>by rw [hb];simp) (fun _ _ _=>qf)⟩⟩
  · intro m c u;rcases d m c u with ⟨rfl,rfl⟩ | ⟨l,y⟩
    · exact ⟨(h.blk _ _ s).1,ac⟩
    · obtain ⟨h5,h6⟩:=h.blk m c y;exact ⟨h5,h6.mono hz (fun _ h=>h) j (fun _ _=>rfl) (Nat.le_refl _) h5 fun p hp ag=>a _ fun e=>h.sep m n c b0 p (b,off) y s ag z hp hi l e⟩
  · intro m m' c c' p q h1 h2 v y h5 h6 l;rcases d m c h1 with ⟨rfl,rfl⟩ | ⟨e1,k1⟩ <;> rcases d m' c' h2 with ⟨rfl,rfl⟩ | ⟨e2,k2⟩
    · exact absurd rfl l
    · exact h.sep _ _ _ _ p q s k2 z y h5 h6 l
    · exact h.sep _ _ _ _ p q k1 s v z h5 h6 l
    · exact h.sep _ _ _ _ p q k1 k2 v y h5 h6 l
  · intro m c p h1 h2 v;rcases d m c h1 with ⟨rfl,rfl⟩ | ⟨e1,k1⟩
    · exact h.out _ _ p s z v
    · exact h.out _ _ p k1 h2 v
  · intro k g;simpa using h.zs k g
  · intro k g;obtain ⟨c,e,f,hc⟩:=h.zc k g;exact ⟨c,e,f,(hz k g).trans hc⟩
  · intro k _ g;exact a k fun e=>g ⟨n,b0,off,s,z,e ▸ hi⟩
  · intro k x g;by_cases j : k = b
    · subst j;rw [hb] at g;cases g;exact ⟨t,World.putObj_heap_same (J6 hb),hd⟩
    · exact ⟨x,(a k j).trans g,rfl⟩
theorem qgy (h : RelH w Z inj hp nx) {n : Nat} {s : List (Nat × V)} {d : List Tmp} {as g : Code} {q ls' : LoopState} {pe pe' : Option Code} (v : find hp n = some (.loop s d as g q pe)) : ∃ b r,inj n = some (b,0)∧w.heap[b]? = some (.loop r)∧
    r.state = q∧r.pending = pe∧r.params = d.toArray∧r.assign = as∧r.body = g∧(codeOk r.tmps.size as = true∧codeOk r.tmps.size g = true∧∀ p∈d,p < r.tmps.size)∧Yt w Z inj nx s r.tmps∧
    RelH (w.putObj b (.loop {r with state:=ls',pending:=pe'})) Z inj (repl hp n (.loop s d as g ls' pe')) nx∧Ext w Z inj hp (w.putObj b (.loop {r with state:=ls',pending:=pe'})) Z inj (repl hp n (.loop s d as g ls' pe')) pin:=by
  obtain ⟨z,b,tmps,D,fn,m,j,u,t⟩:=h.blk n _ v;refine ⟨b,_,m,j,rfl,rfl,rfl,rfl,rfl,u,t,?_⟩;refine qmp h v rfl m j rfl ?_ (fun _=>trivial);refine ⟨b,tmps,D,fn,m,World.putObj_heap_same (J6 j),u,?_⟩
  have o : ¬ Z b:=fun y=>by
    obtain ⟨c,e,f,x⟩:=h.zc b y;rw [j] at x;cases x
  refine t.mono (fun k l=>World.putObj_heap_other (fun e=>o (e ▸ l))) (fun _ h=>h) ?_ (fun _ _=>rfl) (Nat.le_refl _);intro k c e f l;by_cases a : k = b
  · subst a;rw [j] at l;cases l
  · exact ⟨c,e,f,(World.putObj_heap_other a).trans l,rfl⟩
theorem qwb (h : RelH w Z inj hp nx) {n : Nat} {s : List (Nat × V)} {j : List Tmp} {as l : Code} {c : LoopState} {pe : Option Code} (g : find hp n = some (.loop s j as l c pe)) : ∃ b r,inj n = some (b,0)∧w.heap[b]? = some (.loop r)∧
    r.state = c∧r.pending = pe∧∀ a : Loop,a.defers = r.defers→RelH (w.putObj b (.loop a)) Z inj (repl hp n .dead) nx∧Ext w Z inj hp (w.putObj b (.loop a)) Z inj (repl hp n .dead) pin:=by
  obtain ⟨k,b,tmps,D,fn,f,d,p,o⟩:=h.blk n _ g;exact ⟨b,_,f,d,rfl,rfl,fun a m=>qmp h g rfl f d m trivial (fun _=>trivial)⟩
theorem qjm : ∀ (a : List V) (k t : Nat) (v : V),find (Y9 k a) t = some v→k≤t∧a[t - k]? = some v
  | [],k,t,v,h=>by simp [Y9,find] at h
  | x::r,k,t,v,h=>by
    simp only [Y9,Kw] at h
    split at h
    · rename_i e;subst e;cases h;simp
    · rename_i e
      obtain ⟨d,b⟩:=qjm r (k + 1) t v h
      refine ⟨q6,?_⟩
      obtain ⟨m,c⟩ : ∃ m,t - k = m + 1:=⟨t - k - 1,q6⟩
      have : t - (k + 1) = m:=by omega
      rw [this] at b
      rw [c];simpa using b
theorem qwe {b : List V} {xs : Array Value} (n : Nat) (h : LRel w Z inj nx b xs) : Yt w Z inj nx (Y9 0 b) (xs ++ Array.replicate (n - xs.size) undef):=by
  intro t v f;obtain ⟨_,c⟩:=qjm b 0 t v f;simp at c;have a : t < xs.size:=by rw [← h.1];exact Kg c
  obtain ⟨x,d⟩:=Yd a;exact ⟨x,by rw [Array.getElem?_append_left a];exact d,h.2 t v x c d⟩
theorem qmr : ∀ (f : List Tmp) (g : List V) (xs : List Value) (s : List (Nat × V)) (tmps : Array Value),g.length = xs.length→(∀ (i : Nat) (d : V) (c : Value),g[i]? = some d→xs[i]? = some c→RelV w Z inj nx d c)→(∀ p∈f,p < tmps.size)→
    Yt w Z inj nx s tmps→Yt w Z inj nx (q1v s f g) ((f.zip xs).foldl (fun tmps (x : Tmp × Value)=>tmps.setIfInBounds x.1 x.2) tmps)∧((f.zip xs).foldl (fun tmps (x : Tmp × Value)=>tmps.setIfInBounds x.1 x.2) tmps).size = tmps.size
  | [],g,xs,s,tmps,hl,hr,hp,h=>by simpa [q1v] using h
  | p::f,[],[],s,tmps,hl,hr,hp,h=>by simpa [q1v] using h
  | p::f,v::g,x::xs,s,tmps,hl,hr,hp,h=>by
    have l:=hr 0 v x rfl rfl
    have k:=h.put l (hp p qf)
    obtain ⟨a,b⟩:=qmr f g xs _ _ (by simpa using hl) (fun i d c hd m=>hr (i + 1) d c (by simpa using hd) (by simpa using m)) (fun q j=>by simpa using hp q (by simp [j])) k
    refine ⟨by simpa [q1v] using a,by simpa using b⟩
  | p::f,[],x::xs,s,tmps,hl,hr,hp,h=>by simp at hl
  | p::f,v::g,[],s,tmps,hl,hr,hp,h=>by simp at hl
theorem qks {fn : Func} {st : AS} {v : V} (hT : Z4 P T) {w0 : World} {Z0 : Nat→Prop} {inj0 : Inj} {hp0 : List (Nat × Blk)} {R : Ending→World→Prop} (j : resV T st fn.results.toList = some v)
    (hR : ∀ x w' Z' inj',RelH w' Z' inj' st.hp st.nx→Ext w0 Z0 inj0 hp0 w' Z' inj' st.hp pin→RelV w' Z' inj' st.nx v x→R (.returned x) w') : ∀ (Ds : List Nat) (w : World) (Z : Nat→Prop) (inj : Inj) (a : Act),
      Yt w Z inj st.nx st.sl a.tmps→RelH w Z inj st.hp st.nx→Ext w0 Z0 inj0 hp0 w Z inj st.hp pin→Ds.Nodup→(∀ D∈Ds,w.heap[D]? = some (.deferred (some []))∧w0.heap.size≤D)→
      LeavesInM (Fw none) 0 P fn a.tmps R (Ds.map fun D=>{target:=.collected D,args:=#[]}) .returning w
  | [],w,Z,inj,a,hs,hh,he,_,_=>by
    obtain ⟨x,hx,hv⟩:=qwi (a:=a) hT hh hs j
    exact ⟨x,hx,hR x w Z inj hh he hv⟩
  | D::Ds,w,Z,inj,a,hs,hh,he,hnd,hm=>by
    obtain ⟨q,ap⟩:=hm D qf
    have m:=List.nodup_cons.1 hnd
    refine ⟨qf,.inl ⟨D,_,rfl,run_takeDeferred q,?_⟩⟩
    have d : ∀ k,k≠D→(w.putObj D (.deferred none)).heap[k]? = w.heap[k]?:=fun k g=>World.putObj_heap_other g
    have ac : ¬ Z D:=fun u=>by obtain ⟨c,e,f,hc⟩:=hh.zc D u;rw [q] at hc;cases hc
    have y : ¬ im st.hp inj D:=fun hi=>by rcases hh.im_obj hi with ⟨_,_,e⟩ | ⟨_,e⟩ | ⟨_,_,e⟩ <;> rw [q] at e <;> cases e
    have u : ∀ k,Z k→(w.putObj D (.deferred none)).heap[k]? = w.heap[k]?:=fun k g=>d k fun e=>ac (e ▸ g)
    have o : Zv w (w.putObj D (.deferred none)):=fun k c e f g=>by
      by_cases z : k = D
      · subst z;rw [q] at g;cases g
      · exact ⟨c,e,f,(d k z).trans g,rfl⟩
    refine qks hT j hR Ds _ Z inj a (hs.mono u (fun _ h=>h) o (fun _ _=>rfl) (Nat.le_refl _)) ⟨?_,hh.sep,hh.out,fun k g=>by simpa using hh.zs k g,?_⟩ ?_ m.2 ?_
    · intro n b hn
      obtain ⟨l,s⟩:=hh.blk n b hn
      exact ⟨l,s.mono u (fun _ h=>h) o (fun _ _=>rfl) (Nat.le_refl _) l fun p hp hl=>d _ fun e=>y ⟨n,b,p.2,hn,hl,by rw [← e];exact hp⟩⟩
    · intro k g
      obtain ⟨c,e,f,hc⟩:=hh.zc k g
      exact ⟨c,e,f,(u k g).trans hc⟩
    · refine ⟨by simpa using he.size,fun b hb hi=>(d b q6).trans (he.keep b hb hi),he.imm,?_,?_,he.zin,he.zout,he.pinj,he.tape,he.os,he.output,fun x=>(qfi (fun _ _ _=>by rw [q];simp) (fun _ _ _=>qf) x).trans (he.frz x)⟩
      · intro b c e f hb
        obtain ⟨c1,e1,f1,l,s1⟩:=he.big b c e f hb
        obtain ⟨c2,e2,f2,s,s2⟩:=o b c1 e1 f1 l
        exact ⟨c2,e2,f2,s,s2.trans s1⟩
      · intro b r hb
        obtain ⟨r1,l,s1⟩:=he.loops b r hb
        exact ⟨r1,(d b (by have:=J6 hb;omega)).trans l,s1⟩
    · intro D' t
      obtain ⟨l,s⟩:=hm D' (by simp [t])
      exact ⟨(d D' (fun e=>m.1 (e ▸ t))).trans l,s⟩
end
end Go.Am
