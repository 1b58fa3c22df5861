/- Am23 Am24 Am25 -/
import Derived.Test.YtgkialgkmjnfbaaGreatK5
namespace Go.Am
open Go
variable {P : Program} {T : Tab}
section
variable {base : Nat} {w : World} {Z : Nat→Prop} {inj : Inj} {st st1 st2 : AS} {a : Act} {Ds : List Nat} {ops : Array Oper} {o : Oper}
structure q1i (ops : Array Oper) (o : Oper) (x : Fp) (st st2 : AS) : Prop where
  blk : qdw x st st2
  sl : ∀ t∈reads ops o,st2.get t = st.get t
theorem q1i.ev {x : Fp} (h : q1i ops o x st st2) {y : Operand} (a : y∈o.op.operands) : st2.ev y = st.ev y:=by
  cases y with
  | tmp t=>exact h.sl t (List.mem_append_left _ (by unfold slotsOf;rw [List.mem_filterMap];exact ⟨.tmp t,by simpa using a,rfl⟩))
  | const v=>rfl
  | func f=>rfl
  | global g=>rfl
theorem q1i.guard {x : Fp} (h : q1i ops o x st st2) : Qs ops st2 o = Qs ops st o:=by
  have hs:=h.sl;unfold reads at hs;unfold Qs;grind
theorem q1i.callee {x : Fp} (h : q1i ops o x st st2) {c : Call} (d : o.op = .call c) : callee st2 c = callee st c:=by
  obtain ⟨a,args,argTypes⟩:=c;unfold Am.callee
  cases a with
  | builtin b=>rfl
  | invoke r n=>rfl
  | value f=>
    simp only;rw [h.ev (y:=f) (by rw [d];simp [Op.operands,Call.operands]),q5f (fun x g=>h.ev (y:=x) (by rw [d];simp [Op.operands,Call.operands];exact .inr (by simpa using g)))]
theorem Yr {st : AS} {d : Option Tmp} {v : V} {t : Tmp} : (st.putD d v).get t = if d = some t then some v else st.get t:=by
  cases d with
  | none=>simp [AS.putD]
  | some d=>simp only [AS.putD,AS.put,AS.get,Qy,Option.some.injEq]
theorem qdu {w : World} {Z : Nat→Prop} {inj : Inj} {nx : Nat} {fz : List Nat} {b : AS} {v : V} {x : Value} (h : RelV w Z inj nx v x) : Wv b (fun n=>n) fz [] nx v v:=by
  induction h with
  | d h=>exact .d (.refl _)
  | @agg ds cs hl _ ih=>
    exact .agg rfl fun i c d a hd=>by
      rw [a] at hd;cases hd;obtain ⟨y,g⟩:=Y1 (xs:=cs) (i:=i) (by rw [← hl];exact K7 a);grind
  | @tup ds cs hl _ ih=>
    exact .tup rfl fun i c d a hd=>by
      rw [a] at hd;cases hd;obtain ⟨y,g⟩:=Y1 (xs:=cs) (i:=i) (by rw [← hl];exact K7 a);grind
  | @fn f ds cs hl _ ih=>
    exact .fn rfl fun i c d a hd=>by
      rw [a] at hd;cases hd;obtain ⟨y,g⟩:=Y1 (xs:=cs) (i:=i) (by rw [← hl];exact K7 a);grind
  | ref h1 h2=>exact .ref rfl qd h1
  | @dref cs j _ _ _ _ _=>exact .dref cs j
  | hsnil h1=>exact .hs rfl qd h1
  | hs h1 _ _ _=>exact .hs rfl qd h1
  | yld h1 _=>exact .yld rfl qd h1
  | mp h1 _=>exact .mp rfl qd h1
  | it h1 _=>exact .it rfl qd h1
  | dead v=>exact .dead _
theorem q13n {w : World} {Z : Nat→Prop} {inj : Inj} {nx n : Nat} {fz : List Nat} {q : AS} {b : Blk} (h : RelB w Z inj nx n b) : Wb q (fun n=>n) fz [] nx b b:=by
  cases b with
  | dead=>exact .dead _
  | dat es xs=>exact .dat _ _
  | mp o es=>
    obtain ⟨_,a,_,es2,_,_,l,_,_,_,h7,k⟩:=h;refine .mp o rfl fun i e e' z f=>?_;rw [z] at f;cases f;obtain ⟨j,hj,p⟩:=List.mem_iff_getElem.1 (l.mem_iff.2 (List.mem_of_getElem? z));have hg : es2[j]? = some e:=by rw [List.getElem?_eq_getElem hj,p]
    obtain ⟨x,g⟩:=Y1 (xs:=a) (i:=j) q8;obtain ⟨_,q2,q3⟩:=k j e x hg g;exact ⟨rfl,qdu q2,q3⟩
  | itF cur rest=>exact .itF _ _
  | itO m sz cur rest=>
    obtain ⟨_,_,_,_,h2,_⟩:=h;exact .itO _ _ _ rfl qd h2
  | cel es xs=>
    obtain ⟨_,_,l⟩:=h;refine .cel rfl fun i x y g v=>?_;rw [g] at v;cases v;refine ⟨rfl,fun j c d u hd=>?_⟩;rw [u] at hd;cases hd;rcases l with ⟨rfl,_⟩ | ⟨b,o,arr,ty,_,_,h5⟩
    · simp at g
    · obtain ⟨h6,c',_,k⟩:=h5 i x j c g u;exact ⟨qdu k,h6⟩
  | loop s ps assign body dn pe=>
    obtain ⟨b,tmps,D,fn,_,_,_,h4⟩:=h;refine .loop fun t r hv=>?_;obtain ⟨x,_,hr⟩:=h4 t r hv;exact ⟨r,hv,qdu hr⟩
theorem qjx {w' : World} {Z' : Nat→Prop} {inj' : Inj} {a' : Act} {o : List Nat} {dst : Option Tmp} {n es : Nat} {xs : List (List DV)} {hp2 : List (Nat × Blk)} (z : RelS w' Z' inj' (st1.putD dst (.hs n es 0 xs.length)) a' o) (v : st1.hp = (n,.dat es xs)::hp2) (hf : find hp2 n = none) (hn : base≤n) (h4 : base≤st1.nx) :
    Wk base (fun n=>n) [n] [] (st1.putD dst (.hs n es 0 xs.length)) (({sl:=st1.sl,hp:=hp2,nx:=st1.nx} : AS).putD dst (.d (.sl es xs))):=by
  have f : (({sl:=st1.sl,hp:=hp2,nx:=st1.nx} : AS).putD dst (.d (.sl es xs))).nx = st1.nx:=Yh _ _ _;have r : (({sl:=st1.sl,hp:=hp2,nx:=st1.nx} : AS).putD dst (.d (.sl es xs))).hp = hp2:=Yf _ _ _
  have j : ∀ m b,find hp2 m = some b→m≠n∧find (st1.putD dst (.hs n es 0 xs.length)).hp m = some b:=by
    intro m b a;have c : m≠n:=by rintro rfl;rw [hf] at a;cases a
    refine ⟨c,?_⟩;rw [Yf,v,Qy,qw (by intro e;exact c e.symm)];exact a
  refine ⟨?_,?_,?_,?_,fun _ _=>rfl,by rw [f];exact h4,fun m a=>by simp at a;omega,fun m a=>by cases a⟩
  · intro t p h;rw [f];rw [Yr] at h;by_cases l : dst = some t
    · rw [qu l] at h;cases h;refine ⟨_,by rw [Yr,qu l],.frz (k:=es) (xs:=xs) ?_ qd q8 qd rfl⟩;show find (st1.putD dst _).hp n = _;rw [Yf,v,Qy,qu rfl]
    · rw [qw l] at h;have w : (st1.putD dst (.hs n es 0 xs.length)).get t = some p:=by rw [Yr,qw l];exact h
      obtain ⟨x,_,u⟩:=z.slots t p w;rw [Yh] at u;exact ⟨p,w,qdu u⟩
  · intro m q a;rw [f];unfold AS.blk at a;rw [r] at a;obtain ⟨c,g⟩:=j m q a;obtain ⟨s,y⟩:=z.heap.blk m q g;rw [Yh] at s y;exact ⟨s,.inr ⟨qd,q,g,q13n y⟩⟩
  · omega
  · intro m b a _ hc;unfold AS.blk at a;grind
theorem qyn {w : World} {Z : Nat→Prop} {inj : Inj} {a a' : Act} {Ds : List Nat} {w' : World} {dst : Option Tmp} {n es : Nat} {xs : List (List DV)} {hp2 : List (Nat × Blk)}
    (h : Y7 base w Z inj st a Ds (st1.putD dst (.hs n es 0 xs.length)) a' w') (m : st1.hp = (n,.dat es xs)::hp2) (k : find hp2 n = none) (p : base≤n) :
    Y7 base w Z inj st a Ds (({sl:=st1.sl,hp:=hp2,nx:=st1.nx} : AS).putD dst (.d (.sl es xs))) a' w':=by
  obtain ⟨Z',inj',g,j,l,o,f,q⟩:=h;obtain ⟨c,b⟩:=q1h j (qjx j m k p (by rw [Yh] at f;exact f));exact ⟨_,_,g,c,l.trans b (Nat.le_refl _),o,by rw [Yh];rw [Yh] at f;exact f,q⟩
theorem qt5 {n es : Nat} {xs : List (List DV)} {hp2 : List (Nat × Blk)} (l : Z8 P T) (j : Qs ops st o = some true) (f : opFn T st o.op = some (.hs n es 0 xs.length,st1)) (k : st.nx≤n) (g : st1.hp = (n,.dat es xs)::hp2) (c : find hp2 n = none) :
    Ja P base ops o st (({sl:=st1.sl,hp:=hp2,nx:=st1.nx} : AS).putD o.dst (.d (.sl es xs))):=by
  intro ro Q w Z inj a Ds K h hd hb b m;exact qfa l j f ro Q w Z inj a Ds K h hd hb b fun a' w' hp=>m a' w' (qyn hp g c (Nat.le_trans hb k))
theorem q6c {w : World} {Z : Nat→Prop} {inj inj' : Inj} {nx : Nat} {v : V} {x : Value} (h : RelV w Z inj nx v x) (hi : ∀ n p,n < nx→inj n = some p→inj' n = some p) : RelV w Z inj' nx v x:=by
  induction h with
  | d h=>exact .d h
  | agg hl _ ih=>exact .agg hl ih
  | tup hl _ ih=>exact .tup hl ih
  | fn hl _ ih=>exact .fn hl ih
  | ref h1 h2=>exact .ref h1 (hi _ _ h1 h2)
  | dref h1 h2 h3=>exact .dref h1 h2 h3
  | hsnil h1=>exact .hsnil h1
  | hs h1 h2 hsp h3=>
    refine .hs h1 h2 hsp fun a=>?_;grind
  | yld h1 h2=>exact .yld h1 (hi _ _ h1 h2)
  | mp h1 h2=>exact .mp h1 (hi _ _ h1 h2)
  | it h1 h2=>exact .it h1 (hi _ _ h1 h2)
  | dead v=>exact .dead v
theorem qmr {w : World} {Z : Nat→Prop} {inj inj' : Inj} {nx n : Nat} {b : Blk} (h : RelB w Z inj nx n b) (hi : ∀ n p,n < nx→inj n = some p→inj' n = some p) (y : n < nx) (z : inj n = none→inj' n = none) : RelB w Z inj' nx n b:=by
  cases b with
  | dead=>trivial
  | dat es xs=>
    obtain ⟨f,a,k⟩:=h;refine ⟨f,a,?_⟩;grind
  | mp o es=>
    obtain ⟨b,g,cl,es2,f,a,k,l,h5,h6,h7,u⟩:=h;exact ⟨b,g,cl,es2,hi _ _ y f,a,k,l,h5,h6,h7,fun i e x he q=>⟨(u i e x he q).1,q6c (u i e x he q).2.1 hi,(u i e x he q).2.2⟩⟩
  | itF cur rest=>
    obtain ⟨r,b,g,cl,seen,es2,js,f,a⟩:=h;exact ⟨r,b,g,cl,seen,es2,js,hi _ _ y f,a⟩
  | itO m sz cur rest=>
    obtain ⟨r,b,seen,f,a,k,l⟩:=h;exact ⟨r,b,seen,hi _ _ y f,a,hi _ _ a k,l⟩
  | cel es xs=>
    obtain ⟨f,a,k⟩:=h;refine ⟨f,a,?_⟩;rcases k with ⟨k,l⟩ | ⟨b,o,arr,ty,k,l,h5⟩
    · grind
    · refine .inr ⟨b,o,arr,ty,hi _ _ y k,l,fun i x j d q hd=>?_⟩;obtain ⟨h6,c,h7,u⟩:=h5 i x j d q hd;exact ⟨h6,c,h7,q6c u hi⟩
  | loop s ps assign body dn pe=>
    obtain ⟨b,tmps,D,fn,f,a,k,l⟩:=h;refine ⟨b,tmps,D,fn,hi _ _ y f,a,k,fun t v ht=>?_⟩;obtain ⟨x,q,hr⟩:=l t v ht;exact ⟨x,q,q6c hr hi⟩
def qbu (base lo hi : Nat) (w : World) (Z : Nat→Prop) (inj : Inj) (st : AS) (a : Act) (Ds : List Nat) (st' : AS) (a' : Act) (w' : World) : Prop:=
  ∃ Z' inj' Ds',RelS w' Z' inj' st' a' Ds'∧Ext w Z inj st.hp w' Z' inj' st'.hp base∧a'.tmps.size = a.tmps.size∧(∀ D∈Ds',D∈Ds∨w.heap.size≤D)∧∀ m,m < st.nx→(m < lo∨hi≤m)→inj' m = inj m
def qdy (P : Program) (base : Nat) (ops : Array Oper) (o : Oper) (st st' : AS) (lo hi : Nat) : Prop:=
  ∀ (ro : Option Nat) (Q : Exit→Act→World→Prop) (w : World) (Z : Nat→Prop) (inj : Inj) (a : Act) (Ds : List Nat) (K : Act→World→Prop),RelS w Z inj st a Ds→J5 a.tmps.size o.dst = true→base≤lo→base≤st.nx→Yl ro w→(∀ m,lo≤m→m < hi→inj m = none)→
    (∀ a' w',qbu base lo hi w Z inj st a Ds st' a' w'→K a' w')→Jj P (Fw ro) ops Q o K a w
theorem qf9 {st' : AS} {lo hi : Nat} (h : Ja P st.nx ops o st st') : qdy P base ops o st st' lo hi:=by
  intro ro Q w Z inj a Ds K f hd _ hb c _ k;refine h ro Q w Z inj a Ds K f hd (Nat.le_refl _) c fun a' w' hp=>k a' w' ?_;obtain ⟨Z',inj',b,l,d,g,p,n⟩:=hp;exact ⟨Z',inj',b,l,d.pin_le hb,g,n,fun m j _=>d.pinj m j⟩
theorem qgi {w : World} {Z : Nat→Prop} {inj : Inj} {w' : World} {Z' : Nat→Prop} {inj' b : Inj} {N l : Nat} {v : V} {x k : Value} (h : RelV w Z inj N v x) (g : RelV w' Z' inj' l v k) (hi : ∀ m p,m < N→inj' m = some p→b m = some p) : RelV w' Z' b N v k:=by
  induction g generalizing x with
  | d g=>exact .d g
  | @agg ds cs hl _ ih=>
    cases h with | @agg _ cs0 hl0 h0=>
    refine .agg hl fun i d c hd j=>?_;grind
  | @tup ds cs hl _ ih=>
    cases h with | @tup _ cs0 hl0 h0=>
    refine .tup hl fun i d c hd j=>?_;grind
  | @fn f ds cs hl _ ih=>
    cases h with | @fn _ _ cs0 hl0 h0=>
    refine .fn hl fun i d c hd j=>?_;grind
  | ref h1 h2=>
    have a:=by cases h with | ref h1 _=>exact h1
    exact .ref a (hi _ _ a h2)
  | dref h1 h2 h3=>exact .dref h1 h2 h3
  | hsnil h1=>
    have a:=by cases h with
      | hsnil h1=>exact h1
      | hs h1 _ _ _=>exact h1
    exact .hsnil a
  | hs h1 h2 hsp h3=>
    have a:=by cases h with
      | hsnil h1=>exact h1
      | hs h1 _ _ _=>exact h1
    refine .hs a h2 hsp fun j=>?_;grind
  | yld h1 h2=>
    have a:=by cases h with | yld h1 _=>exact h1
    exact .yld a (hi _ _ a h2)
  | mp h1 h2=>
    have a:=by cases h with | mp h1 _=>exact h1
    exact .mp a (hi _ _ a h2)
  | it h1 h2=>
    have a:=by cases h with | it h1 _=>exact h1
    exact .it a (hi _ _ a h2)
  | dead v=>exact .dead v
theorem qyz {w : World} {Z : Nat→Prop} {inj : Inj} {w' : World} {Z' : Nat→Prop} {inj' f : Inj} {N N' n : Nat} {b : Blk} (h : RelB w Z inj N n b) (z : RelB w' Z' inj' N' n b) (hi : ∀ m p,m < N→inj' m = some p→f m = some p) (hn : f n = inj' n) : RelB w' Z' f N n b:=by
  cases b with
  | dead=>trivial
  | dat es xs=>
    obtain ⟨g,l,a⟩:=z;refine ⟨g,l,?_⟩;grind
  | mp o es=>
    obtain ⟨b,k,cl,es2,g,l,a,u,h5,h6,h7,h8⟩:=z;obtain ⟨_,y,_,ai,_,_,k3,_,_,_,k7,k8⟩:=h;refine ⟨b,k,cl,es2,hn.trans g,l,a,u,h5,h6,h7,fun i e x he q=>?_⟩;obtain ⟨j,hj,aj⟩:=List.mem_iff_getElem.1 (k3.mem_iff.2 (a.mem_iff.1 (List.mem_of_getElem? he)));have hg : ai[j]? = some e:=by rw [List.getElem?_eq_getElem hj,aj]
    obtain ⟨x0,al⟩:=Y1 (xs:=y) (i:=j) q8;exact ⟨(h8 i e x he q).1,qgi (k8 j e x0 hg al).2.1 (h8 i e x he q).2.1 hi,(h8 i e x he q).2.2⟩
  | itF cur rest=>
    obtain ⟨r,b,k,cl,seen,es2,js,g,l⟩:=z;exact ⟨r,b,k,cl,seen,es2,js,hn.trans g,l⟩
  | itO m sz cur rest=>
    obtain ⟨r,b,seen,g,l,a,u⟩:=z;obtain ⟨_,_,_,_,k2,_⟩:=h;exact ⟨r,b,seen,hn.trans g,k2,hi _ _ k2 a,u⟩
  | cel es xs=>
    obtain ⟨g,l,a⟩:=z;refine ⟨g,l,?_⟩;rw [hn];rcases a with a | ⟨b,o,arr,ty,a,u,h5⟩
    · grind
    · refine .inr ⟨b,o,arr,ty,a,u,fun i x j d q hd=>?_⟩;obtain ⟨h6,c,h7,h8⟩:=h5 i x j d q hd;obtain ⟨_,_,k3⟩:=h;rcases k3 with ⟨rfl,_⟩ | ⟨_,_,_,_,_,_,k5⟩
      · simp at q
      · obtain ⟨_,c0,_,k8⟩:=k5 i x j d q hd;exact ⟨h6,c,h7,qgi k8 h8 hi⟩
  | loop s ps assign body dn pe=>
    obtain ⟨b,tmps,D,fn,g,l,a,u⟩:=z;obtain ⟨_,_,_,_,_,_,_,k4⟩:=h;refine ⟨b,tmps,D,fn,hn.trans g,l,a,fun t v ht=>?_⟩;obtain ⟨x,q,hr⟩:=u t v ht;obtain ⟨x0,_,ah⟩:=k4 t v ht;exact ⟨x,q,qgi ah hr hi⟩
theorem qk2 {mk : Nat→V} {es q : Nat} {xs : List (List DV)} {f : List (Nat × Blk)} (hT : Z8 P T) (hg : Qs ops st o = some true) (hk : (∃ es,mk = fun n=>.ref n es 0 0)∨(∃ es l,mk = fun n=>.hs n es 0 l)∨(mk = fun n=>.mp n))
    (ho : opFn T st o.op = some (mk st.nx,⟨st.sl,(st.nx,.dat es xs)::f,st.nx + 1⟩)) (hq : q < st.nx) (av : find st.hp q = none) (hold : ∀ m c,find f m = some c→c = .dead∨find st.hp m = some c) (ab : ∀ m,find st.hp m = none→find f m = none) :
    qdy P base ops o st (({sl:=st.sl,hp:=(q,.dat es xs)::f,nx:=st.nx} : AS).putD o.dst (mk q)) q (q + 1):=by
  intro ro Q w Z inj a Ds K h hd bk hb _ ah hK;have ar : inj q = none:=ah q (Nat.le_refl _) q8;unfold Jj;rw [q3m h hg];simp only [if_true];refine ⟨fun _ _=>trivial,?_⟩;rw [show (Fw ro).round = ro from rfl,Oper.semAt_eq ro _ o (qm2 ho)];obtain ⟨x,w',inj',hr,hv,hh,j,-,-⟩:=qm3 hT h ho;simp only at hv hh j;obtain ⟨d,ag⟩ : ∃ d : Inj,d = fun m=>if m = q then inj' st.nx else inj' m:=⟨_,rfl⟩
  have ad : d q = inj' st.nx:=by rw [ag];simp
  have ac : ∀ m,m≠q→d m = inj' m:=fun m g=>by rw [ag];simp [g]
  have hi : ∀ m p,m < st.nx→inj' m = some p→d m = some p:=fun m p g hp=>by
    by_cases k : m = q
    · subst k;rw [j.pinj m g,ar] at hp;cases hp
    grind
  have aj : ∀ m c,find f m = some c→m < st.nx:=fun m c g=>by
    cases hf : find st.hp m with
    | none=>rw [ab m hf] at g;cases g
    | some b=>exact (h.heap.blk m b hf).1
  have bf : ∀ m c,find f m = some c→m≠q:=fun m c g e=>by grind
  have up : ∀ m c,find f m = some c→find ((st.nx,Blk.dat es xs)::f) m = some c:=fun m c g=>by
    rw [Qy,qw (by have:=aj m c g;omega)];exact g
  have am : find ((st.nx,Blk.dat es xs)::f) st.nx = some (.dat es xs):=by rw [Qy,qu rfl]
  have back : ∀ m c,find ((q,Blk.dat es xs)::f) m = some c→∃ u,find ((st.nx,Blk.dat es xs)::f) u = some c∧d m = inj' u∧((m = q∧u = st.nx)∨(m≠q∧u = m)):=by
    intro m c g;rw [Qy] at g;grind
  have hH : RelH w' Z d ((q,Blk.dat es xs)::f) st.nx:=by
    refine ⟨fun m c g=>?_,fun m n b c p r h1 s h3 h4 h5 h6 ax=>?_,fun m b p h1 s h3=>?_,hh.zs,hh.zc⟩
    · rw [Qy] at g;by_cases k : q = m
      · subst k;rw [qu rfl] at g;cases g;refine ⟨hq,?_⟩;obtain ⟨_,k1,k2,k3⟩:=hh.blk st.nx _ am;exact ⟨k1,k2,by rw [ad];exact k3⟩
      · rw [qw k] at g;refine ⟨aj m c g,?_⟩;rcases hold m c g with rfl | au
        · trivial
        · exact qyz (h.heap.blk m c au).2 (hh.blk m c (up m c g)).2 hi (ac m (Ne.symm k))
    · obtain ⟨u,a1,a2,a3⟩:=back m b h1;obtain ⟨n',b1,b2,b3⟩:=back n c s;refine hh.sep u n' b c p r a1 b1 h3 h4 (a2 ▸ h5) (b2 ▸ h6) ?_;rcases a3 with ⟨rfl,rfl⟩ | ⟨a3,rfl⟩ <;> rcases b3 with ⟨rfl,rfl⟩ | ⟨b3,rfl⟩
      · omega
      · intro e;have : find f n' = some c:=by rw [Qy,qw (Ne.symm b3)] at s;exact s
        grind
      · intro e;have : find f u = some b:=by rw [Qy,qw (Ne.symm a3)] at h1;exact h1
        grind
      · exact ax
    · obtain ⟨u,a1,a2,_⟩:=back m b h1;exact hh.out u b p a1 s (a2 ▸ h3)
  have hE : Ext w Z inj st.hp w' Z d ((q,Blk.dat es xs)::f) base:=by
    refine ⟨j.size,j.keep,?_,j.big,j.loops,j.zin,j.zout,fun n hn=>?_,j.tape,j.os,j.output,j.frz⟩
    · rintro b ⟨m,c,off,g1,g2,g3⟩;obtain ⟨u,a1,a2,_⟩:=back m c g1;exact j.imm b ⟨u,c,off,a1,g2,a2 ▸ g3⟩
    · rw [ac n q8];exact j.pinj n q8
  have hV : RelV w' Z d st.nx (mk q) x:=by
    rcases hk with ⟨es,rfl⟩ | ⟨es,l,rfl⟩ | rfl
    rotate_right
    · cases hv with | mp h1 s=>exact .mp hq (ad.trans s)
    · cases hv with | ref h1 s=>exact .ref hq (ad.trans s)
    · cases hv with
      | hsnil h1=>exact .hsnil hq
      | hs h1 s hsp h3=>
        refine .hs hq s hsp fun hc=>?_;grind
  have hS : Z7 w' Z d st.nx st.sl a.tmps:=fun t v ht=>by
    obtain ⟨y,hy,hr⟩:=h.slots t v ht;exact ⟨y,hy,q6c (hr.mono (j.zkeep h.heap) j.zin j.big j.pinj (Nat.le_refl _)) hi⟩
  have z : qbu base q (q + 1) w Z inj st a Ds (({sl:=st.sl,hp:=(q,.dat es xs)::f,nx:=st.nx} : AS).putD o.dst (mk q)) (a.put o.dst x) w':=by
    refine ⟨Z,d,Ds,?_,by rw [Yf];exact hE,q8r _ _ _,fun _ h=>.inl h,fun m g k=>?_⟩
    · generalize ay : o.dst = dst at hd
      cases dst with
      | none=>exact ⟨hS,hH,h.defs,h.nodup,fun D hD=>j.marks h.heap (h.marks D hD)⟩
      | some t=>exact ⟨hS.put hV (qcc hd),hH,h.defs,h.nodup,fun D hD=>j.marks h.heap (h.marks D hD)⟩
    · rw [ac m q8];exact j.pinj m g
  rcases hr with hr | ⟨hr,rfl⟩
  · rw [hr];exact hK _ _ z
  · rw [hr];exact hK _ _ z
theorem qym {w : World} {Z : Nat→Prop} {inj : Inj} {a a' : Act} {Ds : List Nat} {w' : World} {dst : Option Tmp} {n es lo hi : Nat} {xs : List (List DV)} {hp2 : List (Nat × Blk)} (c : base≤st1.nx)
    (h : qbu base lo hi w Z inj st a Ds (st1.putD dst (.hs n es 0 xs.length)) a' w') (r : st1.hp = (n,.dat es xs)::hp2) (q : find hp2 n = none) (s : base≤n) :
    qbu base lo hi w Z inj st a Ds (({sl:=st1.sl,hp:=hp2,nx:=st1.nx} : AS).putD dst (.d (.sl es xs))) a' w':=by
  obtain ⟨Z',inj',b,k,l,o,p,u⟩:=h;have hp : Y7 base w Z inj st a Ds (st1.putD dst (.hs n es 0 xs.length)) a' w':=⟨Z',inj',b,k,l,o,by rw [Yh];exact c,p⟩
  obtain ⟨g,f⟩:=q1h k (qjx k r q s c);refine ⟨_,_,b,g,l.trans f (Nat.le_refl _),o,p,fun m t j=>?_⟩;rw [← u m t j];simp [wkI]
structure Jp (P : Program) (ops : Array Oper) (o : Oper) (x : Fp) (st st1 : AS) : Prop where
  nx : st.nx≤st1.nx
  sl : ∀ t,o.dst≠some t→st1.get t = st.get t
  hp : ∀ m,m ∉ x.2→find st1.hp m = find st.hp m
  keys : ∀ m,st1.nx≤m→find st.hp m = none→find st1.hp m = none
  fresh : ∀ m,st.nx≤m→m < st1.nx→m∈x.2
  other : ∀ st2,st1.nx≤st2.nx→q1i ops o x st st2→(∀ m,st.nx≤m→m < st1.nx→find st2.hp m = none)→∃ st3,st3.nx = st2.nx∧(∀ base,qdy P base ops o st2 st3 st.nx st1.nx)∧
    (∀ t,o.dst≠some t→st3.get t = st2.get t)∧(∀ t,o.dst = some t→st3.get t = st1.get t)∧(∀ m∈x.2,find st3.hp m = find st1.hp m)∧(∀ m,m ∉ x.2→find st3.hp m = find st2.hp m)
theorem qh9 : ∀ {b : List Nat} {n : Nat},hasN b n = true→n∈b
  | a::r,n,h=>by
    simp only [hasN,Bool.or_eq_true] at h
    rcases h with h | h
    · rw [Nat.eq_of_beq_eq_true h];simp
    · exact List.mem_cons_of_mem _ (qh9 h)
theorem ql3 : ∀ {b : List Nat} {n : Nat},n∈b→hasN b n = true
  | a::r,n,h=>by
    simp only [hasN,Bool.or_eq_true]
    rcases List.mem_cons.1 h with rfl | h
    · left;exact Nat.beq_refl _
    · exact .inr (ql3 h)
theorem qjw (y : Fp) : fpLe (some [],[]) y = true:=by
  unfold fpLe;cases y.1 <;> rfl
theorem Jp.mono {x y : Fp} (h : Jp P ops o x st st1) (j : fpLe x y = true) : Jp P ops o y st st1:=by
  simp only [fpLe,Bool.and_eq_true,subN,List.all_eq_true] at j;obtain ⟨p,f⟩:=j;have c : ∀ m∈x.2,m∈y.2:=fun m a=>qh9 (p m a);refine ⟨h.nx,h.sl,fun m a=>h.hp m fun e=>a (c m e),h.keys,fun m b hb=>c m (h.fresh m b hb),fun st2 q b n=>?_⟩
  have g : q1i ops o x st st2:=by
    refine ⟨⟨fun m a=>b.blk.1 m (c m a),?_⟩,b.sl⟩;have hb:=b.blk.2;revert f hb
    cases y.1 with
    | none=>grind
    | some r=>
      cases x.1 with
      | none=>simp
      | some r'=>
        intro f hb m a;exact hb m (qh9 (by simpa using List.all_eq_true.1 f m a))
  obtain ⟨d,e1,u,s,t,v,l⟩:=h.other st2 q g n;refine ⟨d,e1,u,s,t,fun m a=>?_,fun m a=>l m fun e=>a (c m e)⟩;by_cases k : m∈x.2
  · grind
  · rw [l m k,h.hp m k];exact b.blk.1 m a
theorem qny {v : V} {x : Fp} (d : x.2 = []) (a : ∀ st2,q1i ops o x st st2→Ja P st2.nx ops o st2 (st2.putD o.dst v)) : Jp P ops o x st (st.putD o.dst v):=by
  refine ⟨by rw [Yh];exact Nat.le_refl _,fun t h=>by rw [Yr,qw h],fun m _=>by rw [Yf],fun m _ h=>by rw [Yf];exact h,fun m f a=>by rw [Yh] at a;omega,fun st2 g c _=>?_⟩;refine ⟨st2.putD o.dst v,Yh _ _ _,fun base=>qf9 (a st2 c),fun t h=>by rw [Yr,qw h],fun t h=>by rw [Yr,Yr,qu h,qu h],fun m b=>(by rw [d] at b;cases b),fun m _=>by rw [Yf]⟩
theorem q12n (b : Qs ops st o = some false) : Jp P ops o (some [],[]) st (st.putD o.dst (.d (.tup []))):=
  qny rfl fun _ a=>qk6 (a.guard.trans b)
theorem qqt {b : Blk} {n : Nat} {sl : List (Nat × V)} {hp1 : List (Nat × Blk)} {v : V} {op : Op} (c : opFn T st op = some (v,⟨sl,(st.nx,b)::hp1,n + 1⟩)) (g : st.nx = n) (h : q4d st op ⟨sl,(st.nx,b)::hp1,n + 1⟩ = true) : ∃ es xs,b = .dat es xs:=by
  by_cases d : touch op = 2
  · simp only [q4d,d] at h
    cases b with
    | dat es xs=>exact ⟨es,xs,rfl⟩
    | _=>simp at h
  · have a : touch op≤1:=by
      have : touch op≤2:=by unfold touch;split <;> omega
      omega
    have f:=(qg6 (st2:=st) c a (fun _=>rfl) (fun _ _=>rfl)).1;grind
theorem q12l {v : V} (z : Z8 P T) (y : Qs ops st o = some true) (w : opFn T st o.op = some (v,st1)) (hd : q4d st o.op st1 = true) : Jp P ops o (fp st o.op) st (st1.putD o.dst v):=by
  cases qly w with
  | calm hsl hnx hhp hnone hall=>
    have g : ∀ t,st1.get t = st.get t:=fun t=>by unfold AS.get;rw [hsl]
    refine ⟨by rw [Yh];omega,fun t h=>by rw [Yr,qw h,g],fun m a=>by rw [Yf];exact hhp m a,fun m _ h=>by rw [Yf];exact hnone m h,fun m s l=>by rw [Yh] at l;omega,fun st2 p c _=>?_⟩;obtain ⟨f,j,q,r⟩:=hall st2 (fun x n=>c.ev n) c.blk;refine ⟨(⟨st2.sl,f,st2.nx⟩ : AS).putD o.dst v,Yh _ _ _,fun base=>qf9 (qfa z (c.guard.trans y) j),fun t h=>by rw [Yr,qw h];rfl,fun t h=>by rw [Yr,Yr,qu h,qu h],fun m a=>?_,fun m a=>?_⟩
    · rw [Yf,Yf];exact q m a
    · rw [Yf];exact r m a
  | new mk b hp1 hk hv s hmem hhp hnone hall=>
    subst s;obtain ⟨es,xs,rfl⟩:=qqt w rfl hd;refine ⟨by rw [Yh];exact Nat.le_succ _,fun t h=>by rw [Yr,qw h];rfl,fun m a=>?_,fun m a h=>?_,fun m s l=>?_,fun st2 p c k=>?_⟩
    · rw [Yf,Qy,qw (by rintro rfl;exact a hmem)];exact hhp m a
    · rw [Yh] at a;rw [Yf,Qy,qw (by simp only at a;omega)];exact hnone m h
    · rw [Yh] at l;grind
    · rw [Yh] at p k ⊢;simp only at p k;obtain ⟨f,j,q,r,k4⟩:=hall st2 (fun x n=>c.ev n) c.blk;have d:=k st.nx (Nat.le_refl _) q8;refine ⟨(⟨st2.sl,(st.nx,.dat es xs)::f,st2.nx⟩ : AS).putD o.dst (mk st.nx),Yh _ _ _,fun base=>qk2 z (c.guard.trans y) hk j q8 d k4 (fun m a=>?_),fun t h=>by rw [Yr,qw h];rfl,fun t h=>by rw [Yr,Yr,qu h,qu h,hv],fun m a=>?_,fun m a=>?_⟩
      · by_cases u : m∈(fp st o.op).2
        · rw [q m u];refine hnone m ?_;rw [← c.blk.1 m u];exact a
        grind
      · rw [Yf,Yf,Qy,Qy];grind
      · rw [Yf,Qy,qw (by rintro rfl;exact a hmem)];exact r m a
theorem q12m {n es : Nat} {xs : List (List DV)} {hp2 : List (Nat × Blk)} (hT : Z8 P T) (hg : Qs ops st o = some true) (ho : opFn T st o.op = some (.hs n es 0 xs.length,st1)) (r : n = st.nx∧st1.nx = n + 1) (z : st1.hp = (n,.dat es xs)::hp2) (hf : find hp2 n = none) :
    Jp P ops o (fp st o.op) st (({sl:=st1.sl,hp:=hp2,nx:=st1.nx} : AS).putD o.dst (.d (.sl es xs))):=by
  obtain ⟨rfl,ab⟩:=r
  cases qly ho with
  | calm hsl hnx hhp hnone hall=>omega
  | new mk b hp1 hk hv y hmem hhp hnone hall=>
    subst y;simp only [List.cons.injEq,Prod.mk.injEq,true_and] at z;obtain ⟨rfl,rfl⟩:=z;refine ⟨by rw [Yh];exact Nat.le_succ _,fun t h=>by rw [Yr,qw h];rfl,fun m g=>by rw [Yf];exact hhp m g,fun m g h=>by rw [Yf];exact hnone m h,fun m y h2=>?_,fun st2 r q k=>?_⟩
    · rw [Yh] at h2;grind
    · rw [Yh] at r k ⊢;simp only at r k;obtain ⟨j,k1,v,k3,k4⟩:=hall st2 (fun x hx=>q.ev hx) q.blk;have c:=k st.nx (Nat.le_refl _) q8
      have f : ∀ m,find st2.hp m = none→find j m = none:=fun m g=>by
        by_cases u : m∈(fp st o.op).2
        · rw [v m u];refine hnone m ?_;rw [← q.blk.1 m u];exact g
        grind
      refine ⟨(⟨st2.sl,j,st2.nx⟩ : AS).putD o.dst (.d (.sl es xs)),Yh _ _ _,fun base=>?_,fun t h=>by rw [Yr,qw h];rfl,fun t h=>by rw [Yr,Yr,qu h,qu h],fun m g=>by rw [Yf,Yf];exact v m g,fun m g=>by rw [Yf];exact k3 m g⟩;intro ro Q w Z inj a Ds K h hd p hb s l hK;refine qk2 (base:=base) hT (q.guard.trans hg) hk k1 q8 c k4 f ro Q w Z inj a Ds K h hd p hb s l fun a' w' hp=>hK a' w' ?_;rw [← hv] at hp;exact qym (st1:=⟨st2.sl,(st.nx,.dat es xs)::j,st2.nx⟩) hb hp rfl (f _ c) p
theorem q138 {hp hp2 : List (Nat × Blk)} (h : ∀ m,find hp2 m = find hp m) : ∀ k,toD hp2 k = toD hp k:=by
  intro k
  induction k with
  | zero=>funext v;cases v <;> rfl
  | succ k ih=>funext v;cases v <;> simp only [toD,ih,h]
theorem qhw {hp hp2 : List (Nat × Blk)} (h : ∀ m,find hp2 m = find hp m) : ∀ {a : List V},Y8 hp2 a = Y8 hp a
  | []=>rfl
  | v::r=>by simp only [Y8,q138 h,qhw h]
theorem qhx {hp hp2 : List (Nat × Blk)} : ∀ {a : List V},a.all V.isD = true→Y8 hp2 a = Y8 hp a
  | [],_=>rfl
  | v::r,h=>by
    simp only [List.all_cons,Bool.and_eq_true] at h
    have e : toD hp2 8 v = toD hp 8 v:=by
      cases v <;> first | rfl | (simp [V.isD] at h;done)
    rw [Y8,Y8,e,qhx (hp:=hp) (hp2:=hp2) h.2]
theorem q12j {c : Call} {f : FuncId} {b : List V} {ds : List DV} {v : V} {hp' : List (Nat × Blk)} {nx' : Nat} {n r : DV} (p : Qs ops st o = some true) (m : o.op = .call c) (q : callee st c = some (f,b))
    (l : Y8 st.hp b = some ds) (a : J2 P f (ds.map .d) [] 0 v hp' nx') (g : toD hp' 8 v = some n) (k : DLe n r) (hs : b.all V.isD = true∨r.scalar = true) : Jp P ops o (fpC b) st (st.putD o.dst (.d r)):=by
  refine qny (by unfold fpC;cases b.all V.isD <;> rfl) fun st2 j=>qk4 (j.guard.trans p) m ((j.callee m).trans q) ?_ a g k hs;rw [← l];by_cases hd : b.all V.isD = true
  · exact qhx hd
  · have h:=j.blk.2;simp only [fpC,hd,Q6] at h;exact qhw h
theorem qk3 {ops : Array Oper} {o : Oper} {c : Call} {f : FuncId} {vs ay : List V} {hp0 hp' ar ba : List (Nat × Blk)} {k k' am : Nat} {v' vN : V} {ρ ρ3 : Nat→Nat} {cc aq : List Nat} (hg : Qs ops st o = some true) (ho : o.op = .call c) (hc : callee st c = some (f,vs)) (bw : vs.length = ay.length)
    (bz : Wk 0 ρ [] [] {sl:=Yb 0 vs,hp:=st.hp,nx:=st.nx} {sl:=Yb 0 ay,hp:=hp0,nx:=k}) (an : J2 P f ay hp0 k v' hp' k') (bv : Wk 0 ρ3 cc aq {sl:=[(0,v')],hp:=hp',nx:=k'} {sl:=[(0,vN)],hp:=ar,nx:=am})
    (hb : Back ρ ρ3 aq k k' st.nx am st.hp ar ba) : Ja P base ops o st ({sl:=st.sl,hp:=ba,nx:=am : AS}.putD o.dst vN):=by
  intro ro Q w Z inj a Ds K h hd bn _ hK;unfold Jj;rw [q3m h hg];simp only [if_true];refine ⟨fun _ _=>trivial,?_⟩;obtain ⟨xs,hr,hl⟩:=qe9 h ho hc an.1;rw [show (Fw ro).round = ro from rfl,Oper.semAt_eq ro _ o (by rintro c' h';rw [ho] at h';cases h'),hr,Oper.uponIn_enter];refine ⟨fun h=>by simp [Fw] at h,?_⟩
  have bh : RelS w Z inj {sl:=Yb 0 vs,hp:=st.hp,nx:=st.nx} {a with tmps:=xs,defers:=[]} []:=by
    refine ⟨fun t v ht=>?_,h.heap,rfl,List.nodup_nil,qd⟩;rw [q5d] at ht;simp only [Nat.zero_le,if_true,Nat.sub_zero] at ht;obtain ⟨y,hy⟩:=Y1 (xs:=xs) (i:=t) (by rw [← hl.1];exact K7 ht);exact ⟨y,hy,hl.2 t v y ht hy⟩
  obtain ⟨cb,ah⟩:=q1h bh bz
  have cw : LRel w (wkZ Z inj {sl:=Yb 0 vs,hp:=st.hp,nx:=st.nx} []) (wkI inj ρ []) k ay xs:=by
    refine ⟨by rw [← bw];exact hl.1,fun i d y cv cs=>?_⟩;obtain ⟨y',cl,hr⟩:=cb.slots i d (by rw [q5d];simpa using cv);rw [cs] at cl;cases cl;exact hr
  refine CallsIn.mono (an.2 w _ _ xs cb.heap cw) ?_;rintro e w' ⟨x,Z',inj',rfl,hh,ck,hv,hn⟩;obtain ⟨s,ag⟩ : ∃ s : Inj,s = fun n=>if n < k' then inj' n else none:=⟨_,rfl⟩
  have ab : ∀ n,n < k'→s n = inj' n:=fun n hn=>by rw [ag];simp [hn]
  have ct : RelH w' Z' s hp' k':=by
    refine ⟨fun n b hb=>?_,fun n m b c p q l j u h4 h5 h6=>?_,fun n b p l j u=>?_,hh.zs,hh.zc⟩
    · obtain ⟨k1,k2⟩:=hh.blk n b hb;exact ⟨k1,qmr k2 (fun m p hm hp=>(ab m hm).trans hp) k1 (fun hp=>(ab n k1).trans hp)⟩
    · rw [ab n (hh.blk n b l).1] at h5;rw [ab m (hh.blk m c j).1] at h6;exact hh.sep n m b c p q l j u h4 h5 h6
    · rw [ab n (hh.blk n b l).1] at u;exact hh.out n b p l j u
  have cr : RelV w' Z' s k' v' x:=q6c hv fun n p hn hp=>(ab n hn).trans hp
  have bi : ∀ b,im hp' s b→im hp' inj' b:=by
    rintro b ⟨n,blk,o,l,j,u⟩;exact ⟨n,blk,o,l,j,by rw [← ab n (hh.blk n blk l).1];exact u⟩
  have bk : RelS w' Z' s {sl:=[(0,v')],hp:=hp',nx:=k'} {a with tmps:=#[x],defers:=[]} []:=by
    refine ⟨fun t v ht=>?_,ct,rfl,List.nodup_nil,qd⟩;rw [Qy] at ht;split at ht
    · rename_i e;subst e;cases ht;exact ⟨x,rfl,cr⟩
    · simp [find] at ht
  obtain ⟨ad,ai⟩:=q1h bk bv;generalize dq : wkZ Z' s {sl:=[(0,v')],hp:=hp',nx:=k'} cc = Z3 at ad ai;generalize ch : wkI s ρ3 aq = z at ad ai
  have cy : RelV w' Z3 z am vN x:=by
    obtain ⟨y,hy,hr⟩:=ad.slots 0 vN (by simp [find]);simp at hy;subst hy;exact hr
  have be : ∀ i,i < k→inj' i = inj (ρ i):=fun i hi=>by rw [ck.pinj i hi];simp [wkI]
  have bs : ∀ m,m < st.nx→∀ p,z m = some p→inj m = some p:=by
    intro m hm p hp;have bd : m ∉ aq:=fun hc=>by have:=hb.phn m hc;omega
    rw [← ch] at hp;simp only [wkI,bd,if_false] at hp;rcases hb.snd m hm with ⟨l,j⟩ | l
    · rw [ag] at hp;simp only [show ρ3 m < k' by omega,if_true] at hp;rw [be _ l,j] at hp;exact hp
    · rw [ag] at hp;simp [show ¬ ρ3 m < k' by omega] at hp
  obtain ⟨r,af⟩ : ∃ r : Inj,r = fun m=>if m < st.nx then inj m else z m:=⟨_,rfl⟩
  have aa : ∀ m,m < st.nx→r m = inj m:=fun m hm=>by rw [af];simp [hm]
  have cd : ∀ m p,z m = some p→r m = some p:=fun m p hp=>by
    by_cases hm : m < st.nx
    · rw [aa m hm];exact bs m hm p hp
    · rw [af];simp [hm,hp]
  have hR : ∀ m b,find ar m = some b→∀ p,r m = some p→z m = some p:=by
    intro m b bo p hp;by_cases hm : m < st.nx
    · rw [aa m hm] at hp;have bd : m ∉ aq:=fun hc=>by have:=hb.phn m hc;omega
      obtain ⟨_,j⟩:=bv.blocks m b bo;rcases j with ⟨j,_⟩ | ⟨_,b0,u,_⟩
      · exact absurd j bd
      · have cx:=(hh.blk _ _ u).1;rcases hb.snd m hm with ⟨k1,k2⟩ | k1
        · rw [← ch];simp only [wkI,bd,if_false];rw [ab _ q8,be _ k1,k2];exact hp
        · omega
    · rw [af] at hp;simpa [hm] using hp
  have hE : Ext w (wkZ Z inj {sl:=Yb 0 vs,hp:=st.hp,nx:=st.nx} []) (wkI inj ρ []) hp0 w' Z' inj' hp' 0:=ck.pin_le (Nat.zero_le _)
  have cz : ∀ b,im ar z b→im st.hp inj b∨w.heap.size≤b:=by
    intro b dc;rcases ai.imm b dc with l | l
    · rcases hE.imm b (bi b l) with j | j
      · exact ah.imm b j
      · exact .inr j
    · exact .inr (Nat.le_trans hE.size l)
  have keep : ∀ b,b < w.heap.size→¬ im hp0 (wkI inj ρ []) b→w'.heap[b]? = w.heap[b]?:=fun b dd da=>hE.keep b dd da
  have au : ∀ m b p,find st.hp m = some b→live b = true→inj m = some p→(∀ i,i < k→ρ i≠m)→¬ im hp0 (wkI inj ρ []) p.1:=by
    rintro m b p l j u h4 ⟨i,blk,o,g1,g2,g3⟩;obtain ⟨j1,j2⟩:=bz.blocks i blk g1;rcases j2 with ⟨j2,_⟩ | ⟨_,b0,j3,j4⟩
    · cases j2
    · have de : inj (ρ i) = some (p.1,o):=by simpa [wkI] using g3
      exact h.heap.sep (ρ i) m b0 b _ p j3 l (qoi j4 g2) j de u (h4 i j1) rfl
  have hZ : ∀ b,Z b→Z3 b:=fun b hz=>ai.zin b (hE.zin b (ah.zin b hz))
  have ca : ∀ b,Z3 b→Z b∨im hp0 (wkI inj ρ []) b∨w.heap.size≤b:=by
    intro b hz;rcases ai.zout b hz with l | l | l
    · rcases hE.zout b l with j | j | j
      · rcases ah.zout b j with u | u | u
        · exact .inl u
        · rcases j with j | ⟨n,hn,_⟩
          · exact .inl j
          · cases hn
        · exact .inr (.inr u)
      · exact .inr (.inl j)
      · exact .inr (.inr j)
    · rcases hE.imm b (bi b l) with j | j
      · exact .inr (.inl j)
      · exact .inr (.inr j)
    · exact .inr (.inr (Nat.le_trans hE.size l))
  have bg : J3 w w':=hE.big;have bb : qbt w w':=hE.loops
  have bu : Ext w Z inj st.hp w' Z3 r ba st.nx:=by
    refine ⟨hE.size,fun b l j=>keep b l (fun u=>(ah.imm b u).elim j (fun h4=>q8)),?_,bg,bb,hZ,?_,aa,hE.tape,hE.os,hE.output,hE.frz⟩
    · rintro b ⟨m,blk,o,g1,g2,g3⟩;rcases hb.old m blk g1 with g4 | ⟨g4,_⟩
      · exact cz b ⟨m,blk,o,g4,g2,hR m blk g4 _ g3⟩
      · exact .inl ⟨m,blk,o,g4,g2,by rw [← aa m (h.heap.blk m blk g4).1];exact g3⟩
    · intro b hz;rcases ca b hz with l | l | l
      · exact .inl l
      · exact .inr ((ah.imm b l).imp (fun x=>x) (fun x=>x))
      · exact .inr (.inr l)
  have hH : RelH w' Z3 r ba am:=by
    refine ⟨fun m b bo=>?_,fun m n b c p q l j u h4 h5 h6 bt=>?_,fun m b p l j u hz=>?_,ad.heap.zs,ad.heap.zc⟩
    · rcases hb.old m b bo with g | ⟨g,gi⟩
      · obtain ⟨k1,k2⟩:=ad.heap.blk m b g;refine ⟨k1,qmr k2 (fun n p _ hp=>cd n p hp) k1 fun hp=>?_⟩
        cases hq : r m with
        | none=>rfl
        | some p=>rw [hR m b g p hq] at hp;cases hp
      · obtain ⟨k1,k2⟩:=h.heap.blk m b g;refine ⟨Nat.lt_of_lt_of_le k1 hb.nxs,k2.mono (fun b' hz=>?_) hZ bg (fun n hn=>aa n hn) hb.nxs k1 fun p hp cm=>?_⟩
        · refine keep b' (h.heap.zs b' hz) fun hi=>?_;rcases ah.imm b' hi with l | l
          · exact h.heap.z_im hz l
          · have:=h.heap.zs b' hz;omega
        · exact keep _ (h.heap.im_lt ⟨m,b,p.2,g,cm,hp⟩) (au m b p g cm hp gi)
    · have ap : ∀ (m n : Nat) (b c : Blk) (p q : Nat × Nat),find ar m = some b→live b = true→r m = some p→find st.hp n = some c→live c = true→r n = some q→(∀ i,i < k→ρ i≠n)→p.1≠q.1:=by
        intro m n b c p q l u h5 j h4 h6 hn e;have hq : inj n = some q:=by rw [← aa n (h.heap.blk n c j).1];exact h6
        have cx:=h.heap.im_lt (b:=q.1) ⟨n,c,q.2,j,h4,hq⟩;rcases ai.imm p.1 ⟨m,b,p.2,l,u,hR m b l p h5⟩ with g1 | g1
        · rcases hE.imm p.1 (bi _ g1) with g2 | g2
          · exact au n c q j h4 hq hn (e ▸ g2)
          · omega
        · have:=hE.size;omega
      rcases hb.old m b l with g | ⟨g,gi⟩ <;> rcases hb.old n c j with g' | ⟨g',cq⟩
      · exact ad.heap.sep m n b c p q g g' u h4 (hR m b g p h5) (hR n c g' q h6) bt
      · exact ap m n b c p q g u h5 g' h4 h6 cq
      · exact fun e=>ap n m c b q p g' h4 h6 g u h5 gi e.symm
      · exact h.heap.sep m n b c p q g g' u h4 (by rw [← aa m (h.heap.blk m b g).1];exact h5) (by rw [← aa n (h.heap.blk n c g').1];exact h6) bt
    · rcases hb.old m b l with g | ⟨g,gi⟩
      · exact ad.heap.out m b p g j (hR m b g p u) hz
      · have hq : inj m = some p:=by rw [← aa m (h.heap.blk m b g).1];exact u
        rcases ca p.1 hz with h4 | h4 | h4
        · exact h.heap.out m b p g j hq h4
        · exact au m b p g j hq gi h4
        · have:=h.heap.im_lt (b:=p.1) ⟨m,b,p.2,g,j,hq⟩;omega
  exact hK _ _ (q3s h bn bu hH hb.nxs (q6c cy fun n p _ hp=>cd n p hp) hd)
theorem q7z {n m : Nat} {hp : List (Nat × Blk)} : find (q4e n hp) m = if m = n then none else find hp m:=by
  unfold q4e
  induction hp with
  | nil=>simp [find]
  | cons x r ih=>
    obtain ⟨k,b⟩:=x;simp only [List.filter_cons];by_cases hk : k = n
    · subst hk;simp only [Nat.beq_refl,Bool.not_true,Bool.false_eq_true,if_false];rw [ih,Qy];grind
    · have : Nat.beq k n = false:=Bool.eq_false_iff.2 fun h=>hk (Nat.eq_of_beq_eq_true h);simp only [this,Bool.not_false,if_true];rw [Qy,Qy,ih];grind
theorem q13o {j : List V} {hp : List (Nat × Blk)} {nx n es : Nat} {xs : List (List DV)} (h : find hp n = some (.dat es xs)) : Wk 0 (fun _=>n) [] [] {sl:=Yb 0 j,hp:=hp,nx:=nx} {sl:=Yb 0 (j.map (vW n)),hp:=[(0,.dat es xs)],nx:=1}:=by
  refine ⟨fun t p g=>?_,fun m q hb=>?_,fun m k b c a f _ _ _=>?_,fun m b _ _=>qd,fun m a=>q8,Nat.zero_le _,fun m a=>by simp at a,fun m a=>by simp at a⟩
  · have g : find (Yb 0 (List.map (vW n) j)) t = some p:=g;rw [q5d] at g;simp only [Nat.zero_le,if_true,Nat.sub_zero,List.getElem?_map,Y0] at g;obtain ⟨v,r,rfl⟩:=g;refine ⟨v,by show find (Yb 0 j) t = some v;rw [q5d];simpa using r,?_⟩
    cases v with
    | hs m e o l=>
      by_cases a : m = n
      · subst a;simp only [vW,Nat.beq_refl,Qb];exact .hs rfl qd (by show 0 < 1;omega)
      · have : Nat.beq m n = false:=Bool.eq_false_iff.2 fun h=>a (Nat.eq_of_beq_eq_true h);simp only [vW,this,Q6];exact .dead _
    | d x=>exact .d (.refl _)
    | _=>exact .dead _
  · have hb : find [(0,Blk.dat es xs)] m = some q:=hb;rw [Qy] at hb;split at hb
    · rename_i e;subst e;cases hb;exact ⟨by show 0 < 1;omega,.inr ⟨qd,_,h,.dat _ _⟩⟩
    · simp [find] at hb
  · have a : find [(0,Blk.dat es xs)] m = some b:=a;have f : find [(0,Blk.dat es xs)] k = some c:=f;rw [Qy] at a f;simp only [find] at a f;grind
theorem qk5 {c : Call} {f : FuncId} {p : List V} {n es j : Nat} {xs : List (List DV)} {hp' : List (Nat × Blk)} {k : V} {r : DV} {fz : List Nat} (t : Qs ops st o = some true) (s : o.op = .call c) (v : callee st c = some (f,p)) (q : find st.hp n = some (.dat es xs)) (u : n < st.nx)
    (a : J2 P f (p.map (vW n)) [(0,.dat es xs)] 1 k hp' j) (g : ∀ N,Wk 0 (rhoW n j) fz [] {sl:=[(0,k)],hp:=hp',nx:=j} {sl:=[(0,.d r)],hp:=[],nx:=N}) :
    Ja P base ops o st ({sl:=st.sl,hp:=q4e n st.hp,nx:=st.nx : AS}.putD o.dst (.d r)):=by
  refine qk3 t s v (by rw [List.length_map]) (q13o q) a (g st.nx) ⟨fun i hi=>⟨u,?_⟩,fun m l=>?_,fun m l=>(by cases l),fun m b hb=>.inr ?_,Nat.le_refl _⟩
  · have : i = 0:=by omega
    subst this;simp only [rhoW,Nat.beq_refl,Qb]
  · by_cases e : m = n
    · subst e;left;simp only [rhoW,Nat.beq_refl,Qb];exact ⟨q8,trivial⟩
    · have : Nat.beq m n = false:=Bool.eq_false_iff.2 fun h=>e (Nat.eq_of_beq_eq_true h);right;simp only [rhoW,this,Q6];omega
  · rw [q7z] at hb;split at hb
    · cases hb
    · rename_i e;exact ⟨hb,fun i _=>fun h=>e h.symm⟩
theorem q12k {c : Call} {f : FuncId} {v : List V} {n es p : Nat} {xs : List (List DV)} {hp' : List (Nat × Blk)} {s : V} {r : DV} {fz : List Nat} (x : Qs ops st o = some true) (q : o.op = .call c) (y : callee st c = some (f,v)) (w : find st.hp n = some (.dat es xs)) (z : n < st.nx)
    (b : J2 P f (v.map (vW n)) [(0,.dat es xs)] 1 s hp' p) (l : ∀ N,Wk 0 (rhoW n p) fz [] {sl:=[(0,s)],hp:=hp',nx:=p} {sl:=[(0,.d r)],hp:=[],nx:=N}) :
    Jp P ops o (some [n],[n]) st ({sl:=st.sl,hp:=q4e n st.hp,nx:=st.nx : AS}.putD o.dst (.d r)):=by
  refine ⟨by rw [Yh];exact Nat.le_refl _,fun t h=>by rw [Yr,qw h];rfl,fun m a=>?_,fun m _ h=>?_,fun m h1 u=>by rw [Yh] at u;simp only at u;omega,fun st2 g k _=>?_⟩
  · rw [Yf];simp only [List.mem_singleton] at a;rw [q7z,qw a]
  · rw [Yf];rw [q7z];split
    · rfl
    · exact h
  · rw [Yh] at g;simp only at g;have j : find st2.hp n = some (.dat es xs):=(k.blk.1 n qd).trans w;refine ⟨({sl:=st2.sl,hp:=q4e n st2.hp,nx:=st2.nx : AS}.putD o.dst (.d r)),Yh _ _ _,fun base=>qf9 (qk5 (k.guard.trans x) q ((k.callee q).trans y) j q8 b l),fun t h=>by rw [Yr,qw h];rfl,fun t h=>by rw [Yr,Yr,qu h,qu h],fun m a=>?_,fun m a=>?_⟩
    · simp only [List.mem_singleton] at a;rw [Yf,Yf];simp only [q7z,qu a]
    · simp only [List.mem_singleton] at a;rw [Yf];simp only [q7z,qw a]
theorem q12o {c : Call} {f : FuncId} {b : List V} {v : V} {hp' : List (Nat × Blk)} {nx' : Nat} (g : Qs ops st o = some true) (d : o.op = .call c) (h : callee st c = some (f,b)) (a : J2 P f b st.hp st.nx v hp' nx') :
    Ja P base ops o st ({sl:=st.sl,hp:=hp',nx:=nx' : AS}.putD o.dst v):=qt4 g d h a
inductive Zr (P : Program) (base : Nat) (ops : Array Oper) : List Oper→AS→AS→Prop
  | nil {st : AS} : Zr P base ops [] st st
  | cons {o : Oper} {l : List Oper} {st st1 st2 : AS} : Ja P base ops o st st1→Zr P base ops l st1 st2→Zr P base ops (o::l) st st2
  | wk {ρ : Nat→Nat} {fz ph : List Nat} {l : List Oper} {st st1 st2 : AS} : Wk base ρ fz ph st st1→Zr P base ops l st1 st2→Zr P base ops l st st2
inductive U3 (P : Program) (base : Nat) (ops : Array Oper) (F : List Fp) : List Oper→AS→AS→Prop
  | nil {st : AS} : U3 P base ops F [] st st
  | cons {o : Oper} {l : List Oper} {st st1 st2 : AS} : Jp P ops o (fpAt F l.length) st st1→U3 P base ops F l st1 st2→U3 P base ops F (o::l) st st2
  | piv {o : Oper} {l : List Oper} {st st1 st2 : AS} : Jx (fpAt F l.length) = true→Zr P base ops [o] st st1→U3 P base ops F l st1 st2→U3 P base ops F (o::l) st st2
def Uo (P : Program) (base : Nat) (ops : Array Oper) (dr : Dr) (l : List Oper) (st st' : AS) : Prop:=match dr with
  | none=>Zr P base ops l st st'
  | some F=>U3 P base ops F l st st'
theorem qic {F : List Fp} : ∀ {l : List Oper} {st st' : AS},U3 P base ops F l st st'→∃ (n : Nat) (S : Nat→AS),n≤l.length∧S 0 = st∧(∀ i o,i < n→l[i]? = some o→Jp P ops o (fpAt F (l.length - (i + 1))) (S i) (S (i + 1)))∧
    ((n = l.length∧S n = st')∨∃ o st1,l[n]? = some o∧Jx (fpAt F (l.length - (n + 1))) = true∧Zr P base ops [o] (S n) st1∧U3 P base ops F (l.drop (n + 1)) st1 st')
  | [],st,st',h=>by cases h;exact ⟨0,fun _=>st,Nat.le_refl _,rfl,fun i o h=>q8,.inl ⟨rfl,rfl⟩⟩
  | o::l,st,st',h=>by
    cases h with
    | @cons _ _ _ st1 _ h1 h2=>
      obtain ⟨n,S,k,e0,hs,a⟩:=qic h2
      refine ⟨n + 1,fun i=>match i with | 0=>st | i + 1=>S i,by simp;omega,rfl,fun i d hi c=>?_,?_⟩
      · cases i with
        | zero=>simp at c;subst c;simp only [e0,List.length_cons,Nat.zero_add,Nat.add_sub_cancel];exact h1
        | succ i=>
          have:=hs i d q8 (by simpa using c)
          simp only [List.length_cons]
          rw [show l.length + 1 - (i + 1 + 1) = l.length - (i + 1) by omega]
          exact this
      · rcases a with ⟨b,f⟩ | ⟨d,s1,b,f,j,g⟩
        · exact .inl ⟨by simp [b],f⟩
        · refine .inr ⟨d,s1,by simpa using b,?_,j,by simpa using g⟩
          rw [List.length_cons,show l.length + 1 - (n + 1 + 1) = l.length - (n + 1) by omega]
          exact f
    | @piv _ _ _ st1 _ h1 h2 b=>exact ⟨0,fun _=>st,Nat.zero_le _,rfl,fun i o h=>q8,.inr ⟨o,st1,rfl,by simpa using h1,h2,by simpa using b⟩⟩
theorem qpg {dr : Dr} {l : List Oper} {st2 : AS} (a : Qs ops st o = some false) (h : Uo P base ops dr l (st.putD o.dst (.d (.tup []))) st2) : Uo P base ops dr (o::l) st st2:=by
  cases dr with
  | none=>exact .cons (qk6 a) h
  | some F=>exact .cons ((q12n a).mono (qjw _)) h
theorem qpe {dr : Dr} {l : List Oper} {st2 : AS} {v : V} (c : Z8 P T) (d : Qs ops st o = some true) (b : opFn T st o.op = some (v,st1)) (a : okO dr l.length st o.op st1 = true) (h : Uo P base ops dr l (st1.putD o.dst v) st2) : Uo P base ops dr (o::l) st st2:=by
  cases dr with
  | none=>exact .cons (qfa c d b) h
  | some F=>
    simp only [okO,Bool.and_eq_true] at a;exact .cons ((q12l c d b a.2).mono a.1) h
theorem qpf {dr : Dr} {l : List Oper} {st2 : AS} {n es : Nat} {xs : List (List DV)} {hp2 : List (Nat × Blk)} (f : Z8 P T) (j : Qs ops st o = some true) (b : opFn T st o.op = some (.hs n es 0 xs.length,st1)) (g : n = st.nx∧st1.nx = n + 1) (c : st1.hp = (n,.dat es xs)::hp2) (a : find hp2 n = none) (k : okF dr l.length (fp st o.op) = true)
    (h : Uo P base ops dr l (({sl:=st1.sl,hp:=hp2,nx:=st1.nx} : AS).putD o.dst (.d (.sl es xs))) st2) : Uo P base ops dr (o::l) st st2:=by
  cases dr with
  | none=>exact .cons (qt5 f j b (Nat.le_of_eq g.1.symm) c a) h
  | some F=>exact .cons ((q12m f j b g c a).mono k) h
theorem qpc {dr : Dr} {l : List Oper} {st2 : AS} {c : Call} {f : FuncId} {k : List V} {ds : List DV} {v : V} {hp' : List (Nat × Blk)} {nx' : Nat} {n r : DV} (p : Qs ops st o = some true) (m : o.op = .call c) (q : callee st c = some (f,k))
    (j : Y8 st.hp k = some ds) (a : J2 P f (ds.map .d) [] 0 v hp' nx') (b : toD hp' 8 v = some n) (g : DLe n r) (hs : k.all V.isD = true∨r.scalar = true) (s : okF dr l.length (fpC k) = true) (h : Uo P base ops dr l (st.putD o.dst (.d r)) st2) : Uo P base ops dr (o::l) st st2:=by
  cases dr with
  | none=>exact .cons (qk4 p m q j a b g hs) h
  | some F=>exact .cons ((q12j p m q j a b g hs).mono s) h
theorem qpd {dr : Dr} {l : List Oper} {st2 : AS} {c : Call} {f : FuncId} {u b : List V} {n es k : Nat} {xs : List (List DV)} {hp' : List (Nat × Blk)} {q : V} {r : DV} {fz : List Nat} (s : Qs ops st o = some true) (p : o.op = .call c) (v : callee st c = some (f,u)) (j : u.map (vW n) = b) (m : find st.hp n = some (.dat es xs)) (t : n < st.nx)
    (a : J2 P f b [(0,.dat es xs)] 1 q hp' k) (g : ∀ N,Wk 0 (rhoW n k) fz [] {sl:=[(0,q)],hp:=hp',nx:=k} {sl:=[(0,.d r)],hp:=[],nx:=N}) (w : okF dr l.length (some [n],[n]) = true)
    (h : Uo P base ops dr l ({sl:=st.sl,hp:=q4e n st.hp,nx:=st.nx : AS}.putD o.dst (.d r)) st2) : Uo P base ops dr (o::l) st st2:=by
  subst j
  cases dr with
  | none=>exact .cons (qk5 s p v m t a g) h
  | some F=>exact .cons ((q12k s p v m t a g).mono w) h
def Adm (ops : Array Oper) (S : Nat→Prop) : Prop:=∀ j o,S j→ops[j]? = some o→∀ e∈o.after,Region.binds .any e = true→S e.on
def Behind (ops : Array Oper) (o : Oper) (j : Nat) : Prop:=∀ S : Nat→Prop,Adm ops S→(∀ e∈o.after,Region.binds .any e = true→S e.on)→S j
theorem ql0 (acc : List Nat) (j : Nat) : ∀ (l : List Edge) (s : Nat),(l.foldl (fun s e=>if Region.binds .any e then s ||| 2 ^ e.on ||| acc.getD e.on 0 else s) s).testBit j = true→
    s.testBit j = true∨∃ e∈l,Region.binds .any e = true∧(e.on = j∨(acc.getD e.on 0).testBit j = true)
  | [],s,h=>.inl h
  | e::l,s,h=>by
    simp only [List.foldl_cons] at h
    rcases ql0 acc j l _ h with h | ⟨d,b,a,c⟩
    · by_cases hb : Region.binds .any e = true
      · simp only [hb,if_true,Nat.testBit_or,Bool.or_eq_true,Nat.testBit_two_pow] at h
        rcases h with (h | h) | h
        · exact .inl h
        · exact .inr ⟨e,qd,hb,.inl (by simpa using h)⟩
        · exact .inr ⟨e,qd,hb,.inr h⟩
      · simp only [hb] at h;exact .inl (by simpa using h)
    · exact .inr ⟨d,List.mem_cons_of_mem _ b,a,c⟩
theorem ql1 : ∀ (r : List Oper) (pre : List Oper) (acc : List Nat),ops.toList = pre ++ r→acc.length = pre.length→
    (∀ (i m : Nat),acc[i]? = some m→∃ o,ops[i]? = some o∧∀ j,m.testBit j = true→Behind ops o j)→
    (masks acc r).length = ops.size∧∀ (i m : Nat),(masks acc r)[i]? = some m→∃ o,ops[i]? = some o∧∀ j,m.testBit j = true→Behind ops o j
  | [],pre,acc,h,hl,ha=>by
    refine ⟨?_,ha⟩
    have:=congrArg List.length h
    simp at this
    simp [masks,hl,this]
  | o::r,pre,acc,h,hl,ha=>by
    refine ql1 r (pre ++ [o]) (acc ++ [qkz acc o]) (by rw [h];simp) (by simp [hl]) ?_
    intro i m b
    by_cases hi : i < acc.length
    · rw [List.getElem?_append_left hi] at b;exact ha i m b
    · rw [List.getElem?_append_right q8] at b
      have g : i = acc.length:=by
        have:=K7 b;simp at this;omega
      subst g
      simp at b;subst b
      refine ⟨o,by rw [← Array.getElem?_toList,h,hl];simp,fun j s S n t=>?_⟩
      rcases ql0 acc j _ _ s with q | ⟨e,u,p,a⟩
      · simp at q
      · have c:=t e (by simpa using u) p
        rcases a with a | a
        · exact a ▸ c
        · rw [List.getD_eq_getElem?_getD] at a
          cases k : acc[e.on]? with
          | none=>rw [k] at a;simp at a
          | some m'=>
            rw [k] at a;obtain ⟨w,d,hb⟩:=ha _ _ k;exact hb j a S n (fun v l f=>n _ _ c d v l f)
theorem qj7 : ∀ (l : List Oper) (n : Nat),qcd n l = true→∀ i o,l[i]? = some o→∀ e∈o.after,Region.binds .any e = true→e.on < n + i
  | [],_,_,i,o,h=>by simp at h
  | x::l,n,h,i,o,ho=>by
    simp only [qcd,Bool.and_eq_true,List.all_eq_true] at h
    cases i with
    | zero=>
      simp at ho;subst ho
      intro e a hb
      have:=h.1 e (by simpa using a)
      simp [hb] at this
      exact this
    | succ i=>
      intro e a hb
      have:=qj7 l (n + 1) h.2 i o (by simpa using ho) e a hb
      omega
structure q7i (x y : Fp) : Prop where
  ww : ∀ m∈x.2,m ∉ y.2
  rw : ∀ m∈y.2,match x.1 with | none=>False | some r=>m ∉ r
  wr : ∀ m∈x.2,match y.1 with | none=>False | some r=>m ∉ r
theorem qe2 {a b : List Nat} (h : q3e a b = true) : ∀ m∈a,m ∉ b:=fun m c hb=>by
  simp only [q3e,List.all_eq_true] at h
  have:=h m c
  rw [ql3 hb] at this;cases this
theorem qou {x y : Fp} (h : Uq x y = true) : q7i x y:=by
  simp only [Uq,Bool.and_eq_true] at h;obtain ⟨⟨f,b⟩,c⟩:=h;refine ⟨qe2 f,fun m a=>?_,fun m a=>?_⟩
  · revert b
    cases x.1 with
    | none=>intro b;rw [List.isEmpty_iff] at b;rw [b] at a;cases a
    | some r=>intro b d;exact qe2 b m d a
  · revert c
    cases y.1 with
    | none=>intro c;rw [List.isEmpty_iff] at c;rw [c] at a;cases a
    | some r=>intro c d;exact qe2 c m d a
structure q7j (F : List Fp) (ops : Array Oper) : Prop where
  edges : ∀ j o,ops[j]? = some o→∀ e∈o.after,Region.binds .any e = true→e.on < j
  pairs : ∀ i j a b,i < j→ops[i]? = some a→ops[j]? = some b→Behind ops b i∨(q7i (fpAt F (ops.size - (i + 1))) (fpAt F (ops.size - (j + 1)))∧(∀ t∈reads ops a,b.dst≠some t)∧(∀ t∈reads ops b,a.dst≠some t)∧∀ t,a.dst = some t→b.dst≠some t)
  pivs : ∀ i j a b,i < j→ops[i]? = some a→ops[j]? = some b→(Jx (fpAt F (ops.size - (i + 1))) = true∨Jx (fpAt F (ops.size - (j + 1))) = true)→Behind ops b i
theorem qok {α : Type} {l : List α} {i : Nat} {x : α} (h : l[i]? = some x) : (x,i)∈l.zipIdx:=by grind
theorem qes {o : Oper} {t : Tmp} : q7v o t = true↔o.dst = some t:=by
  unfold q7v
  cases o.dst with
  | none=>simp
  | some d=>simp
theorem qqy {F : List Fp} (h : q3g F ops = true) : q7j F ops:=by
  simp only [q3g,Bool.and_eq_true,List.all_eq_true] at h;obtain ⟨m,s⟩:=h;obtain ⟨w,v⟩:=ql1 (ops:=ops) ops.toList [] [] rfl rfl qd;have d : ∀ (i : Nat) (o : Oper),ops[i]? = some o→ops.toList[i]? = some o:=fun i o l=>by rw [Array.getElem?_toList];exact l
  have main : ∀ i j a b,i < j→ops[i]? = some a→ops[j]? = some b→Behind ops b i∨((Jx (fpAt F (ops.size - (i + 1))) = false∧Jx (fpAt F (ops.size - (j + 1))) = false)∧(q7i (fpAt F (ops.size - (i + 1))) (fpAt F (ops.size - (j + 1)))∧(∀ t∈reads ops a,b.dst≠some t)∧(∀ t∈reads ops b,a.dst≠some t)∧∀ t,a.dst = some t→b.dst≠some t)):=fun i j a b c g hb=>by
    have:=s _ (qok (d j b hb)) _ (qok (d i a g));simp only [Bool.or_eq_true] at this;rcases this with (h | h) | h
    · have p : Nat.blt i j = true:=by rw [Nat.blt_eq];exact c
      grind
    · grind
    · right;simp only [Bool.and_eq_true,Bool.not_eq_true'] at h;obtain ⟨⟨⟨hp1,hp2⟩,h⟩,u⟩:=h;simp only [qhz,Bool.and_eq_true,List.all_eq_true,Bool.not_eq_true'] at h;obtain ⟨⟨r,n⟩,k⟩:=h;refine ⟨⟨hp1,hp2⟩,qou u,fun t f hd=>?_,fun t f hd=>?_,fun t f hd=>?_⟩
      · have:=r t f;rw [qes.2 hd] at this;cases this
      · have:=n t f;rw [qes.2 hd] at this;cases this
      · rw [f] at k;simp only at k;rw [qes.2 hd] at k;simp at k
  refine ⟨fun j o l e q hb=>?_,fun i j a b c g hb=>(main i j a b c g hb).imp id And.right,fun i j a b c g hb hp=>?_⟩
  · have:=qj7 _ 0 m j o (d j o l) e q hb;omega
  grind
end
end Go.Am
namespace Go.Am
open Go
variable {P : Program}
section
variable {base : Nat} {ops : Array Oper}
theorem qf8 {l : Array Bool} {i : Nat} : l.getD i false = true↔l[i]? = some true:=by
  rw [Array.getD_eq_getD_getElem?];cases l[i]? <;> simp
theorem qcg {l : Array Bool} {i : Nat} : l.getD i true = false↔l[i]? = some false:=by
  rw [Array.getD_eq_getD_getElem?];cases l[i]? <;> simp
theorem qz0 {w : World} {Z : Nat→Prop} {inj : Inj} {hp hp2 : List (Nat × Blk)} {nx : Nat} (h : RelH w Z inj hp nx) (hs : ∀ m,find hp2 m = find hp m) : RelH w Z inj hp2 nx:=by
  refine ⟨fun n b hb=>h.blk n b (by rw [← hs];exact hb),fun n m b c p q a d=>h.sep n m b c p q (by rw [← hs];exact a) (by rw [← hs];exact d),fun n b p a=>h.out n b p (by rw [← hs];exact a),h.zs,h.zc⟩
theorem qsl {w w' : World} {Z Z' : Nat→Prop} {inj inj' : Inj} {hp hp' hp2 : List (Nat × Blk)} {pin : Nat} (h : Ext w Z inj hp w' Z' inj' hp' pin) (hs : ∀ m,find hp2 m = find hp' m) : Ext w Z inj hp w' Z' inj' hp2 pin:=
  {h with imm:=fun b hb=>h.imm b (by
      obtain ⟨n,c,o,f,a,d⟩:=hb
      exact ⟨n,c,o,by rw [← hs];exact f,a,d⟩)}
abbrev fpO (F : List Fp) (ops : Array Oper) (i : Nat) : Fp:=fpAt F (ops.size - (i + 1))
def CutS (ops : Array Oper) (listed : Array Bool) (t : Tmp) (m : Nat) : Prop:=∀ (i : Nat) (o : Oper),ops[i]? = some o→o.dst = some t→(listed[i]? = some true↔i < m)
def CutB (F : List Fp) (ops : Array Oper) (listed : Array Bool) (q m : Nat) : Prop:=∀ (i : Nat) (o : Oper),ops[i]? = some o→q∈(fpO F ops i).2→(listed[i]? = some true↔i < m)
structure Mid (F : List Fp) (ops : Array Oper) (S : Nat→AS) (lo hi : Nat) (listed : Array Bool) (st : AS) : Prop where
  nx : st.nx = (S hi).nx
  sl : ∀ t m,lo≤m→m≤hi→CutS ops listed t m→st.get t = (S m).get t
  hp : ∀ q m,lo≤m→m≤hi→CutB F ops listed q m→find st.hp q = find (S m).hp q
abbrev Steps (P : Program) (F : List Fp) (ops : Array Oper) (S : Nat→AS) (lo hi : Nat) : Prop:=∀ (i : Nat) (o : Oper),lo≤i→i < hi→ops[i]? = some o→Jp P ops o (fpO F ops i) (S i) (S (i + 1))
theorem qe7 {F : List Fp} {S : Nat→AS} {lo hi : Nat} (b : hi≤ops.size) (d : Steps P F ops S lo hi) {t : Tmp} {j : Nat} (a : lo≤j) : ∀ m,j≤m→m≤hi→(∀ (i : Nat) (o : Oper),j≤i→i < m→ops[i]? = some o→o.dst≠some t)→(S m).get t = (S j).get t
  | 0,h,_,_=>by have : j = 0:=q8;subst this;rfl
  | m + 1,h,hm,hno=>by
    by_cases f : j = m + 1
    · subst f;rfl
    · obtain ⟨o,c⟩:=Y1 (xs:=ops) (i:=m) q8
      rw [(d m o q8 q8 c).sl t (hno m o q8 q8 c)]
      exact qe7 b d a m q8 q8 fun i o g k=>hno i o g q8
theorem qe6 {F : List Fp} {S : Nat→AS} {lo hi : Nat} (b : hi≤ops.size) (d : Steps P F ops S lo hi) {q j : Nat} (a : lo≤j) : ∀ m,j≤m→m≤hi→(∀ (i : Nat) (o : Oper),j≤i→i < m→ops[i]? = some o→q ∉ (fpO F ops i).2)→find (S m).hp q = find (S j).hp q
  | 0,h,_,_=>by have : j = 0:=q8;subst this;rfl
  | m + 1,h,hm,hno=>by
    by_cases f : j = m + 1
    · subst f;rfl
    · obtain ⟨o,c⟩:=Y1 (xs:=ops) (i:=m) q8
      rw [(d m o q8 q8 c).hp q (hno m o q8 q8 c)]
      exact qe6 b d a m q8 q8 fun i o g k=>hno i o g q8
theorem q30 {F : List Fp} {S : Nat→AS} {lo hi : Nat} (b : hi≤ops.size) (c : Steps P F ops S lo hi) {j : Nat} (a : lo≤j) : ∀ m,j≤m→m≤hi→(S j).nx≤(S m).nx
  | 0,h,_=>by have : j = 0:=q8;subst this;exact Nat.le_refl _
  | m + 1,h,hm=>by
    by_cases f : j = m + 1
    · subst f;exact Nat.le_refl _
    · obtain ⟨o,d⟩:=Y1 (xs:=ops) (i:=m) q8
      exact Nat.le_trans (q30 b c a m q8 q8) (c m o q8 q8 d).nx
theorem qkj {F : List Fp} {S : Nat→AS} {lo hi : Nat} (a : hi≤ops.size) (c : Steps P F ops S lo hi) (b : ∀ q,(S lo).nx≤q→find (S lo).hp q = none) : ∀ m,lo≤m→m≤hi→∀ q,(S m).nx≤q→find (S m).hp q = none
  | 0,hl,_,q,hq=>by have : lo = 0:=q8;subst this;exact b q hq
  | m + 1,hl,hm,q,hq=>by
    by_cases f : lo = m + 1
    · subst f;exact b q hq
    obtain ⟨o,d⟩:=Y1 (xs:=ops) (i:=m) q8
    have hs:=c m o q8 q8 d
    exact hs.keys q hq (qkj a c b m q8 q8 q (Nat.le_trans hs.nx hq))
def Keep (ops : Array Oper) (S : Nat→AS) (lo hi : Nat) (base : Nat) (w0 : World) (Z0 : Nat→Prop) (inj0 : Inj) (hp0 : List (Nat × Blk)) (a0 : Act) (Ds0 : List Nat) (listed : Array Bool) (st : AS) (a : Act) (w : World) : Prop:=
  ∃ Z inj Ds,RelS w Z inj st a Ds∧Ext w0 Z0 inj0 hp0 w Z inj st.hp base∧a.tmps.size = a0.tmps.size∧(∀ D∈Ds,D∈Ds0∨w0.heap.size≤D)∧
    ∀ (i : Nat) (o : Oper),lo≤i→i < hi→ops[i]? = some o→listed[i]?≠some true→∀ m,(S i).nx≤m→m < (S (i + 1)).nx→inj m = none
theorem qiv {l : Array Bool} {i : Nat} {n : Nat} (hi : l[i]? = some false) (b : l.toList.count false = n + 1) : (l.setIfInBounds i true).toList.count false = n:=by
  have a : i < l.toList.length:=by simpa using Ze hi
  rw [Array.toList_setIfInBounds,List.count_set a]
  have : l.toList[i] = false:=by
    have:=hi;rw [← Array.getElem?_toList,List.getElem?_eq_getElem a] at this;simpa using this
  simp [this,b]
theorem qmq {F : List Fp} (l : q7j F ops) {listed : Array Bool} (j : listed.size = ops.size) : ∀ (n i : Nat),i = n→listed[i]? = some false→Region.ready .any ops listed≠[]:=by
  intro n
  induction n using Nat.strongRecOn with
  | _ n ihn=>
    intro i g hi;subst g;obtain ⟨o,k⟩:=Y1 (xs:=ops) (i:=i) (by rw [← j];exact Ze hi);by_cases a : ∀ e∈o.after,Region.binds .any e = true→listed.getD e.on false = true
    · intro c;have : i∈Region.ready .any ops listed:=mem_ready.2 ⟨qcg.2 hi,o,k,a⟩;rw [c] at this;cases this
    · simp only [Classical.not_forall] at a;obtain ⟨e,m,hb,f⟩:=a;have h:=l.edges i o k e m hb;obtain ⟨b,d⟩:=Y1 (xs:=listed) (i:=e.on) (by have:=Ze hi;omega)
      cases b with
      | true=>exact absurd (qf8.2 d) f
      | false=>exact ihn e.on h e.on rfl d
theorem qhs {listed : Array Bool} {i : Nat} {o : Oper} (f : Adm ops (fun i=>listed[i]? = some true)) (k : ops[i]? = some o) (l : listed[i]? = some false) (c : ∀ e∈o.after,Region.binds .any e = true→listed[e.on]? = some true) :
    (∀ (j : Nat),(listed.setIfInBounds i true)[j]? = some true↔(j = i∨listed[j]? = some true))∧Adm ops (fun j=>(listed.setIfInBounds i true)[j]? = some true):=by
  have a : ∀ (j : Nat),(listed.setIfInBounds i true)[j]? = some true↔(j = i∨listed[j]? = some true):=by
    intro j;by_cases d : j = i
    · subst d;simp [Ze l]
    · rw [Array.getElem?_setIfInBounds_ne (Ne.symm d)];simp [d]
  refine ⟨a,?_⟩;intro j m g b e h hb;rw [a] at g ⊢;rcases g with rfl | g
  · rw [k] at b;cases b;exact .inr (c e h hb)
  · exact .inr (f j m g b e h hb)
theorem qr0 {F : List Fp} {S : Nat→AS} {lo hi : Nat} (bk : lo≤hi) (aa : hi≤ops.size) (hD : q7j F ops) (hS : Steps P F ops S lo hi) (bc : ∀ (i j : Nat) (d : Oper),i < hi→hi≤j→ops[j]? = some d→Behind ops d i) (h0 : ∀ q,(S lo).nx≤q→find (S lo).hp q = none)
    {w0 : World} {Z0 : Nat→Prop} {inj0 : Inj} {hp0 : List (Nat × Blk)} {a0 : Act} {Ds0 : List Nat} {ro : Option Nat} {Q : Exit→Act→World→Prop} (bv : base≤(S lo).nx)
    (hd : ∀ (i : Nat) (o : Oper),ops[i]? = some o→J5 a0.tmps.size o.dst = true)
    (hQ : ∀ (fuel : Nat) (listed : Array Bool) (a' : Act) (w' : World),listed.size = ops.size→listed.toList.count false = fuel→Adm ops (fun i=>listed[i]? = some true)→(∀ (i : Nat),listed[i]? = some true↔i < hi)→
      (∃ Z inj Ds,RelS w' Z inj (S hi) a' Ds∧Ext w0 Z0 inj0 hp0 w' Z inj (S hi).hp base∧a'.tmps.size = a0.tmps.size∧base≤(S hi).nx∧(∀ D∈Ds,D∈Ds0∨w0.heap.size≤D))→Yl ro w'→wpAnyIn (Fw ro) 0 P .any ops Q fuel listed a' w') : ∀ (fuel : Nat) (listed : Array Bool) (a : Act) (w : World) (st : AS),
      listed.size = ops.size→listed.toList.count false = fuel→Adm ops (fun i=>listed[i]? = some true)→(∀ (i : Nat),i < lo→listed[i]? = some true)→(∀ (i : Nat),hi≤i→listed[i]?≠some true)→Keep ops S lo hi base w0 Z0 inj0 hp0 a0 Ds0 listed st a w→Yl ro w→Mid F ops S lo hi listed st→
      wpAnyIn (Fw ro) 0 P .any ops Q fuel listed a w:=by
  have fin : ∀ (fuel : Nat) (listed : Array Bool) (a : Act) (w : World) (st : AS),
      listed.size = ops.size→listed.toList.count false = fuel→Adm ops (fun i=>listed[i]? = some true)→(∀ (i : Nat),i < lo→listed[i]? = some true)→(∀ (i : Nat),hi≤i→listed[i]?≠some true)→Keep ops S lo hi base w0 Z0 inj0 hp0 a0 Ds0 listed st a w→Yl ro w→Mid F ops S lo hi listed st→
      (∀ (i : Nat),lo≤i→i < hi→listed[i]? = some true)→wpAnyIn (Fw ro) 0 P .any ops Q fuel listed a w:=by
    intro fuel listed a w st ad hc n s aj hp ag g ac
    have ao : ∀ (i : Nat),listed[i]? = some true↔i < hi:=fun i=>⟨fun h=>by
      rcases Nat.lt_or_ge i hi with z | z
      · exact z
      · exact absurd h (aj i z),fun h=>by
      rcases Nat.lt_or_ge i lo with z | z
      · exact s i z
      · exact ac i z h⟩
    refine hQ fuel listed a w ad hc n ao ?_ ag
    obtain ⟨Z,inj,Ds,z,h2,h3,h4,_⟩:=hp
    have br : ∀ q,find (S hi).hp q = find st.hp q:=fun q=>(g.hp q hi bk (Nat.le_refl _) fun i o ho _=>ao i).symm
    refine ⟨Z,inj,Ds,⟨fun t v ht=>?_,?_,z.defs,z.nodup,z.marks⟩,qsl h2 br,h3,Nat.le_trans bv (q30 aa hS (Nat.le_refl _) _ bk (Nat.le_refl _)),h4⟩
    · rw [← g.nx]
      refine z.slots t v ?_
      have:=g.sl t hi bk (Nat.le_refl _) fun i o ho _=>ao i
      exact this.trans ht
    · rw [← g.nx];exact qz0 z.heap br
  intro fuel
  induction fuel with
  | zero=>
    intro listed a w st ad hc n s aj hp ag g;refine fin 0 listed a w st ad hc n s aj hp ag g fun i _ hi=>?_;have h:=List.count_eq_zero.1 hc;obtain ⟨b,hb⟩:=Y1 (xs:=listed) (i:=i) q8
    cases b with
    | true=>exact hb
    | false=>exact absurd (by simpa using Array.mem_of_getElem? hb) h
  | succ fuel ih=>
    intro listed a w st ad hc n s aj hp ag g;by_cases ac : ∀ (i : Nat),lo≤i→i < hi→listed[i]? = some true
    · exact fin _ listed a w st ad hc n s aj hp ag g ac
    have bb : ∃ k : Nat,(lo≤k∧k < hi)∧listed[k]? = some false:=by
      simp only [Classical.not_forall] at ac;obtain ⟨k,z,h2,h3⟩:=ac;obtain ⟨b,hb⟩:=Y1 (xs:=listed) (i:=k) q8
      cases b with
      | true=>exact absurd hb h3
      | false=>exact ⟨k,⟨z,h2⟩,hb⟩
    obtain ⟨k0,⟨dc,cm⟩,bp⟩:=bb;refine ⟨fun bn=>?_,fun i ce=>?_⟩
    · exact absurd bn (qmq hD ad k0 k0 rfl bp)
    · obtain ⟨z,o,ho,bd⟩:=mem_ready.1 ce;rw [qcg] at z;have ak : ∀ e∈o.after,Region.binds .any e = true→(fun i=>listed[i]? = some true) e.on:=fun e he hb=>qf8.1 (bd e he hb);have ay : ∀ j,Behind ops o j→listed[j]? = some true:=fun j hb=>hb _ n ak;have u : lo≤i:=Nat.le_of_not_lt fun h=>by have:=s i h;rw [z] at this;cases this
      have ax : i < hi:=Nat.lt_of_not_le fun h=>by
        have:=ay k0 (bc k0 i o cm h ho);rw [bp] at this;cases this
      have av : ∀ (j : Nat) (d : Oper),ops[j]? = some d→Behind ops d i→listed[j]?≠some true:=by
        intro j d c hb hj;have:=hb (fun i=>listed[i]? = some true) n (fun e he cl=>n j d hj c e he cl);rw [z] at this;cases this
      obtain ⟨l,bg⟩:=qhs n ho z ak;have bt : (listed.setIfInBounds i true).size = ops.size:=by simp [ad]
      have co:=qiv z hc;have dg : i < ops.size:=Ze ho;have bi : listed[i]?≠some true:=by rw [z];simp
      have y : ∀ (j : Nat) (d : Oper),ops[j]? = some d→j≠i→(listed[j]? = some true↔j < i)∨(q7i (fpO F ops i) (fpO F ops j)∧(∀ t∈reads ops o,d.dst≠some t)∧∀ t,o.dst = some t→d.dst≠some t):=by
        intro j d c f;rcases Nat.lt_or_gt_of_ne f with h | h
        · rcases hD.pairs j i d o h c ho with hb | ⟨ha,h2,h3,h4⟩
          · exact .inl ⟨fun _=>h,fun _=>ay j hb⟩
          · exact .inr ⟨⟨fun m h5 h6=>ha.ww m h6 h5,ha.wr,ha.rw⟩,h3,fun t h5 h6=>h4 t h6 h5⟩
        · rcases hD.pairs i j o d h ho c with hb | ⟨ha,h2,h3,h4⟩
          · exact .inl ⟨fun p=>absurd p (av j d c hb),fun p=>q8⟩
          · exact .inr ⟨ha,h2,h4⟩
      have an : ∀ m∈(fpO F ops i).2,find st.hp m = find (S i).hp m:=fun m hm=>by
        refine g.hp m i u q8 fun j d c ab=>?_;by_cases f : j = i
        · subst f;exact ⟨fun p=>absurd p bi,fun p=>absurd p (Nat.lt_irrefl _)⟩
        · rcases y j d c f with h | ⟨ha,_⟩
          · exact h
          · exact absurd ab (ha.ww m hm)
      have cc : q1i ops o (fpO F ops i) (S i) st:=by
        refine ⟨⟨an,?_⟩,fun t ht=>?_⟩
        · have key : ∀ m,(∀ (j : Nat) (d : Oper),ops[j]? = some d→j≠i→q7i (fpO F ops i) (fpO F ops j)→m ∉ (fpO F ops j).2)→find st.hp m = find (S i).hp m:=fun m hm=>by
            by_cases bo : m∈(fpO F ops i).2
            · exact an m bo
            refine g.hp m i u q8 fun j d c ab=>?_;by_cases f : j = i
            · subst f;exact absurd ab bo
            · rcases y j d c f with h | ⟨ha,_⟩
              · exact h
              · exact absurd ab (hm j d c f ha)
          cases hR : (fpO F ops i).1 with
          | none=>exact fun m=>key m fun j d _ _ ha ab=>by have:=ha.rw m ab;rw [hR] at this;exact this
          | some r=>exact fun m cr=>key m fun j d _ _ ha ab=>by have:=ha.rw m ab;rw [hR] at this;exact this cr
        · refine g.sl t i u q8 fun j d c af=>?_;by_cases f : j = i
          · subst f;exact ⟨fun p=>absurd p bi,fun p=>absurd p (Nat.lt_irrefl _)⟩
          · rcases y j d c f with h | ⟨_,hr,_⟩
            · exact h
            · exact absurd af (hr t ht)
      have ah:=hS i o u ax ho;have ba : (S (i + 1)).nx≤st.nx:=by rw [g.nx];exact q30 aa hS q8 _ q8 (Nat.le_refl _)
      have bh : ∀ m,(S i).nx≤m→m < (S (i + 1)).nx→find st.hp m = none:=fun m h2 h3=>by
        rw [an m (ah.fresh m h2 h3)];exact qkj aa hS h0 i u q8 m h2
      obtain ⟨cn,bq,az,ci,cj,cg,ch⟩:=ah.other st ba cc bh;refine qbg ho ?_;obtain ⟨Z,inj,Ds,k1,k2,k3,k4,k5⟩:=hp;have cf : base≤(S i).nx:=Nat.le_trans bv (q30 aa hS (Nat.le_refl _) _ u q8);refine az base ro Q w Z inj a Ds _ k1 (by rw [k3];exact hd i o ho) cf (by have:=ah.nx;omega) ag (k5 i o u ax ho bi) fun a' w' hp'=>?_;obtain ⟨Z',inj',ca,g1,g2,g3,g4,g5⟩:=hp';refine ih _ a' w' cn bt co bg (fun j hj=>(l j).2 (.inr (s j hj))) (fun j hj p=>?_) ⟨Z',inj',ca,g1,k2.trans g2 (Nat.le_refl _),g3.trans k3,fun D hD=>?_,fun j d bf aq c bx m h2 h3=>?_⟩ (ag.ext g2) ⟨bq.trans g.nx,fun t m bj hm x=>?_,fun q m bj hm x=>?_⟩
      · rcases (l j).1 p with rfl | p
        · omega
        · exact aj j hj p
      · rcases g4 D hD with h | h
        · exact k4 D h
        · exact .inr (Nat.le_trans k2.size h)
      · have f : j≠i:=by rintro rfl;exact bx ((l j).2 (.inl rfl))
        have bw : listed[j]?≠some true:=fun e=>bx ((l j).2 (.inr e))
        rw [g5 m (by
          have:=q30 aa hS (j:=j + 1) q8 hi q8 (Nat.le_refl _)
          have:=g.nx;omega) (by
          rcases Nat.lt_or_gt_of_ne f with h | h
          · left;have:=q30 aa hS (j:=j + 1) q8 i q8 q8;omega
          · right;have:=q30 aa hS (j:=i + 1) q8 j q8 q8;omega)]
        exact k5 j d bf aq c bw m h2 h3
      · by_cases al : o.dst = some t
        · have cd : i < m:=(x i o ho al).1 ((l i).2 (.inl rfl));rw [cj t al];refine (qe7 aa hS q8 m q8 hm fun j d bf aq c af=>?_).symm;have p:=(l j).1 ((x j d c af).2 aq);rcases p with p | p
          · omega
          · rcases y j d c q8 with h | ⟨_,_,hw⟩
            · have:=h.1 p;omega
            · exact hw t al af
        · rw [ci t al];refine g.sl t m bj hm fun j d c af=>?_;have f : j≠i:=by rintro rfl;rw [ho] at c;cases c;exact al af
          rw [← x j d c af,l];simp [f]
      · by_cases hq : q∈(fpO F ops i).2
        · have cd : i < m:=(x i o ho hq).1 ((l i).2 (.inl rfl));rw [cg q hq];refine (qe6 aa hS q8 m q8 hm fun j d bf aq c ap=>?_).symm;have p:=(l j).1 ((x j d c ap).2 aq);rcases p with p | p
          · omega
          · rcases y j d c q8 with h | ⟨ha,_⟩
            · have:=h.1 p;omega
            · exact ha.ww q hq ap
        · rw [ch q hq];refine g.hp q m bj hm fun j d c ap=>?_;have f : j≠i:=by rintro rfl;exact hq ap
          rw [← x j d c ap,l];simp [f]
theorem qz3 {w : World} {Z : Nat→Prop} {inj : Inj} {st : AS} {a : Act} {Ds : List Nat} {N : Nat} (h : RelS w Z inj st a Ds) (l : st.nx≤N) : RelS w Z (fun m=>if m < st.nx then inj m else none) {st with nx:=N} a Ds:=by
  have hi : ∀ n,n < st.nx→(fun m=>if m < st.nx then inj m else none) n = inj n:=fun n t=>by simp [t]
  have d : J3 w w:=fun _ c e f h=>⟨c,e,f,h,rfl⟩
  refine ⟨h.slots.mono (fun _ _=>rfl) (fun _ h=>h) d hi l,⟨fun n b hb=>?_,fun n m b c p q g j k v s r=>?_,fun n b p g j k=>?_,h.heap.zs,h.heap.zc⟩,h.defs,h.nodup,h.marks⟩
  · obtain ⟨o,u⟩:=h.heap.blk n b hb;exact ⟨Nat.lt_of_lt_of_le o l,u.mono (fun _ _=>rfl) (fun _ h=>h) d hi l o (fun _ _ _=>rfl)⟩
  · rw [qu (h.heap.blk n b g).1] at s;rw [qu (h.heap.blk m c j).1] at r;exact h.heap.sep n m b c p q g j k v s r
  · rw [qu (h.heap.blk n b g).1] at k;exact h.heap.out n b p g j k
theorem qq1 {w0 : World} {Z0 : Nat→Prop} {inj0 : Inj} {b : AS} {g : Act} {Ds0 : List Nat} {l : List Oper} {st st' : AS} (h : Zr P base ops l st st') : l = []→∀ a w,Y7 base w0 Z0 inj0 b g Ds0 st a w→Y7 base w0 Z0 inj0 b g Ds0 st' a w:=by
  induction h with
  | nil=>exact fun _ a w hp=>hp
  | cons _ _ _=>intro h;cases h
  | wk hw _ ih=>
    intro j a w hp;refine ih j a w ?_;obtain ⟨Z',inj',f,n,k,m,p,o⟩:=hp;obtain ⟨d,c⟩:=q1h n hw;exact ⟨_,_,f,d,k.trans c (Nat.le_refl _),m,hw.bs,o⟩
theorem qq0 {w0 : World} {Z0 : Nat→Prop} {inj0 : Inj} {k : AS} {p : Act} {Ds0 : List Nat} {ro : Option Nat} {Q : Exit→Act→World→Prop} {K : Act→World→Prop} {l : List Oper} {st st' : AS} (h : Zr P base ops l st st') : ∀ o,l = [o]→J5 p.tmps.size o.dst = true→∀ a w,Y7 base w0 Z0 inj0 k p Ds0 st a w→Yl ro w→
    (∀ a' w',Y7 base w0 Z0 inj0 k p Ds0 st' a' w'→Yl ro w'→K a' w')→Jj P (Fw ro) ops Q o K a w:=by
  induction h with
  | nil=>intro o h;cases h
  | cons hs hl _=>
    intro o h hd a w hp c n;simp only [List.cons.injEq] at h;obtain ⟨rfl,rfl⟩:=h;refine hp.bind fun Z' inj' d b f g _ j=>?_;exact hs ro Q w Z' inj' a d _ b (by rw [f];exact hd) g c fun a' w' hp'=>n a' w' (qq1 hl rfl _ _ (j _ _ _ hp')) (by obtain ⟨_,_,_,_,r,_⟩:=hp';exact c.ext r)
  | wk hw _ ih=>
    intro o h hd a w hp c n;refine ih o h hd a w ?_ c n;obtain ⟨Z',inj',d,s,q,u,v,t⟩:=hp;obtain ⟨b,m⟩:=q1h s hw;exact ⟨_,_,d,b,q.trans m (Nat.le_refl _),u,hw.bs,t⟩
theorem qp1 {o p : Oper} {i j : Nat} (f : Behind ops o i) (hp : ops[i]? = some p) (d : Behind ops p j) : Behind ops o j:=fun S a c=>d S a fun e b hb=>a i p (f S a c) hp e b hb
theorem qqz {F : List Fp} (hD : q7j F ops) {w0 : World} {Z0 : Nat→Prop} {inj0 : Inj} {x : AS} {a0 : Act} {Ds0 : List Nat} {ro : Option Nat} {Q : Exit→Act→World→Prop} (hd : ∀ (i : Nat) (o : Oper),ops[i]? = some o→J5 a0.tmps.size o.dst = true) :
    ∀ (n : Nat) (l : List Oper) (lo : Nat) (st st' : AS),l.length = n→ops.toList.drop lo = l→lo≤ops.size→U3 P base ops F l st st'→(∀ a' w',Y7 base w0 Z0 inj0 x a0 Ds0 st' a' w'→Q .normal a' w')→∀ (fuel : Nat) (listed : Array Bool) (a : Act) (w : World),
      listed.size = ops.size→listed.toList.count false = fuel→Adm ops (fun i=>listed[i]? = some true)→(∀ (i : Nat),listed[i]? = some true↔i < lo)→Y7 base w0 Z0 inj0 x a0 Ds0 st a w→Yl ro w→wpAnyIn (Fw ro) 0 P .any ops Q fuel listed a w:=by
  intro n
  induction n using Nat.strongRecOn with
  | _ n ihn=>
  intro l lo st st' bz ao cb hc hQ fuel listed a w bk bn ay ak hp bp;obtain ⟨k,S,hk,e0,hS,ah⟩:=qic hc;have bs : l.length + lo = ops.size:=by rw [← ao];simp;omega
  have z : ∀ (i : Nat),l[i]? = ops[lo + i]?:=fun i=>by rw [← ao,List.getElem?_drop,Array.getElem?_toList]
  subst e0
  have ad : Steps P F ops (fun i=>S (i - lo)) lo (lo + k):=fun i o u h2 ho=>by
    have:=hS (i - lo) o q8 (by rw [z,show lo + (i - lo) = i by omega];exact ho);rw [show l.length - (i - lo + 1) = ops.size - (i + 1) by omega] at this;show Jp P ops o (fpO F ops i) (S (i - lo)) (S (i + 1 - lo));rw [show i + 1 - lo = i - lo + 1 by omega];exact this
  have am : ∀ (i j : Nat) (oj : Oper),i < lo + k→lo + k≤j→ops[j]? = some oj→Behind ops oj i:=fun i j oj hi hj ag=>by
    rcases ah with ⟨u,_⟩ | ⟨o,st1,u,h2,_,_⟩
    · have:=Ze ag;omega
    · rw [z] at u;rw [show l.length - (k + 1) = ops.size - (lo + k + 1) by omega] at h2;have bj : i < ops.size:=by have:=Ze u;omega
      obtain ⟨oi,af⟩:=Y1 (xs:=ops) (i:=i) bj;have hb:=hD.pivs i (lo + k) oi o hi af u (.inr h2);by_cases bo : j = lo + k
      · subst bo;rw [u] at ag;cases ag;exact hb
      · exact qp1 (hD.pivs (lo + k) j o oj q8 u ag (.inl h2)) u hb
  obtain ⟨Z,inj,Ds,u,h2,h3,h4,h5⟩:=hp
  have hN : (S 0).nx≤(S k).nx:=by
    have:=q30 q8 ad (Nat.le_refl _) (lo + k) q8 (Nat.le_refl _);simpa using this
  have h0 : ∀ q,(S 0).nx≤q→find (S 0).hp q = none:=fun q hq=>by
    cases hf : find (S 0).hp q with
    | none=>rfl
    | some b=>have:=(u.heap.blk q b hf).1;omega
  have bc : Ext w0 Z0 inj0 x.hp w Z (fun m=>if m < (S 0).nx then inj m else none) (S 0).hp base:=by
    refine {h2 with imm:=fun b br=>h2.imm b ?_,pinj:=fun n hn=>(qu (show n < (S 0).nx by omega)).trans (h2.pinj n hn)};obtain ⟨n,c,o,s,g2,g3⟩:=br;refine ⟨n,c,o,s,g2,?_⟩;have:=(u.heap.blk n c s).1;simpa [this] using g3
  have an : ∀ (i : Nat),lo≤i→listed[i]?≠some true:=fun i hi h=>by have:=(ak i).1 h;omega
  refine qr0 (lo:=lo) (hi:=lo + k) (S:=fun i=>S (i - lo)) (hp0:=x.hp) (Ds0:=Ds0) q8 q8 hD ad am (by simpa using h0) (by simpa using h4) hd ?_ fuel listed a w {S 0 with nx:=(S k).nx} bk bn ay (fun i hi=>(ak i).2 hi) (fun i hi=>an i q8) ⟨Z,_,Ds,qz3 u hN,bc,h3,h5,fun i o aa al ho _ m g2 g3=>?_⟩ bp ⟨qd,fun t m aq hm y=>?_,fun q m aq hm y=>?_⟩
  · intro r d a' w' ac ae ab f hp' bb
    have hp' : Y7 base w0 Z0 inj0 x a0 Ds0 (S k) a' w':=by
      obtain ⟨Z',inj',bi,s,g2,g3,g4,g5⟩:=hp';simp only [Nat.add_sub_cancel_left] at s g2 g4;exact ⟨Z',inj',bi,s,g2,g3,g4,g5⟩
    rcases ah with ⟨e1,e2⟩ | ⟨o,st1,e1,e2,e3,e4⟩
    ·
      subst e2
      have hz : r = 0:=by
        rw [← ae,List.count_eq_zero];intro hm;obtain ⟨i,hi⟩:=List.getElem?_of_mem hm;have al : d[i]? = some false:=by simpa using hi
        have:=(f i).2 (by have:=Ze al;omega);rw [al] at this;cases this
      subst hz;refine ⟨?_,hQ _ _ hp'⟩;rw [List.eq_nil_iff_forall_not_mem];intro j hj;obtain ⟨s,o,ho,_⟩:=mem_ready.1 hj;rw [qcg,(f j).2 (by have:=Ze ho;omega)] at s;cases s
    ·
      have p : ops[lo + k]? = some o:=by rw [← z];exact e1
      rw [show l.length - (k + 1) = ops.size - (lo + k + 1) by omega] at e2
      have g : d[lo + k]? = some false:=by
        obtain ⟨b,hb⟩:=Y1 (xs:=d) (i:=lo + k) (by rw [ac];exact Ze p)
        cases b with
        | true=>have:=(f _).1 hb;omega
        | false=>exact hb
      cases r with
      | zero=>
        have:=List.count_eq_zero.1 ae;exact absurd (by simpa using Array.mem_of_getElem? g) this
      | succ r=>
        refine ⟨fun ax=>absurd ax (qmq hD ac _ _ rfl g),fun i hi=>?_⟩;obtain ⟨s,oi,af,aw⟩:=mem_ready.1 hi;rw [qcg] at s;have v : ∀ e∈oi.after,Region.binds .any e = true→d[e.on]? = some true:=fun e he hb=>qf8.1 (aw e he hb)
        have bq : i = lo + k:=by
          rcases Nat.lt_trichotomy i (lo + k) with h | h | h
          · have:=(f i).2 h;rw [s] at this;cases this
          · exact h
          · have:=hD.pivs (lo + k) i o oi h p af (.inl e2) _ ab v;rw [g] at this;cases this
        subst bq;rw [p] at af;cases af;obtain ⟨az,ap⟩:=qhs ab p s v;refine qbg p ?_;refine qq0 e3 o rfl (hd _ _ p) a' w' hp' bb fun a2 w2 hp2 au=>?_;refine ihn (l.drop (k + 1)).length (by have:=Ze p;simp;omega) _ (lo + k + 1) st1 st' rfl (by rw [← ao,List.drop_drop,Nat.add_assoc]) (Ze p) e4 hQ _ _ a2 w2 (by simp [ac]) (qiv s ae) ap (fun j=>?_) hp2 au;rw [az,f];omega
  · have this : (S 0).nx≤(S (i - lo)).nx:=by simpa using q30 q8 ad (Nat.le_refl lo) i aa q8
    have ci : (S (i - lo)).nx≤m:=g2;exact qw q8
  · have:=qe7 q8 ad (t:=t) (Nat.le_refl lo) m aq hm fun i o aa hi ho bm=>an i aa ((y i o ho bm).2 hi);simp at this ⊢;exact this.symm
  · have:=qe6 q8 ad (q:=q) (Nat.le_refl lo) m aq hm fun i o aa hi ho bl=>an i aa ((y i o ho bl).2 hi);simp at this ⊢;exact this.symm
theorem qyy {F : List Fp} {id : Nat} {w : World} {Z : Nat→Prop} {inj : Inj} {st st' : AS} {a : Act} {Ds : List Nat} {ro : Option Nat} {Q : Exit→Act→World→Prop} (s : P.follows .mixedOrders = true) (p : q7j F ops) (u : U3 P base ops F ops.toList st st')
    (h : RelS w Z inj st a Ds) (k : codeOk a.tmps.size (.region id ops true) = true) (hb : base≤st.nx) (m : Yl ro w) (n : ∀ a' w',Y7 base w Z inj st a Ds st' a' w'→Q .normal a' w') : (Code.region id ops true).wpIn (Fw ro) 0 P Q a w:=by
  refine wpIn_region_any s ?_;have hs : RelS {w with drawn:=w.drawn + 1} Z inj st a Ds:=⟨h.slots.mono (fun _ _=>rfl) (fun _ h=>h) (fun b c e f hb=>⟨c,e,f,hb,rfl⟩) (fun _ _=>rfl) (Nat.le_refl _),h.heap.same rfl,h.defs,h.nodup,h.marks⟩
  have g : ∀ (i : Nat) (o : Oper),ops[i]? = some o→J5 a.tmps.size o.dst = true:=by
    intro i o q;simp only [codeOk,List.all_eq_true] at k;exact k o (by simpa using Array.mem_of_getElem? q)
  have d : ∀ (i : Nat),(Array.replicate ops.size false)[i]?≠some true:=by
    intro i hi;rw [Array.getElem?_replicate] at hi;split at hi <;> simp at hi
  exact qqz p g ops.toList.length ops.toList 0 st st' rfl qd (Nat.zero_le _) u n ops.size _ a _ qd qd (fun j o t _=>absurd t (d j)) (fun i=>⟨fun hi=>absurd hi (d i),fun hi=>q8⟩) ⟨Z,inj,Ds,hs,.same rfl rfl rfl rfl,rfl,hb,fun _ h=>.inl h⟩ (fun l r=>m l r)
end
end Go.Am
namespace Go.Am
open Go
variable {P : Program} {T : Tab}
section
variable {w w' : World} {Z Z' : Nat→Prop} {inj inj' : Inj} {hp hp' : List (Nat × Blk)} {nx nx' pin : Nat}
theorem RelH.grow (h : RelH w Z inj hp nx) (hk : ∀ b,b < w.heap.size→w'.heap[b]? = w.heap[b]?) : RelH w' Z inj hp nx:=by
  have hb : J3 w w':=fun b c e f d=>⟨c,e,f,(hk b (J1 d)).trans d,rfl⟩
  refine ⟨fun n b k=>?_,h.sep,h.out,?_,?_⟩
  · obtain ⟨g,m⟩:=h.blk n b k;exact ⟨g,m.mono (fun b a=>hk b (h.zs b a)) (fun _ h=>h) hb (fun _ _=>rfl) (Nat.le_refl _) g fun p hp l=>hk _ (h.im_lt ⟨n,b,p.2,k,l,hp⟩)⟩
  · intro b a;have:=hk b (h.zs b a);rcases h.zc b a with ⟨c,e,f,j⟩ | ⟨c,e,j⟩ <;> exact J1 (this.trans j)
  · intro b a;rw [hk b (h.zs b a)];exact h.zc b a
theorem Ext.alloc (o : Obj) (a : Unfr o:=by first | exact rfl | exact trivial) : Ext w Z inj hp (w.alloc o) Z inj hp pin:=
  ⟨qd,fun b hb _=>Zs w o hb,fun _ h=>.inl h,q3o w o,qkg w o,fun _ h=>h,fun _ h=>.inl h,fun _ _=>rfl,rfl,rfl,rfl,qjy w a⟩
theorem qmt (h : RelH w Z inj hp nx) {n : Nat} {b0 blk : Blk} (t : find hp n = some b0) (z : live b0 = true) {b off : Nat} (hi : inj n = some (b,off)) {r l : Loop} (hb : w.heap[b]? = some (.loop r)) (hd : l.defers = r.defers)
    (ae : RelB (w.putObj b (.loop l)) Z inj nx n blk) (ag : live blk = true→True) : RelH (w.putObj b (.loop l)) Z inj (repl hp n blk) nx∧Ext w Z inj hp (w.putObj b (.loop l)) Z inj (repl hp n blk) pin:=by
  have a : ∀ k,k≠b→(w.putObj b (.loop l)).heap[k]? = w.heap[k]?:=fun k hk=>World.putObj_heap_other hk
  have aj : ¬ Z b:=fun hz=>by
    rcases h.zc b hz with ⟨c,e,f,hc⟩ | ⟨c,e,hc⟩ <;> rw [hb] at hc <;> cases hc
  have g : J3 w (w.putObj b (.loop l)):=fun k c e f hk=>by
    by_cases g : k = b
    · subst g;rw [hb] at hk;cases hk
    · exact ⟨c,e,f,(a k g).trans hk,rfl⟩
  have hz : ∀ k,Z k→(w.putObj b (.loop l)).heap[k]? = w.heap[k]?:=fun k hk=>a k (fun e=>aj (e ▸ hk))
  have d : ∀ m c,find (repl hp n blk) m = some c→(m = n∧c = blk)∨(m≠n∧find hp m = some c):=by
    intro m c u;rw [Kx] at u;split at u
    · rename_i e;subst e;rw [t] at u;simp at u;exact .inl ⟨rfl,u.symm⟩
    · rename_i e;exact .inr ⟨fun h=>e h.symm,u⟩
  have ab : ∀ k,im (repl hp n blk) inj k→im hp inj k:=by
    rintro k ⟨m,c,o,h1,h2,s⟩;rcases d m c h1 with ⟨rfl,rfl⟩ | ⟨_,v⟩
    · exact ⟨m,b0,o,t,z,s⟩
    · exact ⟨m,c,o,v,h2,s⟩
  refine ⟨⟨?_,?_,?_,?_,?_⟩,⟨qd,?_,fun k hk=>.inl (ab k hk),g,?_,fun _ h=>h,fun _ h=>.inl h,fun _ _=>rfl,rfl,rfl,rfl,qf6 (fun _ _ _=>by rw [hb];simp) (fun _ _ _=>qd)⟩⟩
  · intro m c u;rcases d m c u with ⟨rfl,rfl⟩ | ⟨j,v⟩
    · exact ⟨(h.blk _ _ t).1,ae⟩
    · obtain ⟨y,h6⟩:=h.blk m c v;exact ⟨y,h6.mono hz (fun _ h=>h) g (fun _ _=>rfl) (Nat.le_refl _) y fun p hp ag=>a _ fun e=>h.sep m n c b0 p (b,off) v t ag z hp hi j e⟩
  · intro m m' c c' p q h1 h2 s v y h6 j;rcases d m c h1 with ⟨rfl,rfl⟩ | ⟨e1,k1⟩ <;> rcases d m' c' h2 with ⟨rfl,rfl⟩ | ⟨e2,k2⟩
    · exact absurd rfl j
    · exact h.sep _ _ _ _ p q t k2 z v y h6 j
    · exact h.sep _ _ _ _ p q k1 t s z y h6 j
    · exact h.sep _ _ _ _ p q k1 k2 s v y h6 j
  · intro m c p h1 h2 s;rcases d m c h1 with ⟨rfl,rfl⟩ | ⟨e1,k1⟩
    · exact h.out _ _ p t z s
    · exact h.out _ _ p k1 h2 s
  · intro k hk;simpa using h.zs k hk
  · intro k hk;rw [hz k hk];exact h.zc k hk
  · intro k _ hk;exact a k fun e=>hk ⟨n,b0,off,t,z,e ▸ hi⟩
  · intro k x hk;by_cases g : k = b
    · subst g;rw [hb] at hk;cases hk;exact ⟨l,World.putObj_heap_same (J1 hb),hd⟩
    · exact ⟨x,(a k g).trans hk,rfl⟩
theorem qgg (h : RelH w Z inj hp nx) {n : Nat} {s : List (Nat × V)} {j : List Tmp} {as g : Code} {t ls' : LoopState} {pe pe' : Option Code} (u : find hp n = some (.loop s j as g t pe)) : ∃ b r,inj n = some (b,0)∧w.heap[b]? = some (.loop r)∧
    r.state = t∧r.pending = pe∧r.params = j.toArray∧r.assign = as∧r.body = g∧(codeOk r.tmps.size as = true∧codeOk r.tmps.size g = true∧∀ p∈j,p < r.tmps.size)∧Z7 w Z inj nx s r.tmps∧
    RelH (w.putObj b (.loop {r with state:=ls',pending:=pe'})) Z inj (repl hp n (.loop s j as g ls' pe')) nx∧Ext w Z inj hp (w.putObj b (.loop {r with state:=ls',pending:=pe'})) Z inj (repl hp n (.loop s j as g ls' pe')) pin:=by
  obtain ⟨x,b,tmps,D,fn,l,a,q,v⟩:=h.blk n _ u;refine ⟨b,_,l,a,rfl,rfl,rfl,rfl,rfl,q,v,?_⟩;refine qmt h u rfl l a rfl ?_ (fun _=>trivial);refine ⟨b,tmps,D,fn,l,World.putObj_heap_same (J1 a),q,?_⟩
  have m : ¬ Z b:=fun y=>by
    rcases h.zc b y with ⟨c,e,f,o⟩ | ⟨c,e,o⟩ <;> rw [a] at o <;> cases o
  refine v.mono (fun k hk=>World.putObj_heap_other (fun e=>m (e ▸ hk))) (fun _ h=>h) ?_ (fun _ _=>rfl) (Nat.le_refl _);intro k c e f hk;by_cases d : k = b
  · subst d;rw [a] at hk;cases hk
  · exact ⟨c,e,f,(World.putObj_heap_other d).trans hk,rfl⟩
theorem qz1 (h : RelH w Z inj hp nx) {n : Nat} {s : List (Nat × V)} {m : List Tmp} {as l : Code} {d : LoopState} {pe : Option Code} (f : find hp n = some (.loop s m as l d pe)) : ∃ b r,inj n = some (b,0)∧w.heap[b]? = some (.loop r)∧
    r.state = d∧r.pending = pe∧∀ a : Loop,a.defers = r.defers→RelH (w.putObj b (.loop a)) Z inj (repl hp n .dead) nx∧Ext w Z inj hp (w.putObj b (.loop a)) Z inj (repl hp n .dead) pin:=by
  obtain ⟨j,b,tmps,D,fn,g,c,o,p⟩:=h.blk n _ f;exact ⟨b,_,g,c,rfl,rfl,fun a k=>qmt h f rfl g c k trivial (fun _=>trivial)⟩
theorem qjs : ∀ (a : List V) (k t : Nat) (v : V),find (Yb k a) t = some v→k≤t∧a[t - k]? = some v
  | [],k,t,v,h=>by simp [Yb,find] at h
  | x::r,k,t,v,h=>by
    simp only [Yb,Qy] at h
    split at h
    · rename_i e;subst e;cases h;simp
    · rename_i e
      obtain ⟨d,b⟩:=qjs r (k + 1) t v h
      refine ⟨q8,?_⟩
      obtain ⟨m,c⟩ : ∃ m,t - k = m + 1:=⟨t - k - 1,q8⟩
      have : t - (k + 1) = m:=by omega
      rw [this] at b
      rw [c];simpa using b
theorem qz4 {b : List V} {xs : Array Value} (n : Nat) (h : LRel w Z inj nx b xs) : Z7 w Z inj nx (Yb 0 b) (xs ++ Array.replicate (n - xs.size) undef):=by
  intro t v f;obtain ⟨_,c⟩:=qjs b 0 t v f;simp at c;have a : t < xs.size:=by rw [← h.1];exact K7 c
  obtain ⟨x,d⟩:=Y1 a;exact ⟨x,by rw [Array.getElem?_append_left a];exact d,h.2 t v x c d⟩
theorem qmv : ∀ (f : List Tmp) (g : List V) (xs : List Value) (s : List (Nat × V)) (tmps : Array Value),g.length = xs.length→(∀ (i : Nat) (d : V) (c : Value),g[i]? = some d→xs[i]? = some c→RelV w Z inj nx d c)→(∀ p∈f,p < tmps.size)→
    Z7 w Z inj nx s tmps→Z7 w Z inj nx (q32 s f g) ((f.zip xs).foldl (fun tmps (x : Tmp × Value)=>tmps.setIfInBounds x.1 x.2) tmps)∧((f.zip xs).foldl (fun tmps (x : Tmp × Value)=>tmps.setIfInBounds x.1 x.2) tmps).size = tmps.size
  | [],g,xs,s,tmps,hl,hr,hp,h=>by simpa [q32] using h
  | p::f,[],[],s,tmps,hl,hr,hp,h=>by simpa [q32] using h
  | p::f,v::g,x::xs,s,tmps,hl,hr,hp,h=>by
    have k:=hr 0 v x rfl rfl
    have l:=h.put k (hp p qd)
    obtain ⟨a,b⟩:=qmv f g xs _ _ (by simpa using hl) (fun i d c hd m=>hr (i + 1) d c (by simpa using hd) (by simpa using m)) (fun q j=>by simpa using hp q (by simp [j])) l
    refine ⟨by simpa [q32] using a,by simpa using b⟩
  | p::f,[],x::xs,s,tmps,hl,hr,hp,h=>by simp at hl
  | p::f,v::g,[],s,tmps,hl,hr,hp,h=>by simp at hl
theorem qkm {fn : Func} {st : AS} {v : V} (hT : Z8 P T) {w0 : World} {Z0 : Nat→Prop} {inj0 : Inj} {hp0 : List (Nat × Blk)} {R : Ending→World→Prop} (l : resV T st fn.results.toList = some v)
    (hR : ∀ x w' Z' inj',RelH w' Z' inj' st.hp st.nx→Ext w0 Z0 inj0 hp0 w' Z' inj' st.hp pin→RelV w' Z' inj' st.nx v x→R (.returned x) w') : ∀ (Ds : List Nat) (w : World) (Z : Nat→Prop) (inj : Inj) (a : Act),
      Z7 w Z inj st.nx st.sl a.tmps→RelH w Z inj st.hp st.nx→Ext w0 Z0 inj0 hp0 w Z inj st.hp pin→Ds.Nodup→(∀ D∈Ds,w.heap[D]? = some (.deferred (some []))∧w0.heap.size≤D)→
      LeavesInM (Fw none) 0 P fn a.tmps R (Ds.map fun D=>{target:=.collected D,args:=#[]}) .returning w
  | [],w,Z,inj,a,hs,hh,he,_,_=>by
    obtain ⟨x,hx,hv⟩:=qz8 (a:=a) hT hh hs l
    exact ⟨x,hx,hR x w Z inj hh he hv⟩
  | D::Ds,w,Z,inj,a,hs,hh,he,hnd,hm=>by
    obtain ⟨q,af⟩:=hm D qd
    have g:=List.nodup_cons.1 hnd
    refine ⟨qd,.inl ⟨D,_,rfl,run_takeDeferred q,?_⟩⟩
    have d : ∀ k,k≠D→(w.putObj D (.deferred none)).heap[k]? = w.heap[k]?:=fun k hk=>World.putObj_heap_other hk
    have z : ¬ Z D:=fun t=>by rcases hh.zc D t with ⟨c,e,f,hc⟩ | ⟨c,e,hc⟩ <;> rw [q] at hc <;> cases hc
    have s : ¬ im st.hp inj D:=fun hi=>by rcases hh.im_obj hi with ⟨_,_,e⟩ | ⟨_,e⟩ | ⟨ob,ho,e⟩ <;> rw [q] at e <;> cases e <;> cases ho
    have t : ∀ k,Z k→(w.putObj D (.deferred none)).heap[k]? = w.heap[k]?:=fun k hk=>d k fun e=>z (e ▸ hk)
    have m : J3 w (w.putObj D (.deferred none)):=fun k c e f hk=>by
      by_cases u : k = D
      · subst u;rw [q] at hk;cases hk
      · exact ⟨c,e,f,(d k u).trans hk,rfl⟩
    refine qkm hT l hR Ds _ Z inj a (hs.mono t (fun _ h=>h) m (fun _ _=>rfl) (Nat.le_refl _)) ⟨?_,hh.sep,hh.out,fun k hk=>by simpa using hh.zs k hk,?_⟩ ?_ g.2 ?_
    · intro n b hn
      obtain ⟨j,o⟩:=hh.blk n b hn
      exact ⟨j,o.mono t (fun _ h=>h) m (fun _ _=>rfl) (Nat.le_refl _) j fun p hp hl=>d _ fun e=>s ⟨n,b,p.2,hn,hl,by rw [← e];exact hp⟩⟩
    · intro k hk
      rw [t k hk];exact hh.zc k hk
    · refine ⟨by simpa using he.size,fun b hb hi=>(d b q8).trans (he.keep b hb hi),he.imm,?_,?_,he.zin,he.zout,he.pinj,he.tape,he.os,he.output,fun x=>(qf6 (fun _ _ _=>by rw [q];simp) (fun _ _ _=>qd) x).trans (he.frz x)⟩
      · intro b c e f hb
        obtain ⟨c1,e1,f1,j,s1⟩:=he.big b c e f hb
        obtain ⟨c2,e2,f2,o,s2⟩:=m b c1 e1 f1 j
        exact ⟨c2,e2,f2,o,s2.trans s1⟩
      · intro b r hb
        obtain ⟨r1,j,s1⟩:=he.loops b r hb
        exact ⟨r1,(d b (by have:=J1 hb;omega)).trans j,s1⟩
    · intro D' y
      obtain ⟨j,o⟩:=hm D' (by simp [y])
      exact ⟨(d D' (fun e=>g.1 (e ▸ y))).trans j,o⟩
end
end Go.Am
