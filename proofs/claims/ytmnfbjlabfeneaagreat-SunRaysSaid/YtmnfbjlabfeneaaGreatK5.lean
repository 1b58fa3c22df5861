/- Am23 Am24 Am25 -/
import Derived.Test.YtmnfbjlabfeneaaGreatK4
namespace Go.Am
open Go
variable {P : Program} {T : Tab}
section
variable {base : Nat} {w : World} {Z : Nat→Prop} {inj : Inj} {st st1 st2 : AS} {a : Act} {Ds : List Nat} {ops : Array Oper} {o : Oper}
structure Jv (ops : Array Oper) (o : Oper) (x : Fp) (st st2 : AS) : Prop where
  blk : qbu x st st2
  sl : ∀ t∈reads ops o,st2.get t = st.get t
theorem Jv.ev {x : Fp} (h : Jv ops o x st st2) {y : Operand} (a : y∈o.op.operands) : st2.ev y = st.ev y:=by
  cases y with
  | tmp t=>exact h.sl t (List.mem_append_left _ (by unfold slotsOf;rw [List.mem_filterMap];exact ⟨.tmp t,by simpa using a,rfl⟩))
  | const v=>rfl
  | func f=>rfl
  | global g=>rfl
theorem Jv.guard {x : Fp} (h : Jv ops o x st st2) : Qr ops st2 o = Qr ops st o:=by
  have hs:=h.sl;unfold reads at hs;unfold Qr;grind
theorem Jv.callee {x : Fp} (h : Jv ops o x st st2) {c : Call} (d : o.op = .call c) : callee st2 c = callee st c:=by
  obtain ⟨a,args,argTypes⟩:=c;unfold Am.callee
  cases a with
  | builtin b=>rfl
  | invoke r n=>rfl
  | value f=>
    simp only;rw [h.ev (y:=f) (by rw [d];simp [Op.operands,Call.operands]),q4e (fun x g=>h.ev (y:=x) (by rw [d];simp [Op.operands,Call.operands];exact .inr (by simpa using g)))]
theorem Yr {st : AS} {d : Option Tmp} {v : V} {t : Tmp} : (st.putD d v).get t = if d = some t then some v else st.get t:=by
  cases d with
  | none=>simp [AS.putD]
  | some d=>simp only [AS.putD,AS.put,AS.get,Km,Option.some.injEq]
theorem qeq {w : World} {Z : Nat→Prop} {inj : Inj} {nx : Nat} {fz : List Nat} {g : AS} {v : V} {x : Value} (h : RelV w Z inj nx v x) : Wv g (fun n=>n) fz [] nx v v:=by
  induction h with
  | d h=>exact .d (.refl _)
  | @agg ds cs hl _ ih=>
    exact .agg rfl fun i c d a hd=>by
      rw [a] at hd;cases hd;obtain ⟨y,b⟩:=Kv (xs:=cs) (i:=i) (by rw [← hl];exact Kb a);exact ih i c y a b
  | @tup ds cs hl _ ih=>
    exact .tup rfl fun i c d a hd=>by
      rw [a] at hd;cases hd;obtain ⟨y,b⟩:=Kv (xs:=cs) (i:=i) (by rw [← hl];exact Kb a);exact ih i c y a b
  | @fn f ds cs hl _ ih=>
    exact .fn rfl fun i c d a hd=>by
      rw [a] at hd;cases hd;obtain ⟨y,b⟩:=Kv (xs:=cs) (i:=i) (by rw [← hl];exact Kb a);exact ih i c y a b
  | ref h1 h2=>exact .ref rfl qd h1
  | @dref cs j _ _ _ _ _=>exact .dref cs j
  | hsnil h1=>exact .hs rfl qd h1
  | hs h1 _ _ _=>exact .hs rfl qd h1
  | yld h1 _=>exact .yld rfl qd h1
  | dead v=>exact .dead _
theorem qz9 {w : World} {Z : Nat→Prop} {inj : Inj} {nx n : Nat} {fz : List Nat} {f : AS} {b : Blk} (h : RelB w Z inj nx n b) : Wb f (fun n=>n) fz [] nx b b:=by
  cases b with
  | dead=>exact .dead _
  | dat es xs=>exact .dat _ _
  | cel es xs=>
    obtain ⟨_,_,p⟩:=h;refine .cel rfl fun i x y a g=>?_;rw [a] at g;cases g;refine ⟨rfl,fun j c d l hd=>?_⟩;rw [l] at hd;cases hd;rcases p with ⟨rfl,_⟩ | ⟨b,o,arr,ty,_,_,z⟩
    · simp at a
    · obtain ⟨q,c',_,r⟩:=z i x j c a l;exact ⟨qeq r,q⟩
  | loop s ps assign body dn pe=>
    obtain ⟨b,tmps,D,fn,_,_,_,v⟩:=h;refine .loop fun t m k=>?_;obtain ⟨x,_,u⟩:=v t m k;exact ⟨m,k,qeq u⟩
theorem qgy {w' : World} {Z' : Nat→Prop} {inj' : Inj} {a' : Act} {r : List Nat} {dst : Option Tmp} {n es : Nat} {xs : List (List DV)} {hp2 : List (Nat × Blk)} (y : RelS w' Z' inj' (st1.putD dst (.hs n es 0 xs.length)) a' r) (hh : st1.hp = (n,.dat es xs)::hp2) (hf : find hp2 n = none) (hn : base≤n) (h4 : base≤st1.nx) :
    Wk base (fun n=>n) [n] [] (st1.putD dst (.hs n es 0 xs.length)) (({sl:=st1.sl,hp:=hp2,nx:=st1.nx} : AS).putD dst (.d (.sl es xs))):=by
  have c : (({sl:=st1.sl,hp:=hp2,nx:=st1.nx} : AS).putD dst (.d (.sl es xs))).nx = st1.nx:=Yb _ _ _;have p : (({sl:=st1.sl,hp:=hp2,nx:=st1.nx} : AS).putD dst (.d (.sl es xs))).hp = hp2:=Ya _ _ _
  have j : ∀ m b,find hp2 m = some b→m≠n∧find (st1.putD dst (.hs n es 0 xs.length)).hp m = some b:=by
    intro m b a;have f : m≠n:=by rintro rfl;rw [hf] at a;cases a
    refine ⟨f,?_⟩;rw [Ya,hh,Km,qr (by intro e;exact f e.symm)];exact a
  refine ⟨?_,?_,?_,?_,fun _ _=>rfl,by rw [c];exact h4,fun m a=>by simp at a;omega,fun m a=>by cases a⟩
  · intro t q h;rw [c];rw [Yr] at h;by_cases l : dst = some t
    · rw [qp l] at h;cases h;refine ⟨_,by rw [Yr,qp l],.frz (k:=es) (xs:=xs) ?_ qd q6 qd rfl⟩;show find (st1.putD dst _).hp n = _;rw [Ya,hh,Km,qp rfl]
    · rw [qr l] at h;have v : (st1.putD dst (.hs n es 0 xs.length)).get t = some q:=by rw [Yr,qr l];exact h
      obtain ⟨x,_,u⟩:=y.slots t q v;rw [Yb] at u;exact ⟨q,v,qeq u⟩
  · intro m o a;rw [c];unfold AS.blk at a;rw [p] at a;obtain ⟨f,g⟩:=j m o a;obtain ⟨z,s⟩:=y.heap.blk m o g;rw [Yb] at z s;exact ⟨z,.inr ⟨qd,o,g,qz9 s⟩⟩
  · omega
  · intro m b a _ hc;unfold AS.blk at a;grind
theorem qrn {w : World} {Z : Nat→Prop} {inj : Inj} {a a' : Act} {Ds : List Nat} {w' : World} {dst : Option Tmp} {n es : Nat} {xs : List (List DV)} {hp2 : List (Nat × Blk)}
    (h : Kk base w Z inj st a Ds (st1.putD dst (.hs n es 0 xs.length)) a' w') (o : st1.hp = (n,.dat es xs)::hp2) (l : find hp2 n = none) (q : base≤n) :
    Kk base w Z inj st a Ds (({sl:=st1.sl,hp:=hp2,nx:=st1.nx} : AS).putD dst (.d (.sl es xs))) a' w':=by
  obtain ⟨Z',inj',g,j,m,k,f,p⟩:=h;obtain ⟨b,c⟩:=q1o j (qgy j o l q (by rw [Yb] at f;exact f));exact ⟨_,_,g,b,m.trans c (Nat.le_refl _),k,by rw [Yb];rw [Yb] at f;exact f,p⟩
theorem qon {n es : Nat} {xs : List (List DV)} {hp2 : List (Nat × Blk)} (g : Yp P T) (k : Qr ops st o = some true) (f : opFn T st o.op = some (.hs n es 0 xs.length,st1)) (m : st.nx≤n) (l : st1.hp = (n,.dat es xs)::hp2) (j : find hp2 n = none) :
    J8 P base ops o st (({sl:=st1.sl,hp:=hp2,nx:=st1.nx} : AS).putD o.dst (.d (.sl es xs))):=by
  intro ro Q w Z inj a Ds K h hd hb b c;exact qct g k f ro Q w Z inj a Ds K h hd hb b fun a' w' hp=>c a' w' (qrn hp l j (Nat.le_trans hb m))
theorem q84 {w : World} {Z : Nat→Prop} {inj inj' : Inj} {nx : Nat} {v : V} {x : Value} (h : RelV w Z inj nx v x) (hi : ∀ n p,n < nx→inj n = some p→inj' n = some p) : RelV w Z inj' nx v x:=by
  induction h with
  | d h=>exact .d h
  | agg hl _ ih=>exact .agg hl ih
  | tup hl _ ih=>exact .tup hl ih
  | fn hl _ ih=>exact .fn hl ih
  | ref h1 h2=>exact .ref h1 (hi _ _ h1 h2)
  | dref h1 h2 h3=>exact .dref h1 h2 h3
  | hsnil h1=>exact .hsnil h1
  | hs h1 h2 hsp h3=>
    refine .hs h1 h2 hsp fun c=>?_;obtain ⟨b,o,a,f,g⟩:=h3 c;exact ⟨b,o,hi _ _ h1 a,f,g⟩
  | yld h1 h2=>exact .yld h1 (hi _ _ h1 h2)
  | dead v=>exact .dead v
theorem qjw {w : World} {Z : Nat→Prop} {inj inj' : Inj} {nx n : Nat} {b : Blk} (h : RelB w Z inj nx n b) (hi : ∀ n p,n < nx→inj n = some p→inj' n = some p) (r : n < nx) (f : inj n = none→inj' n = none) : RelB w Z inj' nx n b:=by
  cases b with
  | dead=>trivial
  | dat es xs=>
    obtain ⟨l,k,a⟩:=h;refine ⟨l,k,?_⟩;rcases a with ⟨a,g⟩ | ⟨b,o,arr,ty,a,g,q⟩
    · exact .inl ⟨a,f g⟩
    · exact .inr ⟨b,o,arr,ty,hi _ _ r a,g,q⟩
  | cel es xs=>
    obtain ⟨l,k,a⟩:=h;refine ⟨l,k,?_⟩;rcases a with ⟨a,g⟩ | ⟨b,o,arr,ty,a,g,q⟩
    · exact .inl ⟨a,f g⟩
    · refine .inr ⟨b,o,arr,ty,hi _ _ r a,g,fun i x j d m hd=>?_⟩;obtain ⟨u,c,h7,y⟩:=q i x j d m hd;exact ⟨u,c,h7,q84 y hi⟩
  | loop s ps assign body dn pe=>
    obtain ⟨b,tmps,D,fn,l,k,a,g⟩:=h;refine ⟨b,tmps,D,fn,hi _ _ r l,k,a,fun t v ht=>?_⟩;obtain ⟨x,m,z⟩:=g t v ht;exact ⟨x,m,q84 z hi⟩
def q9q (base lo hi : Nat) (w : World) (Z : Nat→Prop) (inj : Inj) (st : AS) (a : Act) (Ds : List Nat) (st' : AS) (a' : Act) (w' : World) : Prop:=
  ∃ Z' inj' Ds',RelS w' Z' inj' st' a' Ds'∧Ext w Z inj st.hp w' Z' inj' st'.hp base∧a'.tmps.size = a.tmps.size∧(∀ D∈Ds',D∈Ds∨w.heap.size≤D)∧∀ m,m < st.nx→(m < lo∨hi≤m)→inj' m = inj m
def qbw (P : Program) (base : Nat) (ops : Array Oper) (o : Oper) (st st' : AS) (lo hi : Nat) : Prop:=
  ∀ (ro : Option Nat) (Q : Exit→Act→World→Prop) (w : World) (Z : Nat→Prop) (inj : Inj) (a : Act) (Ds : List Nat) (K : Act→World→Prop),RelS w Z inj st a Ds→Zq a.tmps.size o.dst = true→base≤lo→base≤st.nx→Y5 ro w→(∀ m,lo≤m→m < hi→inj m = none)→
    (∀ a' w',q9q base lo hi w Z inj st a Ds st' a' w'→K a' w')→Jt P (Fw ro) ops Q o K a w
theorem qh5 {st' : AS} {lo hi : Nat} (h : J8 P st.nx ops o st st') : qbw P base ops o st st' lo hi:=by
  intro ro Q w Z inj a Ds K j hd _ hb b _ g;refine h ro Q w Z inj a Ds K j hd (Nat.le_refl _) b fun a' w' hp=>g a' w' ?_;obtain ⟨Z',inj',c,l,d,f,p,n⟩:=hp;exact ⟨Z',inj',c,l,d.pin_le hb,f,n,fun m k _=>d.pinj m k⟩
theorem qk1 {w : World} {Z : Nat→Prop} {inj : Inj} {w' : World} {Z' : Nat→Prop} {inj' g : Inj} {N t : Nat} {v : V} {x n : Value} (h : RelV w Z inj N v x) (l : RelV w' Z' inj' t v n) (hi : ∀ m p,m < N→inj' m = some p→g m = some p) : RelV w' Z' g N v n:=by
  induction l generalizing x with
  | d l=>exact .d l
  | @agg ds cs hl _ ih=>
    cases h with | @agg _ cs0 hl0 h0=>
    refine .agg hl fun i d c hd j=>?_;obtain ⟨y,k⟩:=Kv (xs:=cs0) (i:=i) (by rw [← hl0];exact Kb hd);exact ih i d c hd j (h0 i d y hd k)
  | @tup ds cs hl _ ih=>
    cases h with | @tup _ cs0 hl0 h0=>
    refine .tup hl fun i d c hd j=>?_;obtain ⟨y,k⟩:=Kv (xs:=cs0) (i:=i) (by rw [← hl0];exact Kb hd);exact ih i d c hd j (h0 i d y hd k)
  | @fn f ds cs hl _ ih=>
    cases h with | @fn _ _ cs0 hl0 h0=>
    refine .fn hl fun i d c hd j=>?_;obtain ⟨y,k⟩:=Kv (xs:=cs0) (i:=i) (by rw [← hl0];exact Kb hd);exact ih i d c hd j (h0 i d y hd k)
  | ref h1 h2=>
    have a:=by cases h with | ref h1 _=>exact h1
    exact .ref a (hi _ _ a h2)
  | dref h1 h2 h3=>exact .dref h1 h2 h3
  | hsnil h1=>
    have a:=by cases h with
      | hsnil h1=>exact h1
      | hs h1 _ _ _=>exact h1
    exact .hsnil a
  | hs h1 h2 hsp h3=>
    have a:=by cases h with
      | hsnil h1=>exact h1
      | hs h1 _ _ _=>exact h1
    refine .hs a h2 hsp fun j=>?_;obtain ⟨b,o,q,r,s⟩:=h3 j;exact ⟨b,o,hi _ _ a q,r,s⟩
  | yld h1 h2=>
    have a:=by cases h with | yld h1 _=>exact h1
    exact .yld a (hi _ _ a h2)
  | dead v=>exact .dead v
theorem qt0 {w : World} {Z : Nat→Prop} {inj : Inj} {w' : World} {Z' : Nat→Prop} {inj' a : Inj} {N N' n : Nat} {b : Blk} (h : RelB w Z inj N n b) (r : RelB w' Z' inj' N' n b) (hi : ∀ m p,m < N→inj' m = some p→a m = some p) (q : a n = inj' n) : RelB w' Z' a N n b:=by
  cases b with
  | dead=>trivial
  | dat es xs=>
    obtain ⟨g,l,f⟩:=r;refine ⟨g,l,?_⟩;rw [q];exact f
  | cel es xs=>
    obtain ⟨g,l,f⟩:=r;refine ⟨g,l,?_⟩;rw [q];rcases f with f | ⟨b,o,arr,ty,f,u,h5⟩
    · exact .inl f
    · refine .inr ⟨b,o,arr,ty,f,u,fun i x j d k hd=>?_⟩;obtain ⟨h6,c,h7,h8⟩:=h5 i x j d k hd;obtain ⟨_,_,k3⟩:=h;rcases k3 with ⟨rfl,_⟩ | ⟨_,_,_,_,_,_,k5⟩
      · simp at k
      · obtain ⟨_,c0,_,k8⟩:=k5 i x j d k hd;exact ⟨h6,c,h7,qk1 k8 h8 hi⟩
  | loop s ps assign body dn pe=>
    obtain ⟨b,tmps,D,fn,g,l,f,u⟩:=r;obtain ⟨_,_,_,_,_,_,_,k4⟩:=h;refine ⟨b,tmps,D,fn,q.trans g,l,f,fun t v z=>?_⟩;obtain ⟨x,k,hr⟩:=u t v z;obtain ⟨x0,_,y⟩:=k4 t v z;exact ⟨x,k,qk1 y hr hi⟩
theorem qh4 {mk : Nat→V} {es q : Nat} {xs : List (List DV)} {f : List (Nat × Blk)} (hT : Yp P T) (hg : Qr ops st o = some true) (hk : (∃ es,mk = fun n=>.ref n es 0 0)∨(∃ es l,mk = fun n=>.hs n es 0 l))
    (ho : opFn T st o.op = some (mk st.nx,⟨st.sl,(st.nx,.dat es xs)::f,st.nx + 1⟩)) (hq : q < st.nx) (ai : find st.hp q = none) (hold : ∀ m c,find f m = some c→c = .dead∨find st.hp m = some c) (s : ∀ m,find st.hp m = none→find f m = none) :
    qbw P base ops o st (({sl:=st.sl,hp:=(q,.dat es xs)::f,nx:=st.nx} : AS).putD o.dst (mk q)) q (q + 1):=by
  intro ro Q w Z inj a Ds K h hd bu hb _ am hK;have ar : inj q = none:=am q (Nat.le_refl _) q6;unfold Jt;rw [q34 h hg];simp only [if_true];refine ⟨fun _ _=>trivial,?_⟩;rw [show (Fw ro).round = ro from rfl,Oper.semAt_eq ro _ o (qj0 ho)];obtain ⟨x,w',inj',hr,hv,hh,k,-,-⟩:=qj1 hT h ho;simp only at hv hh k;obtain ⟨d,an⟩ : ∃ d : Inj,d = fun m=>if m = q then inj' st.nx else inj' m:=⟨_,rfl⟩
  have ad : d q = inj' st.nx:=by rw [an];simp
  have u : ∀ m,m≠q→d m = inj' m:=fun m g=>by rw [an];simp [g]
  have hi : ∀ m p,m < st.nx→inj' m = some p→d m = some p:=fun m p g hp=>by
    by_cases j : m = q
    · subst j;rw [k.pinj m g,ar] at hp;cases hp
    · rw [u m j];exact hp
  have ab : ∀ m c,find f m = some c→m < st.nx:=fun m c g=>by
    cases hf : find st.hp m with
    | none=>rw [s m hf] at g;cases g
    | some b=>exact (h.heap.blk m b hf).1
  have bk : ∀ m c,find f m = some c→m≠q:=fun m c g e=>by
    subst e;rw [s m ai] at g;cases g
  have up : ∀ m c,find f m = some c→find ((st.nx,Blk.dat es xs)::f) m = some c:=fun m c g=>by
    rw [Km,qr (by have:=ab m c g;omega)];exact g
  have af : find ((st.nx,Blk.dat es xs)::f) st.nx = some (.dat es xs):=by rw [Km,qp rfl]
  have back : ∀ m c,find ((q,Blk.dat es xs)::f) m = some c→∃ m',find ((st.nx,Blk.dat es xs)::f) m' = some c∧d m = inj' m'∧((m = q∧m' = st.nx)∨(m≠q∧m' = m)):=by
    intro m c g;rw [Km] at g;by_cases j : q = m
    · subst j;rw [qp rfl] at g;cases g;exact ⟨_,af,ad,.inl ⟨rfl,rfl⟩⟩
    · rw [qr j] at g;exact ⟨m,up m c g,u m (Ne.symm j),.inr ⟨Ne.symm j,rfl⟩⟩
  have hH : RelH w' Z d ((q,Blk.dat es xs)::f) st.nx:=by
    refine ⟨fun m c g=>?_,fun m n b c p r h1 h2 h3 h4 h5 h6 aj=>?_,fun m b p h1 h2 h3=>?_,hh.zs,hh.zc⟩
    · rw [Km] at g;by_cases j : q = m
      · subst j;rw [qp rfl] at g;cases g;refine ⟨hq,?_⟩;obtain ⟨_,k1,k2,k3⟩:=hh.blk st.nx _ af;exact ⟨k1,k2,by rw [ad];exact k3⟩
      · rw [qr j] at g;refine ⟨ab m c g,?_⟩;rcases hold m c g with rfl | aq
        · trivial
        · exact qt0 (h.heap.blk m c aq).2 (hh.blk m c (up m c g)).2 hi (u m (Ne.symm j))
    · obtain ⟨m',a1,a2,a3⟩:=back m b h1;obtain ⟨n',b1,b2,b3⟩:=back n c h2;refine hh.sep m' n' b c p r a1 b1 h3 h4 (a2 ▸ h5) (b2 ▸ h6) ?_;rcases a3 with ⟨rfl,rfl⟩ | ⟨a3,rfl⟩ <;> rcases b3 with ⟨rfl,rfl⟩ | ⟨b3,rfl⟩
      · exact absurd rfl aj
      · intro e;have : find f n' = some c:=by rw [Km,qr (Ne.symm b3)] at h2;exact h2
        have:=ab _ _ this;omega
      · intro e;have : find f m' = some b:=by rw [Km,qr (Ne.symm a3)] at h1;exact h1
        have:=ab _ _ this;omega
      · exact aj
    · obtain ⟨m',a1,a2,_⟩:=back m b h1;exact hh.out m' b p a1 h2 (a2 ▸ h3)
  have hE : Ext w Z inj st.hp w' Z d ((q,Blk.dat es xs)::f) base:=by
    refine ⟨k.size,k.keep,?_,k.big,k.loops,k.zin,k.zout,fun n hn=>?_,k.tape,k.os,k.output,k.frz⟩
    · rintro b ⟨m,c,off,g1,g2,g3⟩;obtain ⟨m',a1,a2,_⟩:=back m c g1;exact k.imm b ⟨m',c,off,a1,g2,a2 ▸ g3⟩
    · rw [u n q6];exact k.pinj n q6
  have hV : RelV w' Z d st.nx (mk q) x:=by
    rcases hk with ⟨es,rfl⟩ | ⟨es,l,rfl⟩
    · cases hv with | ref h1 h2=>exact .ref hq (ad.trans h2)
    · cases hv with
      | hsnil h1=>exact .hsnil hq
      | hs h1 h2 hsp h3=>
        refine .hs hq h2 hsp fun hc=>?_;obtain ⟨b,o,e1,e2,e3⟩:=h3 hc;exact ⟨b,o,ad.trans e1,e2,e3⟩
  have hS : Yg w' Z d st.nx st.sl a.tmps:=fun t v ht=>by
    obtain ⟨y,hy,hr⟩:=h.slots t v ht;exact ⟨y,hy,q84 (hr.mono (k.zkeep h.heap) k.zin k.big k.pinj (Nat.le_refl _)) hi⟩
  have z : q9q base q (q + 1) w Z inj st a Ds (({sl:=st.sl,hp:=(q,.dat es xs)::f,nx:=st.nx} : AS).putD o.dst (mk q)) (a.put o.dst x) w':=by
    refine ⟨Z,d,Ds,?_,by rw [Ya];exact hE,qj9 _ _ _,fun _ h=>.inl h,fun m g j=>?_⟩
    · generalize bc : o.dst = dst at hd
      cases dst with
      | none=>exact ⟨hS,hH,h.defs,h.nodup,fun D hD=>k.marks h.heap (h.marks D hD)⟩
      | some t=>exact ⟨hS.put hV (qg0 hd),hH,h.defs,h.nodup,fun D hD=>k.marks h.heap (h.marks D hD)⟩
    · rw [u m q6];exact k.pinj m g
  rcases hr with hr | ⟨hr,rfl⟩
  · rw [hr];exact hK _ _ z
  · rw [hr];exact hK _ _ z
theorem qrm {w : World} {Z : Nat→Prop} {inj : Inj} {a a' : Act} {Ds : List Nat} {w' : World} {dst : Option Tmp} {n es lo hi : Nat} {xs : List (List DV)} {hp2 : List (Nat × Blk)} (b : base≤st1.nx)
    (h : q9q base lo hi w Z inj st a Ds (st1.putD dst (.hs n es 0 xs.length)) a' w') (s : st1.hp = (n,.dat es xs)::hp2) (q : find hp2 n = none) (u : base≤n) :
    q9q base lo hi w Z inj st a Ds (({sl:=st1.sl,hp:=hp2,nx:=st1.nx} : AS).putD dst (.d (.sl es xs))) a' w':=by
  obtain ⟨Z',inj',f,k,o,l,p,t⟩:=h;have hp : Kk base w Z inj st a Ds (st1.putD dst (.hs n es 0 xs.length)) a' w':=⟨Z',inj',f,k,o,l,by rw [Yb];exact b,p⟩
  obtain ⟨c,g⟩:=q1o k (qgy k s q u b);refine ⟨_,_,f,c,o.trans g (Nat.le_refl _),l,p,fun m r j=>?_⟩;rw [← t m r j];simp [wkI]
structure Ja (P : Program) (ops : Array Oper) (o : Oper) (x : Fp) (st st1 : AS) : Prop where
  nx : st.nx≤st1.nx
  sl : ∀ t,o.dst≠some t→st1.get t = st.get t
  hp : ∀ m,m ∉ x.2→find st1.hp m = find st.hp m
  keys : ∀ m,st1.nx≤m→find st.hp m = none→find st1.hp m = none
  fresh : ∀ m,st.nx≤m→m < st1.nx→m∈x.2
  other : ∀ st2,st1.nx≤st2.nx→Jv ops o x st st2→(∀ m,st.nx≤m→m < st1.nx→find st2.hp m = none)→∃ st3,st3.nx = st2.nx∧(∀ base,qbw P base ops o st2 st3 st.nx st1.nx)∧
    (∀ t,o.dst≠some t→st3.get t = st2.get t)∧(∀ t,o.dst = some t→st3.get t = st1.get t)∧(∀ m∈x.2,find st3.hp m = find st1.hp m)∧(∀ m,m ∉ x.2→find st3.hp m = find st2.hp m)
theorem qel : ∀ {b : List Nat} {n : Nat},hasN b n = true→n∈b
  | a::r,n,h=>by
    simp only [hasN,Bool.or_eq_true] at h
    rcases h with h | h
    · rw [Nat.eq_of_beq_eq_true h];simp
    · exact List.mem_cons_of_mem _ (qel h)
theorem qi7 : ∀ {b : List Nat} {n : Nat},n∈b→hasN b n = true
  | a::r,n,h=>by
    simp only [hasN,Bool.or_eq_true]
    rcases List.mem_cons.1 h with rfl | h
    · left;exact Nat.beq_refl _
    · exact .inr (qi7 h)
theorem qgt (y : Fp) : fpLe (some [],[]) y = true:=by
  unfold fpLe;cases y.1 <;> rfl
theorem Ja.mono {x y : Fp} (h : Ja P ops o x st st1) (k : fpLe x y = true) : Ja P ops o y st st1:=by
  simp only [fpLe,Bool.and_eq_true,subN,List.all_eq_true] at k;obtain ⟨u,g⟩:=k;have c : ∀ m∈x.2,m∈y.2:=fun m a=>qel (u m a);refine ⟨h.nx,h.sl,fun m a=>h.hp m fun e=>a (c m e),h.keys,fun m b hb=>c m (h.fresh m b hb),fun st2 v b t=>?_⟩
  have f : Jv ops o x st st2:=by
    refine ⟨⟨fun m a=>b.blk.1 m (c m a),?_⟩,b.sl⟩;have hb:=b.blk.2;revert g hb
    cases y.1 with
    | none=>grind
    | some r=>
      cases x.1 with
      | none=>simp
      | some r'=>
        intro g hb m a;exact hb m (qel (by simpa using List.all_eq_true.1 g m a))
  obtain ⟨d,n,q,s,p,z,l⟩:=h.other st2 v f t;refine ⟨d,n,q,s,p,fun m a=>?_,fun m a=>l m fun e=>a (c m e)⟩;by_cases j : m∈x.2
  · grind
  · rw [l m j,h.hp m j];exact b.blk.1 m a
theorem qky {v : V} {x : Fp} (d : x.2 = []) (a : ∀ st2,Jv ops o x st st2→J8 P st2.nx ops o st2 (st2.putD o.dst v)) : Ja P ops o x st (st.putD o.dst v):=by
  refine ⟨by rw [Yb];exact Nat.le_refl _,fun t h=>by rw [Yr,qr h],fun m _=>by rw [Ya],fun m _ h=>by rw [Ya];exact h,fun m g a=>by rw [Yb] at a;omega,fun st2 f c _=>?_⟩;refine ⟨st2.putD o.dst v,Yb _ _ _,fun base=>qh5 (a st2 c),fun t h=>by rw [Yr,qr h],fun t h=>by rw [Yr,Yr,qp h,qp h],fun m b=>(by rw [d] at b;cases b),fun m _=>by rw [Ya]⟩
theorem qyd (b : Qr ops st o = some false) : Ja P ops o (some [],[]) st (st.putD o.dst (.d (.tup []))):=
  qky rfl fun _ a=>qh7 (a.guard.trans b)
theorem qnn {b : Blk} {n : Nat} {sl : List (Nat × V)} {hp1 : List (Nat × Blk)} {v : V} {op : Op} (c : opFn T st op = some (v,⟨sl,(st.nx,b)::hp1,n + 1⟩)) (g : st.nx = n) (h : q2z st op ⟨sl,(st.nx,b)::hp1,n + 1⟩ = true) : ∃ es xs,b = .dat es xs:=by
  by_cases d : touch op = 2
  · simp only [q2z,d] at h
    cases b with
    | dat es xs=>exact ⟨es,xs,rfl⟩
    | _=>simp at h
  · have a : touch op≤1:=by
      have : touch op≤2:=by unfold touch;split <;> omega
      omega
    have f:=(qds (st2:=st) c a (fun _=>rfl) (fun _ _=>rfl)).1;grind
theorem qyb {v : V} (z : Yp P T) (hg : Qr ops st o = some true) (y : opFn T st o.op = some (v,st1)) (hd : q2z st o.op st1 = true) : Ja P ops o (fp st o.op) st (st1.putD o.dst v):=by
  cases qiw y with
  | calm hsl hnx hhp hnone hall=>
    have g : ∀ t,st1.get t = st.get t:=fun t=>by unfold AS.get;rw [hsl]
    refine ⟨by rw [Yb];omega,fun t h=>by rw [Yr,qr h,g],fun m a=>by rw [Ya];exact hhp m a,fun m _ h=>by rw [Ya];exact hnone m h,fun m p n=>by rw [Yb] at n;omega,fun st2 r c _=>?_⟩;obtain ⟨f,q,j,s⟩:=hall st2 (fun x k=>c.ev k) c.blk;refine ⟨(⟨st2.sl,f,st2.nx⟩ : AS).putD o.dst v,Yb _ _ _,fun base=>qh5 (qct z (c.guard.trans hg) q),fun t h=>by rw [Yr,qr h];rfl,fun t h=>by rw [Yr,Yr,qp h,qp h],fun m a=>?_,fun m a=>?_⟩
    · rw [Ya,Ya];exact j m a
    · rw [Ya];exact s m a
  | new mk b hp1 hk hv p hmem hhp hnone hall=>
    subst p;obtain ⟨es,xs,rfl⟩:=qnn y rfl hd;refine ⟨by rw [Yb];exact Nat.le_succ _,fun t h=>by rw [Yr,qr h];rfl,fun m a=>?_,fun m a h=>?_,fun m p n=>?_,fun st2 r c l=>?_⟩
    · rw [Ya,Km,qr (by rintro rfl;exact a hmem)];exact hhp m a
    · rw [Yb] at a;rw [Ya,Km,qr (by simp only at a;omega)];exact hnone m h
    · rw [Yb] at n;grind
    · rw [Yb] at r l ⊢;simp only at r l;obtain ⟨f,q,j,s,k4⟩:=hall st2 (fun x k=>c.ev k) c.blk;have d:=l st.nx (Nat.le_refl _) q6;refine ⟨(⟨st2.sl,(st.nx,.dat es xs)::f,st2.nx⟩ : AS).putD o.dst (mk st.nx),Yb _ _ _,fun base=>qh4 z (c.guard.trans hg) hk q q6 d k4 (fun m a=>?_),fun t h=>by rw [Yr,qr h];rfl,fun t h=>by rw [Yr,Yr,qp h,qp h,hv],fun m a=>?_,fun m a=>?_⟩
      · by_cases u : m∈(fp st o.op).2
        · rw [j m u];refine hnone m ?_;rw [← c.blk.1 m u];exact a
        grind
      · rw [Ya,Ya,Km,Km];grind
      · rw [Ya,Km,qr (by rintro rfl;exact a hmem)];exact s m a
theorem qyc {n es : Nat} {xs : List (List DV)} {hp2 : List (Nat × Blk)} (hT : Yp P T) (hg : Qr ops st o = some true) (ho : opFn T st o.op = some (.hs n es 0 xs.length,st1)) (q : n = st.nx∧st1.nx = n + 1) (y : st1.hp = (n,.dat es xs)::hp2) (hf : find hp2 n = none) :
    Ja P ops o (fp st o.op) st (({sl:=st1.sl,hp:=hp2,nx:=st1.nx} : AS).putD o.dst (.d (.sl es xs))):=by
  obtain ⟨rfl,aj⟩:=q
  cases qiw ho with
  | calm hsl hnx hhp hnone hall=>omega
  | new mk b hp1 hk hv v hmem hhp hnone hall=>
    subst v;simp only [List.cons.injEq,Prod.mk.injEq,true_and] at y;obtain ⟨rfl,rfl⟩:=y;refine ⟨by rw [Yb];exact Nat.le_succ _,fun t h=>by rw [Yr,qr h];rfl,fun m g=>by rw [Ya];exact hhp m g,fun m g h=>by rw [Ya];exact hnone m h,fun m v h2=>?_,fun st2 q r k=>?_⟩
    · rw [Yb] at h2;grind
    · rw [Yb] at q k ⊢;simp only at q k;obtain ⟨j,k1,u,k3,k4⟩:=hall st2 (fun x hx=>r.ev hx) r.blk;have c:=k st.nx (Nat.le_refl _) q6
      have f : ∀ m,find st2.hp m = none→find j m = none:=fun m g=>by
        by_cases z : m∈(fp st o.op).2
        · rw [u m z];refine hnone m ?_;rw [← r.blk.1 m z];exact g
        grind
      refine ⟨(⟨st2.sl,j,st2.nx⟩ : AS).putD o.dst (.d (.sl es xs)),Yb _ _ _,fun base=>?_,fun t h=>by rw [Yr,qr h];rfl,fun t h=>by rw [Yr,Yr,qp h,qp h],fun m g=>by rw [Ya,Ya];exact u m g,fun m g=>by rw [Ya];exact k3 m g⟩;intro ro Q w Z inj a Ds K h hd l hb s p hK;refine qh4 (base:=base) hT (r.guard.trans hg) hk k1 q6 c k4 f ro Q w Z inj a Ds K h hd l hb s p fun a' w' hp=>hK a' w' ?_;rw [← hv] at hp;exact qrm (st1:=⟨st2.sl,(st.nx,.dat es xs)::j,st2.nx⟩) hb hp rfl (f _ c) l
theorem qz1 {hp hp2 : List (Nat × Blk)} (h : ∀ m,find hp2 m = find hp m) : ∀ k,toD hp2 k = toD hp k:=by
  intro k
  induction k with
  | zero=>funext v;cases v <;> rfl
  | succ k ih=>funext v;cases v <;> simp only [toD,ih,h]
theorem qf0 {hp hp2 : List (Nat × Blk)} (h : ∀ m,find hp2 m = find hp m) : ∀ {a : List V},Ki hp2 a = Ki hp a
  | []=>rfl
  | v::r=>by simp only [Ki,qz1 h,qf0 h]
theorem qf1 {hp hp2 : List (Nat × Blk)} : ∀ {a : List V},a.all V.isD = true→Ki hp2 a = Ki hp a
  | [],_=>rfl
  | v::r,h=>by
    simp only [List.all_cons,Bool.and_eq_true] at h
    have e : toD hp2 8 v = toD hp 8 v:=by
      cases v <;> first | rfl | (simp [V.isD] at h;done)
    rw [Ki,Ki,e,qf1 (hp:=hp) (hp2:=hp2) h.2]
theorem qya {c : Call} {f : FuncId} {b : List V} {ds : List DV} {v : V} {hp' : List (Nat × Blk)} {nx' : Nat} {n r : DV} (p : Qr ops st o = some true) (m : o.op = .call c) (q : callee st c = some (f,b))
    (l : Ki st.hp b = some ds) (a : J6 P f (ds.map .d) [] 0 v hp' nx') (k : toD hp' 8 v = some n) (j : DLe n r) (hs : b.all V.isD = true∨r.scalar = true) : Ja P ops o (fpC b) st (st.putD o.dst (.d r)):=by
  refine qky (by unfold fpC;cases b.all V.isD <;> rfl) fun st2 g=>qh6 (g.guard.trans p) m ((g.callee m).trans q) ?_ a k j hs;rw [← l];by_cases hd : b.all V.isD = true
  · exact qf1 hd
  · have h:=g.blk.2;simp only [fpC,hd,Q0] at h;exact qf0 h
theorem qol {ops : Array Oper} {o : Oper} {c : Call} {f : FuncId} {vs ba : List V} {hp0 hp' aq az : List (Nat × Blk)} {k k' ar : Nat} {v' vN : V} {ρ ρ3 : Nat→Nat} {cf ap : List Nat} (hg : Qr ops st o = some true) (ho : o.op = .call c) (hc : callee st c = some (f,vs)) (ch : vs.length = ba.length)
    (bu : Wk 0 ρ [] [] {sl:=Ku 0 vs,hp:=st.hp,nx:=st.nx} {sl:=Ku 0 ba,hp:=hp0,nx:=k}) (an : J6 P f ba hp0 k v' hp' k') (bt : Wk 0 ρ3 cf ap {sl:=[(0,v')],hp:=hp',nx:=k'} {sl:=[(0,vN)],hp:=aq,nx:=ar})
    (hb : Back ρ ρ3 ap k k' st.nx ar st.hp aq az) : J8 P base ops o st ({sl:=st.sl,hp:=az,nx:=ar : AS}.putD o.dst vN):=by
  intro ro Q w Z inj a Ds K h hd bl _ hK;unfold Jt;rw [q34 h hg];simp only [if_true];refine ⟨fun _ _=>trivial,?_⟩;obtain ⟨xs,hr,hl⟩:=qc9 h ho hc an.1;rw [show (Fw ro).round = ro from rfl,Oper.semAt_eq ro _ o (by rintro c' h';rw [ho] at h';cases h'),hr,Oper.uponIn_enter];refine ⟨fun h=>by simp [Fw] at h,?_⟩
  have bn : RelS w Z inj {sl:=Ku 0 vs,hp:=st.hp,nx:=st.nx} {a with tmps:=xs,defers:=[]} []:=by
    refine ⟨fun t v ht=>?_,h.heap,rfl,List.nodup_nil,qd⟩;rw [q9u] at ht;simp only [Nat.zero_le,if_true,Nat.sub_zero] at ht;obtain ⟨y,hy⟩:=Kv (xs:=xs) (i:=t) (by rw [← hl.1];exact Kb ht);exact ⟨y,hy,hl.2 t v y ht hy⟩
  obtain ⟨cg,ai⟩:=q1o bn bu
  have cr : LRel w (wkZ Z inj {sl:=Ku 0 vs,hp:=st.hp,nx:=st.nx} []) (wkI inj ρ []) k ba xs:=by
    refine ⟨by rw [← ch];exact hl.1,fun i d y da dd=>?_⟩;obtain ⟨y',bv,hr⟩:=cg.slots i d (by rw [q9u];simpa using da);rw [dd] at bv;cases bv;exact hr
  refine CallsIn.mono (an.2 w _ _ xs cg.heap cr) ?_;rintro e w' ⟨x,Z',inj',rfl,hh,cj,hv,hn⟩;obtain ⟨s,ag⟩ : ∃ s : Inj,s = fun n=>if n < k' then inj' n else none:=⟨_,rfl⟩
  have ac : ∀ n,n < k'→s n = inj' n:=fun n hn=>by rw [ag];simp [hn]
  have df : RelH w' Z' s hp' k':=by
    refine ⟨fun n b hb=>?_,fun n m b c p q l j u h4 h5 h6=>?_,fun n b p l j u=>?_,hh.zs,hh.zc⟩
    · obtain ⟨k1,k2⟩:=hh.blk n b hb;exact ⟨k1,qjw k2 (fun m p hm hp=>(ac m hm).trans hp) k1 (fun hp=>(ac n k1).trans hp)⟩
    · rw [ac n (hh.blk n b l).1] at h5;rw [ac m (hh.blk m c j).1] at h6;exact hh.sep n m b c p q l j u h4 h5 h6
    · rw [ac n (hh.blk n b l).1] at u;exact hh.out n b p l j u
  have cs : RelV w' Z' s k' v' x:=q84 hv fun n p hn hp=>(ac n hn).trans hp
  have bj : ∀ b,im hp' s b→im hp' inj' b:=by
    rintro b ⟨n,blk,o,l,j,u⟩;exact ⟨n,blk,o,l,j,by rw [← ac n (hh.blk n blk l).1];exact u⟩
  have bi : RelS w' Z' s {sl:=[(0,v')],hp:=hp',nx:=k'} {a with tmps:=#[x],defers:=[]} []:=by
    refine ⟨fun t v ht=>?_,df,rfl,List.nodup_nil,qd⟩;rw [Km] at ht;split at ht
    · rename_i e;subst e;cases ht;exact ⟨x,rfl,cs⟩
    · simp [find] at ht
  obtain ⟨ab,ah⟩:=q1o bi bt;generalize ds : wkZ Z' s {sl:=[(0,v')],hp:=hp',nx:=k'} cf = Z3 at ab ah;generalize ci : wkI s ρ3 ap = z at ab ah
  have ct : RelV w' Z3 z ar vN x:=by
    obtain ⟨y,hy,hr⟩:=ab.slots 0 vN (by simp [find]);simp at hy;subst hy;exact hr
  have bf : ∀ i,i < k→inj' i = inj (ρ i):=fun i hi=>by rw [cj.pinj i hi];simp [wkI]
  have cl : ∀ m,m < st.nx→∀ p,z m = some p→inj m = some p:=by
    intro m hm p hp;have ay : m ∉ ap:=fun hc=>by have:=hb.phn m hc;omega
    rw [← ci] at hp;simp only [wkI,ay,if_false] at hp;rcases hb.snd m hm with ⟨l,j⟩ | l
    · rw [ag] at hp;simp only [show ρ3 m < k' by omega,if_true] at hp;rw [bf _ l,j] at hp;exact hp
    · rw [ag] at hp;simp [show ¬ ρ3 m < k' by omega] at hp
  obtain ⟨r,af⟩ : ∃ r : Inj,r = fun m=>if m < st.nx then inj m else z m:=⟨_,rfl⟩
  have aa : ∀ m,m < st.nx→r m = inj m:=fun m hm=>by rw [af];simp [hm]
  have bz : ∀ m p,z m = some p→r m = some p:=fun m p hp=>by
    by_cases hm : m < st.nx
    · rw [aa m hm];exact cl m hm p hp
    · rw [af];simp [hm,hp]
  have hR : ∀ m b,find aq m = some b→∀ p,r m = some p→z m = some p:=by
    intro m b bm p hp;by_cases hm : m < st.nx
    · rw [aa m hm] at hp;have ay : m ∉ ap:=fun hc=>by have:=hb.phn m hc;omega
      obtain ⟨_,j⟩:=bt.blocks m b bm;rcases j with ⟨j,_⟩ | ⟨_,b0,u,_⟩
      · exact absurd j ay
      · have cq:=(hh.blk _ _ u).1;rcases hb.snd m hm with ⟨k1,k2⟩ | k1
        · rw [← ci];simp only [wkI,ay,if_false];rw [ac _ q6,bf _ k1,k2];exact hp
        · omega
    · rw [af] at hp;simpa [hm] using hp
  have hE : Ext w (wkZ Z inj {sl:=Ku 0 vs,hp:=st.hp,nx:=st.nx} []) (wkI inj ρ []) hp0 w' Z' inj' hp' 0:=cj.pin_le (Nat.zero_le _)
  have de : ∀ b,im aq z b→im st.hp inj b∨w.heap.size≤b:=by
    intro b cv;rcases ah.imm b cv with l | l
    · rcases hE.imm b (bj b l) with j | j
      · exact ai.imm b j
      · exact .inr j
    · exact .inr (Nat.le_trans hE.size l)
  have keep : ∀ b,b < w.heap.size→¬ im hp0 (wkI inj ρ []) b→w'.heap[b]? = w.heap[b]?:=fun b cu dc=>hE.keep b cu dc
  have au : ∀ m b p,find st.hp m = some b→live b = true→inj m = some p→(∀ i,i < k→ρ i≠m)→¬ im hp0 (wkI inj ρ []) p.1:=by
    rintro m b p l j u h4 ⟨i,blk,o,g1,g2,g3⟩;obtain ⟨j1,j2⟩:=bu.blocks i blk g1;rcases j2 with ⟨j2,_⟩ | ⟨_,b0,j3,j4⟩
    · cases j2
    · have cw : inj (ρ i) = some (p.1,o):=by simpa [wkI] using g3
      exact h.heap.sep (ρ i) m b0 b _ p j3 l (qle j4 g2) j cw u (h4 i j1) rfl
  have hZ : ∀ b,Z b→Z3 b:=fun b hz=>ah.zin b (hE.zin b (ai.zin b hz))
  have cd : ∀ b,Z3 b→Z b∨im hp0 (wkI inj ρ []) b∨w.heap.size≤b:=by
    intro b hz;rcases ah.zout b hz with l | l | l
    · rcases hE.zout b l with j | j | j
      · rcases ai.zout b j with u | u | u
        · exact .inl u
        · rcases j with j | ⟨n,hn,_⟩
          · exact .inl j
          · cases hn
        · exact .inr (.inr u)
      · exact .inr (.inl j)
      · exact .inr (.inr j)
    · rcases hE.imm b (bj b l) with j | j
      · exact .inr (.inl j)
      · exact .inr (.inr j)
    · exact .inr (.inr (Nat.le_trans hE.size l))
  have bg : Zn w w':=hE.big;have ax : q9p w w':=hE.loops
  have ce : Ext w Z inj st.hp w' Z3 r az st.nx:=by
    refine ⟨hE.size,fun b l j=>keep b l (fun u=>(ai.imm b u).elim j (fun h4=>q6)),?_,bg,ax,hZ,?_,aa,hE.tape,hE.os,hE.output,hE.frz⟩
    · rintro b ⟨m,blk,o,g1,g2,g3⟩;rcases hb.old m blk g1 with g4 | ⟨g4,_⟩
      · exact de b ⟨m,blk,o,g4,g2,hR m blk g4 _ g3⟩
      · exact .inl ⟨m,blk,o,g4,g2,by rw [← aa m (h.heap.blk m blk g4).1];exact g3⟩
    · intro b hz;rcases cd b hz with l | l | l
      · exact .inl l
      · exact .inr ((ai.imm b l).imp (fun x=>x) (fun x=>x))
      · exact .inr (.inr l)
  have hH : RelH w' Z3 r az ar:=by
    refine ⟨fun m b bm=>?_,fun m n b c p q l j u h4 h5 h6 bw=>?_,fun m b p l j u hz=>?_,ab.heap.zs,ab.heap.zc⟩
    · rcases hb.old m b bm with g | ⟨g,gi⟩
      · obtain ⟨k1,k2⟩:=ab.heap.blk m b g;refine ⟨k1,qjw k2 (fun n p _ hp=>bz n p hp) k1 fun hp=>?_⟩
        cases hq : r m with
        | none=>rfl
        | some p=>rw [hR m b g p hq] at hp;cases hp
      · obtain ⟨k1,k2⟩:=h.heap.blk m b g;refine ⟨Nat.lt_of_lt_of_le k1 hb.nxs,k2.mono (fun b' hz=>?_) hZ bg (fun n hn=>aa n hn) hb.nxs k1 fun p hp ck=>?_⟩
        · refine keep b' (h.heap.zs b' hz) fun hi=>?_;rcases ai.imm b' hi with l | l
          · exact h.heap.z_im hz l
          · have:=h.heap.zs b' hz;omega
        · exact keep _ (h.heap.im_lt ⟨m,b,p.2,g,ck,hp⟩) (au m b p g ck hp gi)
    · have ao : ∀ (m n : Nat) (b c : Blk) (p q : Nat × Nat),find aq m = some b→live b = true→r m = some p→find st.hp n = some c→live c = true→r n = some q→(∀ i,i < k→ρ i≠n)→p.1≠q.1:=by
        intro m n b c p q l u h5 j h4 h6 hn e;have hq : inj n = some q:=by rw [← aa n (h.heap.blk n c j).1];exact h6
        have cq:=h.heap.im_lt (b:=q.1) ⟨n,c,q.2,j,h4,hq⟩;rcases ah.imm p.1 ⟨m,b,p.2,l,u,hR m b l p h5⟩ with g1 | g1
        · rcases hE.imm p.1 (bj _ g1) with g2 | g2
          · exact au n c q j h4 hq hn (e ▸ g2)
          · omega
        · have:=hE.size;omega
      rcases hb.old m b l with g | ⟨g,gi⟩ <;> rcases hb.old n c j with g' | ⟨g',cy⟩
      · exact ab.heap.sep m n b c p q g g' u h4 (hR m b g p h5) (hR n c g' q h6) bw
      · exact ao m n b c p q g u h5 g' h4 h6 cy
      · exact fun e=>ao n m c b q p g' h4 h6 g u h5 gi e.symm
      · exact h.heap.sep m n b c p q g g' u h4 (by rw [← aa m (h.heap.blk m b g).1];exact h5) (by rw [← aa n (h.heap.blk n c g').1];exact h6) bw
    · rcases hb.old m b l with g | ⟨g,gi⟩
      · exact ab.heap.out m b p g j (hR m b g p u) hz
      · have hq : inj m = some p:=by rw [← aa m (h.heap.blk m b g).1];exact u
        rcases cd p.1 hz with h4 | h4 | h4
        · exact h.heap.out m b p g j hq h4
        · exact au m b p g j hq gi h4
        · have:=h.heap.im_lt (b:=p.1) ⟨m,b,p.2,g,j,hq⟩;omega
  exact hK _ _ (q39 h bl ce hH hb.nxs (q84 ct fun n p _ hp=>bz n p hp) hd)
theorem qye {c : Call} {f : FuncId} {b : List V} {v : V} {hp' : List (Nat × Blk)} {nx' : Nat} (h : Qr ops st o = some true) (g : o.op = .call c) (d : callee st c = some (f,b)) (a : J6 P f b st.hp st.nx v hp' nx') :
    J8 P base ops o st ({sl:=st.sl,hp:=hp',nx:=nx' : AS}.putD o.dst v):=qom h g d a
inductive Z6 (P : Program) (base : Nat) (ops : Array Oper) : List Oper→AS→AS→Prop
  | nil {st : AS} : Z6 P base ops [] st st
  | cons {o : Oper} {l : List Oper} {st st1 st2 : AS} : J8 P base ops o st st1→Z6 P base ops l st1 st2→Z6 P base ops (o::l) st st2
  | wk {ρ : Nat→Nat} {fz ph : List Nat} {l : List Oper} {st st1 st2 : AS} : Wk base ρ fz ph st st1→Z6 P base ops l st1 st2→Z6 P base ops l st st2
inductive J7 (P : Program) (base : Nat) (ops : Array Oper) (F : List Fp) : List Oper→AS→AS→Prop
  | nil {st : AS} : J7 P base ops F [] st st
  | cons {o : Oper} {l : List Oper} {st st1 st2 : AS} : Ja P ops o (fpAt F l.length) st st1→J7 P base ops F l st1 st2→J7 P base ops F (o::l) st st2
  | piv {o : Oper} {l : List Oper} {st st1 st2 : AS} : Ub (fpAt F l.length) = true→Z6 P base ops [o] st st1→J7 P base ops F l st1 st2→J7 P base ops F (o::l) st st2
def Uo (P : Program) (base : Nat) (ops : Array Oper) (dr : Dr) (l : List Oper) (st st' : AS) : Prop:=match dr with
  | none=>Z6 P base ops l st st'
  | some F=>J7 P base ops F l st st'
theorem qfh {F : List Fp} : ∀ {l : List Oper} {st st' : AS},J7 P base ops F l st st'→∃ (n : Nat) (S : Nat→AS),n≤l.length∧S 0 = st∧(∀ i o,i < n→l[i]? = some o→Ja P ops o (fpAt F (l.length - (i + 1))) (S i) (S (i + 1)))∧
    ((n = l.length∧S n = st')∨∃ o st1,l[n]? = some o∧Ub (fpAt F (l.length - (n + 1))) = true∧Z6 P base ops [o] (S n) st1∧J7 P base ops F (l.drop (n + 1)) st1 st')
  | [],st,st',h=>by cases h;exact ⟨0,fun _=>st,Nat.le_refl _,rfl,fun i o h=>q6,.inl ⟨rfl,rfl⟩⟩
  | o::l,st,st',h=>by
    cases h with
    | @cons _ _ _ st1 _ h1 h2=>
      obtain ⟨n,S,p,k,hs,b⟩:=qfh h2
      refine ⟨n + 1,fun i=>match i with | 0=>st | i + 1=>S i,by simp;omega,rfl,fun i d hi c=>?_,?_⟩
      · cases i with
        | zero=>simp at c;subst c;simp only [k,List.length_cons,Nat.zero_add,Nat.add_sub_cancel];exact h1
        | succ i=>
          have:=hs i d q6 (by simpa using c)
          simp only [List.length_cons]
          rw [show l.length + 1 - (i + 1 + 1) = l.length - (i + 1) by omega]
          exact this
      · rcases b with ⟨a,f⟩ | ⟨d,j,a,f,m,g⟩
        · exact .inl ⟨by simp [a],f⟩
        · refine .inr ⟨d,j,by simpa using a,?_,m,by simpa using g⟩
          rw [List.length_cons,show l.length + 1 - (n + 1 + 1) = l.length - (n + 1) by omega]
          exact f
    | @piv _ _ _ st1 _ h1 h2 a=>exact ⟨0,fun _=>st,Nat.zero_le _,rfl,fun i o h=>q6,.inr ⟨o,st1,rfl,by simpa using h1,h2,by simpa using a⟩⟩
theorem qmi {dr : Dr} {l : List Oper} {st2 : AS} (a : Qr ops st o = some false) (h : Uo P base ops dr l (st.putD o.dst (.d (.tup []))) st2) : Uo P base ops dr (o::l) st st2:=by
  cases dr with
  | none=>exact .cons (qh7 a) h
  | some F=>exact .cons ((qyd a).mono (qgt _)) h
theorem qmg {dr : Dr} {l : List Oper} {st2 : AS} {v : V} (c : Yp P T) (d : Qr ops st o = some true) (b : opFn T st o.op = some (v,st1)) (a : okO dr l.length st o.op st1 = true) (h : Uo P base ops dr l (st1.putD o.dst v) st2) : Uo P base ops dr (o::l) st st2:=by
  cases dr with
  | none=>exact .cons (qct c d b) h
  | some F=>
    simp only [okO,Bool.and_eq_true] at a;exact .cons ((qyb c d b a.2).mono a.1) h
theorem qmh {dr : Dr} {l : List Oper} {st2 : AS} {n es : Nat} {xs : List (List DV)} {hp2 : List (Nat × Blk)} (c : Yp P T) (j : Qr ops st o = some true) (a : opFn T st o.op = some (.hs n es 0 xs.length,st1)) (g : n = st.nx∧st1.nx = n + 1) (b : st1.hp = (n,.dat es xs)::hp2) (f : find hp2 n = none) (k : okF dr l.length (fp st o.op) = true)
    (h : Uo P base ops dr l (({sl:=st1.sl,hp:=hp2,nx:=st1.nx} : AS).putD o.dst (.d (.sl es xs))) st2) : Uo P base ops dr (o::l) st st2:=by
  cases dr with
  | none=>exact .cons (qon c j a (Nat.le_of_eq g.1.symm) b f) h
  | some F=>exact .cons ((qyc c j a g b f).mono k) h
theorem qmf {dr : Dr} {l : List Oper} {st2 : AS} {c : Call} {f : FuncId} {k : List V} {ds : List DV} {v : V} {hp' : List (Nat × Blk)} {nx' : Nat} {q r : DV} (n : Qr ops st o = some true) (m : o.op = .call c) (p : callee st c = some (f,k))
    (j : Ki st.hp k = some ds) (a : J6 P f (ds.map .d) [] 0 v hp' nx') (g : toD hp' 8 v = some q) (b : DLe q r) (hs : k.all V.isD = true∨r.scalar = true) (s : okF dr l.length (fpC k) = true) (h : Uo P base ops dr l (st.putD o.dst (.d r)) st2) : Uo P base ops dr (o::l) st st2:=by
  cases dr with
  | none=>exact .cons (qh6 n m p j a g b hs) h
  | some F=>exact .cons ((qya n m p j a g b hs).mono s) h
def Adm (ops : Array Oper) (S : Nat→Prop) : Prop:=∀ j o,S j→ops[j]? = some o→∀ e∈o.after,Region.binds .any e = true→S e.on
def Behind (ops : Array Oper) (o : Oper) (j : Nat) : Prop:=∀ S : Nat→Prop,Adm ops S→(∀ e∈o.after,Region.binds .any e = true→S e.on)→S j
theorem qi4 (acc : List Nat) (j : Nat) : ∀ (l : List Edge) (s : Nat),(l.foldl (fun s e=>if Region.binds .any e then s ||| 2 ^ e.on ||| acc.getD e.on 0 else s) s).testBit j = true→
    s.testBit j = true∨∃ e∈l,Region.binds .any e = true∧(e.on = j∨(acc.getD e.on 0).testBit j = true)
  | [],s,h=>.inl h
  | e::l,s,h=>by
    simp only [List.foldl_cons] at h
    rcases qi4 acc j l _ h with h | ⟨b,d,c,a⟩
    · by_cases hb : Region.binds .any e = true
      · simp only [hb,if_true,Nat.testBit_or,Bool.or_eq_true,Nat.testBit_two_pow] at h
        rcases h with (h | h) | h
        · exact .inl h
        · exact .inr ⟨e,qd,hb,.inl (by simpa using h)⟩
        · exact .inr ⟨e,qd,hb,.inr h⟩
      · simp only [hb] at h;exact .inl (by simpa using h)
    · exact .inr ⟨b,List.mem_cons_of_mem _ d,c,a⟩
theorem qi5 : ∀ (r : List Oper) (pre : List Oper) (acc : List Nat),ops.toList = pre ++ r→acc.length = pre.length→
    (∀ (i m : Nat),acc[i]? = some m→∃ o,ops[i]? = some o∧∀ j,m.testBit j = true→Behind ops o j)→
    (masks acc r).length = ops.size∧∀ (i m : Nat),(masks acc r)[i]? = some m→∃ o,ops[i]? = some o∧∀ j,m.testBit j = true→Behind ops o j
  | [],pre,acc,h,hl,ha=>by
    refine ⟨?_,ha⟩
    have:=congrArg List.length h
    simp at this
    simp [masks,hl,this]
  | o::r,pre,acc,h,hl,ha=>by
    refine qi5 r (pre ++ [o]) (acc ++ [qi3 acc o]) (by rw [h];simp) (by simp [hl]) ?_
    intro i m b
    by_cases hi : i < acc.length
    · rw [List.getElem?_append_left hi] at b;exact ha i m b
    · rw [List.getElem?_append_right q6] at b
      have g : i = acc.length:=by
        have:=Kb b;simp at this;omega
      subst g
      simp at b;subst b
      refine ⟨o,by rw [← Array.getElem?_toList,h,hl];simp,fun j p S n v=>?_⟩
      rcases qi4 acc j _ _ p with t | ⟨e,u,s,a⟩
      · simp at t
      · have c:=v e (by simpa using u) s
        rcases a with a | a
        · exact a ▸ c
        · rw [List.getD_eq_getElem?_getD] at a
          cases f : acc[e.on]? with
          | none=>rw [f] at a;simp at a
          | some m'=>
            rw [f] at a;obtain ⟨x,k,hb⟩:=ha _ _ f;exact hb j a S n (fun q l d=>n _ _ c k q l d)
theorem qg2 : ∀ (l : List Oper) (n : Nat),qa5 n l = true→∀ i o,l[i]? = some o→∀ e∈o.after,Region.binds .any e = true→e.on < n + i
  | [],_,_,i,o,h=>by simp at h
  | x::l,n,h,i,o,ho=>by
    simp only [qa5,Bool.and_eq_true,List.all_eq_true] at h
    cases i with
    | zero=>
      simp at ho;subst ho
      intro e a hb
      have:=h.1 e (by simpa using a)
      simp [hb] at this
      exact this
    | succ i=>
      intro e a hb
      have:=qg2 l (n + 1) h.2 i o (by simpa using ho) e a hb
      omega
structure q6u (x y : Fp) : Prop where
  ww : ∀ m∈x.2,m ∉ y.2
  rw : ∀ m∈y.2,match x.1 with | none=>False | some r=>m ∉ r
  wr : ∀ m∈x.2,match y.1 with | none=>False | some r=>m ∉ r
theorem qc3 {a b : List Nat} (h : q6w a b = true) : ∀ m∈a,m ∉ b:=fun m c hb=>by
  simp only [q6w,List.all_eq_true] at h
  have:=h m c
  rw [qi7 hb] at this;cases this
theorem qls {x y : Fp} (h : qc2 x y = true) : q6u x y:=by
  simp only [qc2,Bool.and_eq_true] at h;obtain ⟨⟨f,c⟩,b⟩:=h;refine ⟨qc3 f,fun m a=>?_,fun m a=>?_⟩
  · revert c
    cases x.1 with
    | none=>intro c;rw [List.isEmpty_iff] at c;rw [c] at a;cases a
    | some r=>intro c d;exact qc3 c m d a
  · revert b
    cases y.1 with
    | none=>intro b;rw [List.isEmpty_iff] at b;rw [b] at a;cases a
    | some r=>intro b d;exact qc3 b m d a
structure q6v (F : List Fp) (ops : Array Oper) : Prop where
  edges : ∀ j o,ops[j]? = some o→∀ e∈o.after,Region.binds .any e = true→e.on < j
  pairs : ∀ i j a b,i < j→ops[i]? = some a→ops[j]? = some b→Behind ops b i∨(q6u (fpAt F (ops.size - (i + 1))) (fpAt F (ops.size - (j + 1)))∧(∀ t∈reads ops a,b.dst≠some t)∧(∀ t∈reads ops b,a.dst≠some t)∧∀ t,a.dst = some t→b.dst≠some t)
  pivs : ∀ i j a b,i < j→ops[i]? = some a→ops[j]? = some b→(Ub (fpAt F (ops.size - (i + 1))) = true∨Ub (fpAt F (ops.size - (j + 1))) = true)→Behind ops b i
theorem qlk {α : Type} {l : List α} {i : Nat} {x : α} (h : l[i]? = some x) : (x,i)∈l.zipIdx:=by grind
theorem qci {o : Oper} {t : Tmp} : q76 o t = true↔o.dst = some t:=by
  unfold q76
  cases o.dst with
  | none=>simp
  | some d=>simp
theorem qnp {F : List Fp} (h : q75 F ops = true) : q6v F ops:=by
  simp only [q75,Bool.and_eq_true,List.all_eq_true] at h;obtain ⟨n,u⟩:=h;obtain ⟨x,v⟩:=qi5 (ops:=ops) ops.toList [] [] rfl rfl qd;have d : ∀ (i : Nat) (o : Oper),ops[i]? = some o→ops.toList[i]? = some o:=fun i o l=>by rw [Array.getElem?_toList];exact l
  have main : ∀ i j a b,i < j→ops[i]? = some a→ops[j]? = some b→Behind ops b i∨((Ub (fpAt F (ops.size - (i + 1))) = false∧Ub (fpAt F (ops.size - (j + 1))) = false)∧(q6u (fpAt F (ops.size - (i + 1))) (fpAt F (ops.size - (j + 1)))∧(∀ t∈reads ops a,b.dst≠some t)∧(∀ t∈reads ops b,a.dst≠some t)∧∀ t,a.dst = some t→b.dst≠some t)):=fun i j a b c k hb=>by
    have:=u _ (qlk (d j b hb)) _ (qlk (d i a k));simp only [Bool.or_eq_true] at this;rcases this with (h | h) | h
    · have p : Nat.blt i j = true:=by rw [Nat.blt_eq];exact c
      grind
    · grind
    · right;simp only [Bool.and_eq_true,Bool.not_eq_true'] at h;obtain ⟨⟨⟨hp1,hp2⟩,h⟩,s⟩:=h;simp only [qf3,Bool.and_eq_true,List.all_eq_true,Bool.not_eq_true'] at h;obtain ⟨⟨r,m⟩,g⟩:=h;refine ⟨⟨hp1,hp2⟩,qls s,fun t f hd=>?_,fun t f hd=>?_,fun t f hd=>?_⟩
      · have:=r t f;rw [qci.2 hd] at this;cases this
      · have:=m t f;rw [qci.2 hd] at this;cases this
      · rw [f] at g;simp only at g;rw [qci.2 hd] at g;simp at g
  refine ⟨fun j o l e q hb=>?_,fun i j a b c k hb=>(main i j a b c k hb).imp id And.right,fun i j a b c k hb hp=>?_⟩
  · have:=qg2 _ 0 n j o (d j o l) e q hb;omega
  grind
end
end Go.Am
namespace Go.Am
open Go
variable {P : Program}
section
variable {base : Nat} {ops : Array Oper}
theorem qcs {l : Array Bool} {i : Nat} : l.getD i false = true↔l[i]? = some true:=by
  rw [Array.getD_eq_getD_getElem?];cases l[i]? <;> simp
theorem qad {l : Array Bool} {i : Nat} : l.getD i true = false↔l[i]? = some false:=by
  rw [Array.getD_eq_getD_getElem?];cases l[i]? <;> simp
theorem qt1 {w : World} {Z : Nat→Prop} {inj : Inj} {hp hp2 : List (Nat × Blk)} {nx : Nat} (h : RelH w Z inj hp nx) (hs : ∀ m,find hp2 m = find hp m) : RelH w Z inj hp2 nx:=by
  refine ⟨fun n b hb=>h.blk n b (by rw [← hs];exact hb),fun n m b c p q a d=>h.sep n m b c p q (by rw [← hs];exact a) (by rw [← hs];exact d),fun n b p a=>h.out n b p (by rw [← hs];exact a),h.zs,h.zc⟩
theorem qo4 {w w' : World} {Z Z' : Nat→Prop} {inj inj' : Inj} {hp hp' hp2 : List (Nat × Blk)} {pin : Nat} (h : Ext w Z inj hp w' Z' inj' hp' pin) (hs : ∀ m,find hp2 m = find hp' m) : Ext w Z inj hp w' Z' inj' hp2 pin:=
  {h with imm:=fun b hb=>h.imm b (by
      obtain ⟨n,c,o,f,d,a⟩:=hb
      exact ⟨n,c,o,by rw [← hs];exact f,d,a⟩)}
abbrev fpO (F : List Fp) (ops : Array Oper) (i : Nat) : Fp:=fpAt F (ops.size - (i + 1))
def CutS (ops : Array Oper) (listed : Array Bool) (t : Tmp) (m : Nat) : Prop:=∀ (i : Nat) (o : Oper),ops[i]? = some o→o.dst = some t→(listed[i]? = some true↔i < m)
def CutB (F : List Fp) (ops : Array Oper) (listed : Array Bool) (q m : Nat) : Prop:=∀ (i : Nat) (o : Oper),ops[i]? = some o→q∈(fpO F ops i).2→(listed[i]? = some true↔i < m)
structure Mid (F : List Fp) (ops : Array Oper) (S : Nat→AS) (lo hi : Nat) (listed : Array Bool) (st : AS) : Prop where
  nx : st.nx = (S hi).nx
  sl : ∀ t m,lo≤m→m≤hi→CutS ops listed t m→st.get t = (S m).get t
  hp : ∀ q m,lo≤m→m≤hi→CutB F ops listed q m→find st.hp q = find (S m).hp q
abbrev Steps (P : Program) (F : List Fp) (ops : Array Oper) (S : Nat→AS) (lo hi : Nat) : Prop:=∀ (i : Nat) (o : Oper),lo≤i→i < hi→ops[i]? = some o→Ja P ops o (fpO F ops i) (S i) (S (i + 1))
theorem qc7 {F : List Fp} {S : Nat→AS} {lo hi : Nat} (a : hi≤ops.size) (d : Steps P F ops S lo hi) {t : Tmp} {j : Nat} (b : lo≤j) : ∀ m,j≤m→m≤hi→(∀ (i : Nat) (o : Oper),j≤i→i < m→ops[i]? = some o→o.dst≠some t)→(S m).get t = (S j).get t
  | 0,h,_,_=>by have : j = 0:=q6;subst this;rfl
  | m + 1,h,hm,hno=>by
    by_cases f : j = m + 1
    · subst f;rfl
    · obtain ⟨o,c⟩:=Kv (xs:=ops) (i:=m) q6
      rw [(d m o q6 q6 c).sl t (hno m o q6 q6 c)]
      exact qc7 a d b m q6 q6 fun i o g k=>hno i o g q6
theorem qc6 {F : List Fp} {S : Nat→AS} {lo hi : Nat} (a : hi≤ops.size) (d : Steps P F ops S lo hi) {q j : Nat} (b : lo≤j) : ∀ m,j≤m→m≤hi→(∀ (i : Nat) (o : Oper),j≤i→i < m→ops[i]? = some o→q ∉ (fpO F ops i).2)→find (S m).hp q = find (S j).hp q
  | 0,h,_,_=>by have : j = 0:=q6;subst this;rfl
  | m + 1,h,hm,hno=>by
    by_cases f : j = m + 1
    · subst f;rfl
    · obtain ⟨o,c⟩:=Kv (xs:=ops) (i:=m) q6
      rw [(d m o q6 q6 c).hp q (hno m o q6 q6 c)]
      exact qc6 a d b m q6 q6 fun i o g k=>hno i o g q6
theorem q18 {F : List Fp} {S : Nat→AS} {lo hi : Nat} (a : hi≤ops.size) (c : Steps P F ops S lo hi) {j : Nat} (b : lo≤j) : ∀ m,j≤m→m≤hi→(S j).nx≤(S m).nx
  | 0,h,_=>by have : j = 0:=q6;subst this;exact Nat.le_refl _
  | m + 1,h,hm=>by
    by_cases d : j = m + 1
    · subst d;exact Nat.le_refl _
    · obtain ⟨o,f⟩:=Kv (xs:=ops) (i:=m) q6
      exact Nat.le_trans (q18 a c b m q6 q6) (c m o q6 q6 f).nx
theorem qhr {F : List Fp} {S : Nat→AS} {lo hi : Nat} (a : hi≤ops.size) (c : Steps P F ops S lo hi) (b : ∀ q,(S lo).nx≤q→find (S lo).hp q = none) : ∀ m,lo≤m→m≤hi→∀ q,(S m).nx≤q→find (S m).hp q = none
  | 0,hl,_,q,hq=>by have : lo = 0:=q6;subst this;exact b q hq
  | m + 1,hl,hm,q,hq=>by
    by_cases f : lo = m + 1
    · subst f;exact b q hq
    obtain ⟨o,d⟩:=Kv (xs:=ops) (i:=m) q6
    have hs:=c m o q6 q6 d
    exact hs.keys q hq (qhr a c b m q6 q6 q (Nat.le_trans hs.nx hq))
def Keep (ops : Array Oper) (S : Nat→AS) (lo hi : Nat) (base : Nat) (w0 : World) (Z0 : Nat→Prop) (inj0 : Inj) (hp0 : List (Nat × Blk)) (a0 : Act) (Ds0 : List Nat) (listed : Array Bool) (st : AS) (a : Act) (w : World) : Prop:=
  ∃ Z inj Ds,RelS w Z inj st a Ds∧Ext w0 Z0 inj0 hp0 w Z inj st.hp base∧a.tmps.size = a0.tmps.size∧(∀ D∈Ds,D∈Ds0∨w0.heap.size≤D)∧
    ∀ (i : Nat) (o : Oper),lo≤i→i < hi→ops[i]? = some o→listed[i]?≠some true→∀ m,(S i).nx≤m→m < (S (i + 1)).nx→inj m = none
theorem qfw {l : Array Bool} {i : Nat} {n : Nat} (hi : l[i]? = some false) (b : l.toList.count false = n + 1) : (l.setIfInBounds i true).toList.count false = n:=by
  have a : i < l.toList.length:=by simpa using Yz hi
  rw [Array.toList_setIfInBounds,List.count_set a]
  have : l.toList[i] = false:=by
    have:=hi;rw [← Array.getElem?_toList,List.getElem?_eq_getElem a] at this;simpa using this
  simp [this,b]
theorem qjv {F : List Fp} (l : q6v F ops) {listed : Array Bool} (g : listed.size = ops.size) : ∀ (n i : Nat),i = n→listed[i]? = some false→Region.ready .any ops listed≠[]:=by
  intro n
  induction n using Nat.strongRecOn with
  | _ n ihn=>
    intro i f hi;subst f;obtain ⟨o,k⟩:=Kv (xs:=ops) (i:=i) (by rw [← g];exact Yz hi);by_cases a : ∀ e∈o.after,Region.binds .any e = true→listed.getD e.on false = true
    · intro d;have : i∈Region.ready .any ops listed:=mem_ready.2 ⟨qad.2 hi,o,k,a⟩;rw [d] at this;cases this
    · simp only [Classical.not_forall] at a;obtain ⟨e,m,hb,j⟩:=a;have h:=l.edges i o k e m hb;obtain ⟨b,c⟩:=Kv (xs:=listed) (i:=e.on) (by have:=Yz hi;omega)
      cases b with
      | true=>exact absurd (qcs.2 c) j
      | false=>exact ihn e.on h e.on rfl c
theorem qey {listed : Array Bool} {i : Nat} {o : Oper} (f : Adm ops (fun i=>listed[i]? = some true)) (k : ops[i]? = some o) (m : listed[i]? = some false) (c : ∀ e∈o.after,Region.binds .any e = true→listed[e.on]? = some true) :
    (∀ (j : Nat),(listed.setIfInBounds i true)[j]? = some true↔(j = i∨listed[j]? = some true))∧Adm ops (fun j=>(listed.setIfInBounds i true)[j]? = some true):=by
  have a : ∀ (j : Nat),(listed.setIfInBounds i true)[j]? = some true↔(j = i∨listed[j]? = some true):=by
    intro j;by_cases d : j = i
    · subst d;simp [Yz m]
    · rw [Array.getElem?_setIfInBounds_ne (Ne.symm d)];simp [d]
  refine ⟨a,?_⟩;intro j l g b e h hb;rw [a] at g ⊢;rcases g with rfl | g
  · rw [k] at b;cases b;exact .inr (c e h hb)
  · exact .inr (f j l g b e h hb)
theorem qnr {F : List Fp} {S : Nat→AS} {lo hi : Nat} (be : lo≤hi) (aa : hi≤ops.size) (hD : q6v F ops) (hS : Steps P F ops S lo hi) (bc : ∀ (i j : Nat) (d : Oper),i < hi→hi≤j→ops[j]? = some d→Behind ops d i) (h0 : ∀ q,(S lo).nx≤q→find (S lo).hp q = none)
    {w0 : World} {Z0 : Nat→Prop} {inj0 : Inj} {hp0 : List (Nat × Blk)} {a0 : Act} {Ds0 : List Nat} {ro : Option Nat} {Q : Exit→Act→World→Prop} (bm : base≤(S lo).nx)
    (hd : ∀ (i : Nat) (o : Oper),ops[i]? = some o→Zq a0.tmps.size o.dst = true)
    (hQ : ∀ (fuel : Nat) (listed : Array Bool) (a' : Act) (w' : World),listed.size = ops.size→listed.toList.count false = fuel→Adm ops (fun i=>listed[i]? = some true)→(∀ (i : Nat),listed[i]? = some true↔i < hi)→
      (∃ Z inj Ds,RelS w' Z inj (S hi) a' Ds∧Ext w0 Z0 inj0 hp0 w' Z inj (S hi).hp base∧a'.tmps.size = a0.tmps.size∧base≤(S hi).nx∧(∀ D∈Ds,D∈Ds0∨w0.heap.size≤D))→Y5 ro w'→wpAnyIn (Fw ro) 0 P .any ops Q fuel listed a' w') : ∀ (fuel : Nat) (listed : Array Bool) (a : Act) (w : World) (st : AS),
      listed.size = ops.size→listed.toList.count false = fuel→Adm ops (fun i=>listed[i]? = some true)→(∀ (i : Nat),i < lo→listed[i]? = some true)→(∀ (i : Nat),hi≤i→listed[i]?≠some true)→Keep ops S lo hi base w0 Z0 inj0 hp0 a0 Ds0 listed st a w→Y5 ro w→Mid F ops S lo hi listed st→
      wpAnyIn (Fw ro) 0 P .any ops Q fuel listed a w:=by
  have fin : ∀ (fuel : Nat) (listed : Array Bool) (a : Act) (w : World) (st : AS),
      listed.size = ops.size→listed.toList.count false = fuel→Adm ops (fun i=>listed[i]? = some true)→(∀ (i : Nat),i < lo→listed[i]? = some true)→(∀ (i : Nat),hi≤i→listed[i]?≠some true)→Keep ops S lo hi base w0 Z0 inj0 hp0 a0 Ds0 listed st a w→Y5 ro w→Mid F ops S lo hi listed st→
      (∀ (i : Nat),lo≤i→i < hi→listed[i]? = some true)→wpAnyIn (Fw ro) 0 P .any ops Q fuel listed a w:=by
    intro fuel listed a w st ad hc n y aj hp ah g ac
    have ap : ∀ (i : Nat),listed[i]? = some true↔i < hi:=fun i=>⟨fun h=>by
      rcases Nat.lt_or_ge i hi with z | z
      · exact z
      · exact absurd h (aj i z),fun h=>by
      rcases Nat.lt_or_ge i lo with z | z
      · exact y i z
      · exact ac i z h⟩
    refine hQ fuel listed a w ad hc n ap ?_ ah
    obtain ⟨Z,inj,Ds,z,h2,h3,h4,_⟩:=hp
    have bt : ∀ q,find (S hi).hp q = find st.hp q:=fun q=>(g.hp q hi be (Nat.le_refl _) fun i o ho _=>ap i).symm
    refine ⟨Z,inj,Ds,⟨fun t v ht=>?_,?_,z.defs,z.nodup,z.marks⟩,qo4 h2 bt,h3,Nat.le_trans bm (q18 aa hS (Nat.le_refl _) _ be (Nat.le_refl _)),h4⟩
    · rw [← g.nx]
      refine z.slots t v ?_
      have:=g.sl t hi be (Nat.le_refl _) fun i o ho _=>ap i
      exact this.trans ht
    · rw [← g.nx];exact qt1 z.heap bt
  intro fuel
  induction fuel with
  | zero=>
    intro listed a w st ad hc n y aj hp ah g;refine fin 0 listed a w st ad hc n y aj hp ah g fun i _ hi=>?_;have h:=List.count_eq_zero.1 hc;obtain ⟨b,hb⟩:=Kv (xs:=listed) (i:=i) q6
    cases b with
    | true=>exact hb
    | false=>exact absurd (by simpa using Array.mem_of_getElem? hb) h
  | succ fuel ih=>
    intro listed a w st ad hc n y aj hp ah g;by_cases ac : ∀ (i : Nat),lo≤i→i < hi→listed[i]? = some true
    · exact fin _ listed a w st ad hc n y aj hp ah g ac
    have bf : ∃ k : Nat,(lo≤k∧k < hi)∧listed[k]? = some false:=by
      simp only [Classical.not_forall] at ac;obtain ⟨k,z,h2,h3⟩:=ac;obtain ⟨b,hb⟩:=Kv (xs:=listed) (i:=k) q6
      cases b with
      | true=>exact absurd hb h3
      | false=>exact ⟨k,⟨z,h2⟩,hb⟩
    obtain ⟨k0,⟨df,ca⟩,br⟩:=bf;refine ⟨fun bn=>?_,fun i cd=>?_⟩
    · exact absurd bn (qjv hD ad k0 k0 rfl br)
    · obtain ⟨z,o,ho,bh⟩:=mem_ready.1 cd;rw [qad] at z;have aq : ∀ e∈o.after,Region.binds .any e = true→(fun i=>listed[i]? = some true) e.on:=fun e he hb=>qcs.1 (bh e he hb);have ax : ∀ j,Behind ops o j→listed[j]? = some true:=fun j hb=>hb _ n aq;have x : lo≤i:=Nat.le_of_not_lt fun h=>by have:=y i h;rw [z] at this;cases this
      have ay : i < hi:=Nat.lt_of_not_le fun h=>by
        have:=ax k0 (bc k0 i o ca h ho);rw [br] at this;cases this
      have av : ∀ (j : Nat) (d : Oper),ops[j]? = some d→Behind ops d i→listed[j]?≠some true:=by
        intro j d c hb hj;have:=hb (fun i=>listed[i]? = some true) n (fun e he cm=>n j d hj c e he cm);rw [z] at this;cases this
      obtain ⟨l,ba⟩:=qey n ho z aq;have bp : (listed.setIfInBounds i true).size = ops.size:=by simp [ad]
      have ch:=qfw z hc;have cy : i < ops.size:=Yz ho;have az : listed[i]?≠some true:=by rw [z];simp
      have u : ∀ (j : Nat) (d : Oper),ops[j]? = some d→j≠i→(listed[j]? = some true↔j < i)∨(q6u (fpO F ops i) (fpO F ops j)∧(∀ t∈reads ops o,d.dst≠some t)∧∀ t,o.dst = some t→d.dst≠some t):=by
        intro j d c f;rcases Nat.lt_or_gt_of_ne f with h | h
        · rcases hD.pairs j i d o h c ho with hb | ⟨ha,h2,h3,h4⟩
          · exact .inl ⟨fun _=>h,fun _=>ax j hb⟩
          · exact .inr ⟨⟨fun m h5 h6=>ha.ww m h6 h5,ha.wr,ha.rw⟩,h3,fun t h5 h6=>h4 t h6 h5⟩
        · rcases hD.pairs i j o d h ho c with hb | ⟨ha,h2,h3,h4⟩
          · exact .inl ⟨fun p=>absurd p (av j d c hb),fun p=>q6⟩
          · exact .inr ⟨ha,h2,h4⟩
      have ak : ∀ m∈(fpO F ops i).2,find st.hp m = find (S i).hp m:=fun m hm=>by
        refine g.hp m i x q6 fun j d c ab=>?_;by_cases f : j = i
        · subst f;exact ⟨fun p=>absurd p az,fun p=>absurd p (Nat.lt_irrefl _)⟩
        · rcases u j d c f with h | ⟨ha,_⟩
          · exact h
          · exact absurd ab (ha.ww m hm)
      have cf : Jv ops o (fpO F ops i) (S i) st:=by
        refine ⟨⟨ak,?_⟩,fun t ht=>?_⟩
        · have key : ∀ m,(∀ (j : Nat) (d : Oper),ops[j]? = some d→j≠i→q6u (fpO F ops i) (fpO F ops j)→m ∉ (fpO F ops j).2)→find st.hp m = find (S i).hp m:=fun m hm=>by
            by_cases bv : m∈(fpO F ops i).2
            · exact ak m bv
            refine g.hp m i x q6 fun j d c ab=>?_;by_cases f : j = i
            · subst f;exact absurd ab bv
            · rcases u j d c f with h | ⟨ha,_⟩
              · exact h
              · exact absurd ab (hm j d c f ha)
          cases hR : (fpO F ops i).1 with
          | none=>exact fun m=>key m fun j d _ _ ha ab=>by have:=ha.rw m ab;rw [hR] at this;exact this
          | some r=>exact fun m cg=>key m fun j d _ _ ha ab=>by have:=ha.rw m ab;rw [hR] at this;exact this cg
        · refine g.sl t i x q6 fun j d c ag=>?_;by_cases f : j = i
          · subst f;exact ⟨fun p=>absurd p az,fun p=>absurd p (Nat.lt_irrefl _)⟩
          · rcases u j d c f with h | ⟨_,hr,_⟩
            · exact h
            · exact absurd ag (hr t ht)
      have ae:=hS i o x ay ho;have bi : (S (i + 1)).nx≤st.nx:=by rw [g.nx];exact q18 aa hS q6 _ q6 (Nat.le_refl _)
      have bj : ∀ m,(S i).nx≤m→m < (S (i + 1)).nx→find st.hp m = none:=fun m h2 h3=>by
        rw [ak m (ae.fresh m h2 h3)];exact qhr aa hS h0 i x q6 m h2
      obtain ⟨cc,bo,bb,cq,cn,ce,ck⟩:=ae.other st bi cf bj;refine qej ho ?_;obtain ⟨Z,inj,Ds,k1,k2,k3,k4,k5⟩:=hp;have cj : base≤(S i).nx:=Nat.le_trans bm (q18 aa hS (Nat.le_refl _) _ x q6);refine bb base ro Q w Z inj a Ds _ k1 (by rw [k3];exact hd i o ho) cj (by have:=ae.nx;omega) ah (k5 i o x ay ho az) fun a' w' hp'=>?_;obtain ⟨Z',inj',cp,g1,g2,g3,g4,g5⟩:=hp';refine ih _ a' w' cc bp ch ba (fun j hj=>(l j).2 (.inr (y j hj))) (fun j hj p=>?_) ⟨Z',inj',cp,g1,k2.trans g2 (Nat.le_refl _),g3.trans k3,fun D hD=>?_,fun j d bg am c bu m h2 h3=>?_⟩ (ah.ext g2) ⟨bo.trans g.nx,fun t m bk hm s=>?_,fun q m bk hm s=>?_⟩
      · rcases (l j).1 p with rfl | p
        · omega
        · exact aj j hj p
      · rcases g4 D hD with h | h
        · exact k4 D h
        · exact .inr (Nat.le_trans k2.size h)
      · have f : j≠i:=by rintro rfl;exact bu ((l j).2 (.inl rfl))
        have bx : listed[j]?≠some true:=fun e=>bu ((l j).2 (.inr e))
        rw [g5 m (by
          have:=q18 aa hS (j:=j + 1) q6 hi q6 (Nat.le_refl _)
          have:=g.nx;omega) (by
          rcases Nat.lt_or_gt_of_ne f with h | h
          · left;have:=q18 aa hS (j:=j + 1) q6 i q6 q6;omega
          · right;have:=q18 aa hS (j:=i + 1) q6 j q6 q6;omega)]
        exact k5 j d bg am c bx m h2 h3
      · by_cases ao : o.dst = some t
        · have cb : i < m:=(s i o ho ao).1 ((l i).2 (.inl rfl));rw [cn t ao];refine (qc7 aa hS q6 m q6 hm fun j d bg am c ag=>?_).symm;have p:=(l j).1 ((s j d c ag).2 am);rcases p with p | p
          · omega
          · rcases u j d c q6 with h | ⟨_,_,hw⟩
            · have:=h.1 p;omega
            · exact hw t ao ag
        · rw [cq t ao];refine g.sl t m bk hm fun j d c ag=>?_;have f : j≠i:=by rintro rfl;rw [ho] at c;cases c;exact ao ag
          rw [← s j d c ag,l];simp [f]
      · by_cases hq : q∈(fpO F ops i).2
        · have cb : i < m:=(s i o ho hq).1 ((l i).2 (.inl rfl));rw [ce q hq];refine (qc6 aa hS q6 m q6 hm fun j d bg am c al=>?_).symm;have p:=(l j).1 ((s j d c al).2 am);rcases p with p | p
          · omega
          · rcases u j d c q6 with h | ⟨ha,_⟩
            · have:=h.1 p;omega
            · exact ha.ww q hq al
        · rw [ck q hq];refine g.hp q m bk hm fun j d c al=>?_;have f : j≠i:=by rintro rfl;exact hq al
          rw [← s j d c al,l];simp [f]
theorem qt3 {w : World} {Z : Nat→Prop} {inj : Inj} {st : AS} {a : Act} {Ds : List Nat} {N : Nat} (h : RelS w Z inj st a Ds) (l : st.nx≤N) : RelS w Z (fun m=>if m < st.nx then inj m else none) {st with nx:=N} a Ds:=by
  have hi : ∀ n,n < st.nx→(fun m=>if m < st.nx then inj m else none) n = inj n:=fun n v=>by simp [v]
  have d : Zn w w:=fun _ c e f h=>⟨c,e,f,h,rfl⟩
  refine ⟨h.slots.mono (fun _ _=>rfl) (fun _ h=>h) d hi l,⟨fun n b hb=>?_,fun n m b c p q g k j u s o=>?_,fun n b p g k j=>?_,h.heap.zs,h.heap.zc⟩,h.defs,h.nodup,h.marks⟩
  · obtain ⟨r,t⟩:=h.heap.blk n b hb;exact ⟨Nat.lt_of_lt_of_le r l,t.mono (fun _ _=>rfl) (fun _ h=>h) d hi l r (fun _ _ _=>rfl)⟩
  · rw [qp (h.heap.blk n b g).1] at s;rw [qp (h.heap.blk m c k).1] at o;exact h.heap.sep n m b c p q g k j u s o
  · rw [qp (h.heap.blk n b g).1] at j;exact h.heap.out n b p g k j
theorem qn1 {w0 : World} {Z0 : Nat→Prop} {inj0 : Inj} {b : AS} {g : Act} {Ds0 : List Nat} {l : List Oper} {st st' : AS} (h : Z6 P base ops l st st') : l = []→∀ a w,Kk base w0 Z0 inj0 b g Ds0 st a w→Kk base w0 Z0 inj0 b g Ds0 st' a w:=by
  induction h with
  | nil=>exact fun _ a w hp=>hp
  | cons _ _ _=>intro h;cases h
  | wk hw _ ih=>
    intro k a w hp;refine ih k a w ?_;obtain ⟨Z',inj',f,n,m,j,p,o⟩:=hp;obtain ⟨c,d⟩:=q1o n hw;exact ⟨_,_,f,c,m.trans d (Nat.le_refl _),j,hw.bs,o⟩
theorem qn0 {w0 : World} {Z0 : Nat→Prop} {inj0 : Inj} {m : AS} {n : Act} {Ds0 : List Nat} {ro : Option Nat} {Q : Exit→Act→World→Prop} {K : Act→World→Prop} {l : List Oper} {st st' : AS} (h : Z6 P base ops l st st') : ∀ o,l = [o]→Zq n.tmps.size o.dst = true→∀ a w,Kk base w0 Z0 inj0 m n Ds0 st a w→Y5 ro w→
    (∀ a' w',Kk base w0 Z0 inj0 m n Ds0 st' a' w'→Y5 ro w'→K a' w')→Jt P (Fw ro) ops Q o K a w:=by
  induction h with
  | nil=>intro o h;cases h
  | cons hs hl _=>
    intro o h hd a w hp c p;simp only [List.cons.injEq] at h;obtain ⟨rfl,rfl⟩:=h;refine hp.bind fun Z' inj' g b d j _ f=>?_;exact hs ro Q w Z' inj' a g _ b (by rw [d];exact hd) j c fun a' w' hp'=>p a' w' (qn1 hl rfl _ _ (f _ _ _ hp')) (by obtain ⟨_,_,_,_,s,_⟩:=hp';exact c.ext s)
  | wk hw _ ih=>
    intro o h hd a w hp c p;refine ih o h hd a w ?_ c p;obtain ⟨Z',inj',g,r,t,q,v,u⟩:=hp;obtain ⟨b,k⟩:=q1o r hw;exact ⟨_,_,g,b,t.trans k (Nat.le_refl _),q,hw.bs,u⟩
theorem qm2 {o p : Oper} {i j : Nat} (d : Behind ops o i) (hp : ops[i]? = some p) (b : Behind ops p j) : Behind ops o j:=fun S a f=>b S a fun e c hb=>a i p (d S a f) hp e c hb
theorem qnq {F : List Fp} (hD : q6v F ops) {w0 : World} {Z0 : Nat→Prop} {inj0 : Inj} {aa : AS} {a0 : Act} {Ds0 : List Nat} {ro : Option Nat} {Q : Exit→Act→World→Prop} (hd : ∀ (i : Nat) (o : Oper),ops[i]? = some o→Zq a0.tmps.size o.dst = true) :
    ∀ (n : Nat) (l : List Oper) (lo : Nat) (st st' : AS),l.length = n→ops.toList.drop lo = l→lo≤ops.size→J7 P base ops F l st st'→(∀ a' w',Kk base w0 Z0 inj0 aa a0 Ds0 st' a' w'→Q .normal a' w')→∀ (fuel : Nat) (listed : Array Bool) (a : Act) (w : World),
      listed.size = ops.size→listed.toList.count false = fuel→Adm ops (fun i=>listed[i]? = some true)→(∀ (i : Nat),listed[i]? = some true↔i < lo)→Kk base w0 Z0 inj0 aa a0 Ds0 st a w→Y5 ro w→wpAnyIn (Fw ro) 0 P .any ops Q fuel listed a w:=by
  intro n
  induction n using Nat.strongRecOn with
  | _ n ihn=>
  intro l lo st st' cf al ci hc hQ fuel listed a w bl bo ba aj hp bp;obtain ⟨k,S,hk,e0,hS,ak⟩:=qfh hc;have bw : l.length + lo = ops.size:=by rw [← al];simp;omega
  have ad : ∀ (i : Nat),l[i]? = ops[lo + i]?:=fun i=>by rw [← al,List.getElem?_drop,Array.getElem?_toList]
  subst e0
  have v : Steps P F ops (fun i=>S (i - lo)) lo (lo + k):=fun i o u h2 ho=>by
    have:=hS (i - lo) o q6 (by rw [ad,show lo + (i - lo) = i by omega];exact ho);rw [show l.length - (i - lo + 1) = ops.size - (i + 1) by omega] at this;show Ja P ops o (fpO F ops i) (S (i - lo)) (S (i + 1 - lo));rw [show i + 1 - lo = i - lo + 1 by omega];exact this
  have am : ∀ (i j : Nat) (oj : Oper),i < lo + k→lo + k≤j→ops[j]? = some oj→Behind ops oj i:=fun i j oj hi hj ag=>by
    rcases ak with ⟨u,_⟩ | ⟨o,st1,u,h2,_,_⟩
    · have:=Yz ag;omega
    · rw [ad] at u;rw [show l.length - (k + 1) = ops.size - (lo + k + 1) by omega] at h2;have bn : i < ops.size:=by have:=Yz u;omega
      obtain ⟨oi,ac⟩:=Kv (xs:=ops) (i:=i) bn;have hb:=hD.pivs i (lo + k) oi o hi ac u (.inr h2);by_cases bk : j = lo + k
      · subst bk;rw [u] at ag;cases ag;exact hb
      · exact qm2 (hD.pivs (lo + k) j o oj q6 u ag (.inl h2)) u hb
  obtain ⟨Z,inj,Ds,u,h2,h3,h4,h5⟩:=hp
  have hN : (S 0).nx≤(S k).nx:=by
    have:=q18 q6 v (Nat.le_refl _) (lo + k) q6 (Nat.le_refl _);simpa using this
  have h0 : ∀ q,(S 0).nx≤q→find (S 0).hp q = none:=fun q hq=>by
    cases hf : find (S 0).hp q with
    | none=>rfl
    | some b=>have:=(u.heap.blk q b hf).1;omega
  have aw : Ext w0 Z0 inj0 aa.hp w Z (fun m=>if m < (S 0).nx then inj m else none) (S 0).hp base:=by
    refine {h2 with imm:=fun b bm=>h2.imm b ?_,pinj:=fun n hn=>(qp (show n < (S 0).nx by omega)).trans (h2.pinj n hn)};obtain ⟨n,c,o,s,g2,g3⟩:=bm;refine ⟨n,c,o,s,g2,?_⟩;have:=(u.heap.blk n c s).1;simpa [this] using g3
  have aq : ∀ (i : Nat),lo≤i→listed[i]?≠some true:=fun i hi h=>by have:=(aj i).1 h;omega
  refine qnr (lo:=lo) (hi:=lo + k) (S:=fun i=>S (i - lo)) (hp0:=aa.hp) (Ds0:=Ds0) q6 q6 hD v am (by simpa using h0) (by simpa using h4) hd ?_ fuel listed a w {S 0 with nx:=(S k).nx} bl bo ba (fun i hi=>(aj i).2 hi) (fun i hi=>aq i q6) ⟨Z,_,Ds,qt3 u hN,aw,h3,h5,fun i o z ao ho _ m g2 g3=>?_⟩ bp ⟨qd,fun t m ap hm ab=>?_,fun q m ap hm ab=>?_⟩
  · intro r d a' w' x af y f hp' bb
    have hp' : Kk base w0 Z0 inj0 aa a0 Ds0 (S k) a' w':=by
      obtain ⟨Z',inj',bq,s,g2,g3,g4,g5⟩:=hp';simp only [Nat.add_sub_cancel_left] at s g2 g4;exact ⟨Z',inj',bq,s,g2,g3,g4,g5⟩
    rcases ak with ⟨e1,e2⟩ | ⟨o,st1,e1,e2,e3,e4⟩
    ·
      subst e2
      have hz : r = 0:=by
        rw [← af,List.count_eq_zero];intro hm;obtain ⟨i,hi⟩:=List.getElem?_of_mem hm;have ao : d[i]? = some false:=by simpa using hi
        have:=(f i).2 (by have:=Yz ao;omega);rw [ao] at this;cases this
      subst hz;refine ⟨?_,hQ _ _ hp'⟩;rw [List.eq_nil_iff_forall_not_mem];intro j hj;obtain ⟨s,o,ho,_⟩:=mem_ready.1 hj;rw [qad,(f j).2 (by have:=Yz ho;omega)] at s;cases s
    ·
      have p : ops[lo + k]? = some o:=by rw [← ad];exact e1
      rw [show l.length - (k + 1) = ops.size - (lo + k + 1) by omega] at e2
      have g : d[lo + k]? = some false:=by
        obtain ⟨b,hb⟩:=Kv (xs:=d) (i:=lo + k) (by rw [x];exact Yz p)
        cases b with
        | true=>have:=(f _).1 hb;omega
        | false=>exact hb
      cases r with
      | zero=>
        have:=List.count_eq_zero.1 af;exact absurd (by simpa using Array.mem_of_getElem? g) this
      | succ r=>
        refine ⟨fun av=>absurd av (qjv hD x _ _ rfl g),fun i hi=>?_⟩;obtain ⟨s,oi,ac,au⟩:=mem_ready.1 hi;rw [qad] at s;have ae : ∀ e∈oi.after,Region.binds .any e = true→d[e.on]? = some true:=fun e he hb=>qcs.1 (au e he hb)
        have bj : i = lo + k:=by
          rcases Nat.lt_trichotomy i (lo + k) with h | h | h
          · have:=(f i).2 h;rw [s] at this;cases this
          · exact h
          · have:=hD.pivs (lo + k) i o oi h p ac (.inl e2) _ y ae;rw [g] at this;cases this
        subst bj;rw [p] at ac;cases ac;obtain ⟨bc,an⟩:=qey y p s ae;refine qej p ?_;refine qn0 e3 o rfl (hd _ _ p) a' w' hp' bb fun a2 w2 hp2 ay=>?_;refine ihn (l.drop (k + 1)).length (by have:=Yz p;simp;omega) _ (lo + k + 1) st1 st' rfl (by rw [← al,List.drop_drop,Nat.add_assoc]) (Yz p) e4 hQ _ _ a2 w2 (by simp [x]) (qfw s af) an (fun j=>?_) hp2 ay;rw [bc,f];omega
  · have this : (S 0).nx≤(S (i - lo)).nx:=by simpa using q18 q6 v (Nat.le_refl lo) i z q6
    have cd : (S (i - lo)).nx≤m:=g2;exact qr q6
  · have:=qc7 q6 v (t:=t) (Nat.le_refl lo) m ap hm fun i o z hi ho bi=>aq i z ((ab i o ho bi).2 hi);simp at this ⊢;exact this.symm
  · have:=qc6 q6 v (q:=q) (Nat.le_refl lo) m ap hm fun i o z hi ho br=>aq i z ((ab i o ho br).2 hi);simp at this ⊢;exact this.symm
theorem qsx {F : List Fp} {id : Nat} {w : World} {Z : Nat→Prop} {inj : Inj} {st st' : AS} {a : Act} {Ds : List Nat} {ro : Option Nat} {Q : Exit→Act→World→Prop} (t : P.follows .mixedOrders = true) (s : q6v F ops) (u : J7 P base ops F ops.toList st st')
    (h : RelS w Z inj st a Ds) (d : codeOk a.tmps.size (.region id ops true) = true) (hb : base≤st.nx) (m : Y5 ro w) (q : ∀ a' w',Kk base w Z inj st a Ds st' a' w'→Q .normal a' w') : (Code.region id ops true).wpIn (Fw ro) 0 P Q a w:=by
  refine wpIn_region_any t ?_;have hs : RelS {w with drawn:=w.drawn + 1} Z inj st a Ds:=⟨h.slots.mono (fun _ _=>rfl) (fun _ h=>h) (fun b c e f hb=>⟨c,e,f,hb,rfl⟩) (fun _ _=>rfl) (Nat.le_refl _),h.heap.same rfl,h.defs,h.nodup,h.marks⟩
  have g : ∀ (i : Nat) (o : Oper),ops[i]? = some o→Zq a.tmps.size o.dst = true:=by
    intro i o p;simp only [codeOk,List.all_eq_true] at d;exact d o (by simpa using Array.mem_of_getElem? p)
  have k : ∀ (i : Nat),(Array.replicate ops.size false)[i]?≠some true:=by
    intro i hi;rw [Array.getElem?_replicate] at hi;split at hi <;> simp at hi
  exact qnq s g ops.toList.length ops.toList 0 st st' rfl qd (Nat.zero_le _) u q ops.size _ a _ qd qd (fun j o n _=>absurd n (k j)) (fun i=>⟨fun hi=>absurd hi (k i),fun hi=>q6⟩) ⟨Z,inj,Ds,hs,.same rfl rfl rfl rfl,rfl,hb,fun _ h=>.inl h⟩ (fun l r=>m l r)
end
end Go.Am
namespace Go.Am
open Go
variable {P : Program} {T : Tab}
section
variable {w w' : World} {Z Z' : Nat→Prop} {inj inj' : Inj} {hp hp' : List (Nat × Blk)} {nx nx' pin : Nat}
theorem RelH.grow (h : RelH w Z inj hp nx) (d : ∀ b,b < w.heap.size→w'.heap[b]? = w.heap[b]?) : RelH w' Z inj hp nx:=by
  have hb : Zn w w':=fun b c e f j=>⟨c,e,f,(d b (J1 j)).trans j,rfl⟩
  refine ⟨fun n b k=>?_,h.sep,h.out,?_,?_⟩
  · obtain ⟨l,o⟩:=h.blk n b k;exact ⟨l,o.mono (fun b a=>d b (h.zs b a)) (fun _ h=>h) hb (fun _ _=>rfl) (Nat.le_refl _) l fun p hp m=>d _ (h.im_lt ⟨n,b,p.2,k,m,hp⟩)⟩
  · intro b a;obtain ⟨c,e,f,g⟩:=h.zc b a;have:=d b (h.zs b a);exact J1 (this.trans g)
  · intro b a;obtain ⟨c,e,f,g⟩:=h.zc b a;exact ⟨c,e,f,(d b (h.zs b a)).trans g⟩
theorem Ext.alloc (o : Obj) (a : Unfr o:=by first | exact rfl | exact trivial) : Ext w Z inj hp (w.alloc o) Z inj hp pin:=
  ⟨qd,fun b hb _=>Zf w o hb,fun _ h=>.inl h,q23 w o,qhp w o,fun _ h=>h,fun _ h=>.inl h,fun _ _=>rfl,rfl,rfl,rfl,qgz w a⟩
theorem qh0 {w : World} {a : Addr} (h : ∀ c e f,w.heap[a.block]?≠some (.cells c e f)) : w.frozen? a = false:=by
  unfold World.frozen?;split
  · rename_i b;exact absurd b (h _ _ _)
  · rfl
theorem qh1 {b : Nat} {o : Obj} (h : ∀ c e f,w.heap[b]?≠some (.cells c e f)) (g : ∀ c e f,o≠.cells c e f) (a : Addr) : (w.putObj b o).frozen? a = w.frozen? a:=by
  by_cases hb : a.block = b
  · subst hb;rw [qh0 h,qh0];intro c e f;by_cases d : a.block < w.heap.size
    · rw [World.putObj_heap_same d];intro k;exact g _ _ _ (q6t k)
    · have j : (w.putObj a.block o).heap[a.block]? = none:=by simp;omega
      rw [j];simp
  · simp only [World.frozen?,World.putObj_heap_other hb]
theorem qjy (h : RelH w Z inj hp nx) {n : Nat} {b0 blk : Blk} (t : find hp n = some b0) (z : live b0 = true) {b off : Nat} (hi : inj n = some (b,off)) {r v : Loop} (hb : w.heap[b]? = some (.loop r)) (hd : v.defers = r.defers)
    (ah : RelB (w.putObj b (.loop v)) Z inj nx n blk) (ae : live blk = true→True) : RelH (w.putObj b (.loop v)) Z inj (repl hp n blk) nx∧Ext w Z inj hp (w.putObj b (.loop v)) Z inj (repl hp n blk) pin:=by
  have a : ∀ k,k≠b→(w.putObj b (.loop v)).heap[k]? = w.heap[k]?:=fun k g=>World.putObj_heap_other g
  have al : ¬ Z b:=fun hz=>by
    obtain ⟨c,e,f,hc⟩:=h.zc b hz;rw [hb] at hc;cases hc
  have j : Zn w (w.putObj b (.loop v)):=fun k c e f g=>by
    by_cases j : k = b
    · subst j;rw [hb] at g;cases g
    · exact ⟨c,e,f,(a k j).trans g,rfl⟩
  have hz : ∀ k,Z k→(w.putObj b (.loop v)).heap[k]? = w.heap[k]?:=fun k g=>a k (fun e=>al (e ▸ g))
  have d : ∀ m c,find (repl hp n blk) m = some c→(m = n∧c = blk)∨(m≠n∧find hp m = some c):=by
    intro m c u;rw [Yv] at u;split at u
    · rename_i e;subst e;rw [t] at u;simp at u;exact .inl ⟨rfl,u.symm⟩
    · rename_i e;exact .inr ⟨fun h=>e h.symm,u⟩
  have ac : ∀ k,im (repl hp n blk) inj k→im hp inj k:=by
    rintro k ⟨m,c,o,h1,h2,s⟩;rcases d m c h1 with ⟨rfl,rfl⟩ | ⟨_,y⟩
    · exact ⟨m,b0,o,t,z,s⟩
    · exact ⟨m,c,o,y,h2,s⟩
  refine ⟨⟨?_,?_,?_,?_,?_⟩,⟨qd,?_,fun k g=>.inl (ac k g),j,?_,fun _ h=>h,fun _ h=>.inl h,fun _ _=>rfl,rfl,rfl,rfl,qh1 (fun _ _ _=>by rw [hb];simp) (fun _ _ _=>qd)⟩⟩
  · intro m c u;rcases d m c u with ⟨rfl,rfl⟩ | ⟨l,y⟩
    · exact ⟨(h.blk _ _ t).1,ah⟩
    · obtain ⟨h5,h6⟩:=h.blk m c y;exact ⟨h5,h6.mono hz (fun _ h=>h) j (fun _ _=>rfl) (Nat.le_refl _) h5 fun p hp ae=>a _ fun e=>h.sep m n c b0 p (b,off) y t ae z hp hi l e⟩
  · intro m m' c c' p q h1 h2 s y h5 h6 l;rcases d m c h1 with ⟨rfl,rfl⟩ | ⟨e1,k1⟩ <;> rcases d m' c' h2 with ⟨rfl,rfl⟩ | ⟨e2,k2⟩
    · exact absurd rfl l
    · exact h.sep _ _ _ _ p q t k2 z y h5 h6 l
    · exact h.sep _ _ _ _ p q k1 t s z h5 h6 l
    · exact h.sep _ _ _ _ p q k1 k2 s y h5 h6 l
  · intro m c p h1 h2 s;rcases d m c h1 with ⟨rfl,rfl⟩ | ⟨e1,k1⟩
    · exact h.out _ _ p t z s
    · exact h.out _ _ p k1 h2 s
  · intro k g;simpa using h.zs k g
  · intro k g;obtain ⟨c,e,f,hc⟩:=h.zc k g;exact ⟨c,e,f,(hz k g).trans hc⟩
  · intro k _ g;exact a k fun e=>g ⟨n,b0,off,t,z,e ▸ hi⟩
  · intro k x g;by_cases j : k = b
    · subst j;rw [hb] at g;cases g;exact ⟨v,World.putObj_heap_same (J1 hb),hd⟩
    · exact ⟨x,(a k j).trans g,rfl⟩
theorem qe3 (h : RelH w Z inj hp nx) {n : Nat} {s : List (Nat × V)} {l : List Tmp} {as d : Code} {t ls' : LoopState} {pe pe' : Option Code} (x : find hp n = some (.loop s l as d t pe)) : ∃ b r,inj n = some (b,0)∧w.heap[b]? = some (.loop r)∧
    r.state = t∧r.pending = pe∧r.params = l.toArray∧r.assign = as∧r.body = d∧(codeOk r.tmps.size as = true∧codeOk r.tmps.size d = true∧∀ p∈l,p < r.tmps.size)∧Yg w Z inj nx s r.tmps∧
    RelH (w.putObj b (.loop {r with state:=ls',pending:=pe'})) Z inj (repl hp n (.loop s l as d ls' pe')) nx∧Ext w Z inj hp (w.putObj b (.loop {r with state:=ls',pending:=pe'})) Z inj (repl hp n (.loop s l as d ls' pe')) pin:=by
  obtain ⟨y,b,tmps,D,fn,m,g,q,u⟩:=h.blk n _ x;refine ⟨b,_,m,g,rfl,rfl,rfl,rfl,rfl,q,u,?_⟩;refine qjy h x rfl m g rfl ?_ (fun _=>trivial);refine ⟨b,tmps,D,fn,m,World.putObj_heap_same (J1 g),q,?_⟩
  have o : ¬ Z b:=fun z=>by
    obtain ⟨c,e,f,v⟩:=h.zc b z;rw [g] at v;cases v
  refine u.mono (fun k j=>World.putObj_heap_other (fun e=>o (e ▸ j))) (fun _ h=>h) ?_ (fun _ _=>rfl) (Nat.le_refl _);intro k c e f j;by_cases a : k = b
  · subst a;rw [g] at j;cases j
  · exact ⟨c,e,f,(World.putObj_heap_other a).trans j,rfl⟩
theorem qt2 (h : RelH w Z inj hp nx) {n : Nat} {s : List (Nat × V)} {m : List Tmp} {as l : Code} {c : LoopState} {pe : Option Code} (g : find hp n = some (.loop s m as l c pe)) : ∃ b r,inj n = some (b,0)∧w.heap[b]? = some (.loop r)∧
    r.state = c∧r.pending = pe∧∀ a : Loop,a.defers = r.defers→RelH (w.putObj b (.loop a)) Z inj (repl hp n .dead) nx∧Ext w Z inj hp (w.putObj b (.loop a)) Z inj (repl hp n .dead) pin:=by
  obtain ⟨j,b,tmps,D,fn,f,d,o,p⟩:=h.blk n _ g;exact ⟨b,_,f,d,rfl,rfl,fun a k=>qjy h g rfl f d k trivial (fun _=>trivial)⟩
theorem qgh : ∀ (b : List V) (k t : Nat) (v : V),find (Ku k b) t = some v→k≤t∧b[t - k]? = some v
  | [],k,t,v,h=>by simp [Ku,find] at h
  | x::r,k,t,v,h=>by
    simp only [Ku,Km] at h
    split at h
    · rename_i e;subst e;cases h;simp
    · rename_i e
      obtain ⟨d,a⟩:=qgh r (k + 1) t v h
      refine ⟨q6,?_⟩
      obtain ⟨m,c⟩ : ∃ m,t - k = m + 1:=⟨t - k - 1,q6⟩
      have : t - (k + 1) = m:=by omega
      rw [this] at a
      rw [c];simpa using a
theorem qt5 {c : List V} {xs : Array Value} (n : Nat) (h : LRel w Z inj nx c xs) : Yg w Z inj nx (Ku 0 c) (xs ++ Array.replicate (n - xs.size) undef):=by
  intro t v f;obtain ⟨_,b⟩:=qgh c 0 t v f;simp at b;have a : t < xs.size:=by rw [← h.1];exact Kb b
  obtain ⟨x,d⟩:=Kv a;exact ⟨x,by rw [Array.getElem?_append_left a];exact d,h.2 t v x b d⟩
theorem qjz : ∀ (f : List Tmp) (g : List V) (xs : List Value) (s : List (Nat × V)) (tmps : Array Value),g.length = xs.length→(∀ (i : Nat) (d : V) (c : Value),g[i]? = some d→xs[i]? = some c→RelV w Z inj nx d c)→(∀ p∈f,p < tmps.size)→
    Yg w Z inj nx s tmps→Yg w Z inj nx (q1h s f g) ((f.zip xs).foldl (fun tmps (x : Tmp × Value)=>tmps.setIfInBounds x.1 x.2) tmps)∧((f.zip xs).foldl (fun tmps (x : Tmp × Value)=>tmps.setIfInBounds x.1 x.2) tmps).size = tmps.size
  | [],g,xs,s,tmps,hl,hr,hp,h=>by simpa [q1h] using h
  | p::f,[],[],s,tmps,hl,hr,hp,h=>by simpa [q1h] using h
  | p::f,v::g,x::xs,s,tmps,hl,hr,hp,h=>by
    have j:=hr 0 v x rfl rfl
    have k:=h.put j (hp p qd)
    obtain ⟨a,b⟩:=qjz f g xs _ _ (by simpa using hl) (fun i d c hd l=>hr (i + 1) d c (by simpa using hd) (by simpa using l)) (fun q m=>by simpa using hp q (by simp [m])) k
    refine ⟨by simpa [q1h] using a,by simpa using b⟩
  | p::f,[],x::xs,s,tmps,hl,hr,hp,h=>by simp at hl
  | p::f,v::g,[],s,tmps,hl,hr,hp,h=>by simp at hl
theorem qhs {fn : Func} {st : AS} {v : V} (hT : Yp P T) {w0 : World} {Z0 : Nat→Prop} {inj0 : Inj} {hp0 : List (Nat × Blk)} {R : Ending→World→Prop} (l : resV T st fn.results.toList = some v)
    (hR : ∀ x w' Z' inj',RelH w' Z' inj' st.hp st.nx→Ext w0 Z0 inj0 hp0 w' Z' inj' st.hp pin→RelV w' Z' inj' st.nx v x→R (.returned x) w') : ∀ (Ds : List Nat) (w : World) (Z : Nat→Prop) (inj : Inj) (a : Act),
      Yg w Z inj st.nx st.sl a.tmps→RelH w Z inj st.hp st.nx→Ext w0 Z0 inj0 hp0 w Z inj st.hp pin→Ds.Nodup→(∀ D∈Ds,w.heap[D]? = some (.deferred (some []))∧w0.heap.size≤D)→
      LeavesInM (Fw none) 0 P fn a.tmps R (Ds.map fun D=>{target:=.collected D,args:=#[]}) .returning w
  | [],w,Z,inj,a,hs,hh,he,_,_=>by
    obtain ⟨x,hx,hv⟩:=qt9 (a:=a) hT hh hs l
    exact ⟨x,hx,hR x w Z inj hh he hv⟩
  | D::Ds,w,Z,inj,a,hs,hh,he,hnd,hm=>by
    obtain ⟨s,al⟩:=hm D qd
    have m:=List.nodup_cons.1 hnd
    refine ⟨qd,.inl ⟨D,_,rfl,run_takeDeferred s,?_⟩⟩
    have d : ∀ k,k≠D→(w.putObj D (.deferred none)).heap[k]? = w.heap[k]?:=fun k g=>World.putObj_heap_other g
    have ac : ¬ Z D:=fun y=>by obtain ⟨c,e,f,hc⟩:=hh.zc D y;rw [s] at hc;cases hc
    have q : ¬ im st.hp inj D:=fun hi=>by rcases hh.im_obj hi with ⟨_,_,e⟩ | ⟨_,e⟩ <;> rw [s] at e <;> cases e
    have y : ∀ k,Z k→(w.putObj D (.deferred none)).heap[k]? = w.heap[k]?:=fun k g=>d k fun e=>ac (e ▸ g)
    have o : Zn w (w.putObj D (.deferred none)):=fun k c e f g=>by
      by_cases u : k = D
      · subst u;rw [s] at g;cases g
      · exact ⟨c,e,f,(d k u).trans g,rfl⟩
    refine qhs hT l hR Ds _ Z inj a (hs.mono y (fun _ h=>h) o (fun _ _=>rfl) (Nat.le_refl _)) ⟨?_,hh.sep,hh.out,fun k g=>by simpa using hh.zs k g,?_⟩ ?_ m.2 ?_
    · intro n b hn
      obtain ⟨j,t⟩:=hh.blk n b hn
      exact ⟨j,t.mono y (fun _ h=>h) o (fun _ _=>rfl) (Nat.le_refl _) j fun p hp hl=>d _ fun e=>q ⟨n,b,p.2,hn,hl,by rw [← e];exact hp⟩⟩
    · intro k g
      obtain ⟨c,e,f,hc⟩:=hh.zc k g
      exact ⟨c,e,f,(y k g).trans hc⟩
    · refine ⟨by simpa using he.size,fun b hb hi=>(d b q6).trans (he.keep b hb hi),he.imm,?_,?_,he.zin,he.zout,he.pinj,he.tape,he.os,he.output,fun x=>(qh1 (fun _ _ _=>by rw [s];simp) (fun _ _ _=>qd) x).trans (he.frz x)⟩
      · intro b c e f hb
        obtain ⟨c1,e1,f1,j,s1⟩:=he.big b c e f hb
        obtain ⟨c2,e2,f2,t,s2⟩:=o b c1 e1 f1 j
        exact ⟨c2,e2,f2,t,s2.trans s1⟩
      · intro b r hb
        obtain ⟨r1,j,s1⟩:=he.loops b r hb
        exact ⟨r1,(d b (by have:=J1 hb;omega)).trans j,s1⟩
    · intro D' z
      obtain ⟨j,t⟩:=hm D' (by simp [z])
      exact ⟨(d D' (fun e=>m.1 (e ▸ z))).trans j,t⟩
end
end Go.Am
