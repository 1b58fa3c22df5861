/- Am23 Am24 Am25 -/
import Derived.Test.YtiejlbckgihckaaK4
namespace Go.Am
open Go
variable {P : Program} {T : Tab}
section
variable {base : Nat} {w : World} {Z : Nat→Prop} {inj : Inj} {st st1 st2 : AS} {a : Act} {Ds : List Nat} {ops : Array Oper} {o : Oper}
structure Jo (ops : Array Oper) (o : Oper) (x : Fp) (st st2 : AS) : Prop where
  blk : qav x st st2
  sl : ∀ t∈reads ops o,st2.get t = st.get t
theorem Jo.ev {x : Fp} (h : Jo ops o x st st2) {y : Operand} (a : y∈o.op.operands) : st2.ev y = st.ev y:=by
  cases y with
  | tmp t=>exact h.sl t (List.mem_append_left _ (by unfold slotsOf;rw [List.mem_filterMap];exact ⟨.tmp t,by simpa using a,rfl⟩))
  | const v=>rfl
  | func f=>rfl
  | global g=>rfl
theorem Jo.guard {x : Fp} (h : Jo ops o x st st2) : Ql ops st2 o = Ql ops st o:=by
  have hs:=h.sl;unfold reads at hs;unfold Ql;grind
theorem Jo.callee {x : Fp} (h : Jo ops o x st st2) {c : Call} (d : o.op = .call c) : callee st2 c = callee st c:=by
  obtain ⟨a,args,argTypes⟩:=c;unfold Am.callee
  cases a with
  | builtin b=>rfl
  | invoke r n=>rfl
  | value f=>
    simp only;rw [h.ev (y:=f) (by rw [d];simp [Op.operands,Call.operands]),q6q (fun x g=>h.ev (y:=x) (by rw [d];simp [Op.operands,Call.operands];exact .inr (by simpa using g)))]
theorem Yn {st : AS} {d : Option Tmp} {v : V} {t : Tmp} : (st.putD d v).get t = if d = some t then some v else st.get t:=by
  cases d with
  | none=>simp [AS.putD]
  | some d=>simp only [AS.putD,AS.put,AS.get,Kj,Option.some.injEq]
theorem qdy {w : World} {Z : Nat→Prop} {inj : Inj} {nx : Nat} {fz : List Nat} {b : AS} {v : V} {x : Value} (h : RelV w Z inj nx v x) : Wv b (fun n=>n) fz [] nx v v:=by
  induction h with
  | d h=>exact .d (.refl _)
  | @agg ds cs hl _ ih=>
    exact .agg rfl fun i c d a hd=>by
      rw [a] at hd;cases hd;obtain ⟨y,g⟩:=Ky (xs:=cs) (i:=i) (by rw [← hl];exact K9 a);grind
  | @tup ds cs hl _ ih=>
    exact .tup rfl fun i c d a hd=>by
      rw [a] at hd;cases hd;obtain ⟨y,g⟩:=Ky (xs:=cs) (i:=i) (by rw [← hl];exact K9 a);grind
  | @fn f ds cs hl _ ih=>
    exact .fn rfl fun i c d a hd=>by
      rw [a] at hd;cases hd;obtain ⟨y,g⟩:=Ky (xs:=cs) (i:=i) (by rw [← hl];exact K9 a);grind
  | ref h1 h2=>exact .ref rfl qb h1
  | @dref cs j _ _ _ _ _=>exact .dref cs j
  | hsnil h1=>exact .hs rfl qb h1
  | hs h1 _ _ _=>exact .hs rfl qb h1
  | yld h1 _=>exact .yld rfl qb h1
  | mp h1 _=>exact .mp rfl qb h1
  | dead v=>exact .dead _
theorem qxh {w : World} {Z : Nat→Prop} {inj : Inj} {nx n : Nat} {fz : List Nat} {a : AS} {b : Blk} (h : RelB w Z inj nx n b) : Wb a (fun n=>n) fz [] nx b b:=by
  cases b with
  | dead=>exact .dead _
  | dat es xs=>exact .dat _ _
  | mp es=>exact .mp _
  | cel es xs=>
    obtain ⟨_,_,q⟩:=h;refine .cel rfl fun i x y f g=>?_;rw [f] at g;cases g;refine ⟨rfl,fun j c d m hd=>?_⟩;rw [m] at hd;cases hd;rcases q with ⟨rfl,_⟩ | ⟨b,o,arr,ty,_,_,r⟩
    · simp at f
    · obtain ⟨z,c',_,v⟩:=r i x j c f m;exact ⟨qdy v,z⟩
  | loop s ps assign body dn pe=>
    obtain ⟨b,tmps,D,fn,_,_,_,p⟩:=h;refine .loop fun t k l=>?_;obtain ⟨x,_,u⟩:=p t k l;exact ⟨k,l,qdy u⟩
theorem qg8 {w' : World} {Z' : Nat→Prop} {inj' : Inj} {a' : Act} {q : List Nat} {dst : Option Tmp} {n es : Nat} {xs : List (List DV)} {hp2 : List (Nat × Blk)} (u : RelS w' Z' inj' (st1.putD dst (.hs n es 0 xs.length)) a' q) (y : st1.hp = (n,.dat es xs)::hp2) (hf : find hp2 n = none) (hn : base≤n) (h4 : base≤st1.nx) :
    Wk base (fun n=>n) [n] [] (st1.putD dst (.hs n es 0 xs.length)) (({sl:=st1.sl,hp:=hp2,nx:=st1.nx} : AS).putD dst (.d (.sl es xs))):=by
  have f : (({sl:=st1.sl,hp:=hp2,nx:=st1.nx} : AS).putD dst (.d (.sl es xs))).nx = st1.nx:=Ya _ _ _;have p : (({sl:=st1.sl,hp:=hp2,nx:=st1.nx} : AS).putD dst (.d (.sl es xs))).hp = hp2:=Y9 _ _ _
  have g : ∀ m b,find hp2 m = some b→m≠n∧find (st1.putD dst (.hs n es 0 xs.length)).hp m = some b:=by
    intro m b a;have c : m≠n:=by rintro rfl;rw [hf] at a;cases a
    refine ⟨c,?_⟩;rw [Y9,y,Kj,qs (by intro e;exact c e.symm)];exact a
  refine ⟨?_,?_,?_,?_,fun _ _=>rfl,by rw [f];exact h4,fun m a=>by simp at a;omega,fun m a=>by cases a⟩
  · intro t r j;rw [f];rw [Yn] at j;by_cases l : dst = some t
    · rw [qp l] at j;cases j;refine ⟨_,by rw [Yn,qp l],.frz (k:=es) (xs:=xs) ?_ qb q6 qb rfl⟩;show find (st1.putD dst _).hp n = _;rw [Y9,y,Kj,qp rfl]
    · rw [qs l] at j;have s : (st1.putD dst (.hs n es 0 xs.length)).get t = some r:=by rw [Yn,qs l];exact j
      obtain ⟨x,_,z⟩:=u.slots t r s;rw [Ya] at z;exact ⟨r,s,qdy z⟩
  · intro m o a;rw [f];unfold AS.blk at a;rw [p] at a;obtain ⟨c,h⟩:=g m o a;obtain ⟨w,v⟩:=u.heap.blk m o h;rw [Ya] at w v;exact ⟨w,.inr ⟨qb,o,h,qxh v⟩⟩
  · omega
  · intro m b a _ hc;unfold AS.blk at a;grind
theorem qqb {w : World} {Z : Nat→Prop} {inj : Inj} {a a' : Act} {Ds : List Nat} {w' : World} {dst : Option Tmp} {n es : Nat} {xs : List (List DV)} {hp2 : List (Nat × Blk)}
    (h : Kk base w Z inj st a Ds (st1.putD dst (.hs n es 0 xs.length)) a' w') (m : st1.hp = (n,.dat es xs)::hp2) (q : find hp2 n = none) (k : base≤n) :
    Kk base w Z inj st a Ds (({sl:=st1.sl,hp:=hp2,nx:=st1.nx} : AS).putD dst (.d (.sl es xs))) a' w':=by
  obtain ⟨Z',inj',g,j,p,l,f,o⟩:=h;obtain ⟨c,b⟩:=q1b j (qg8 j m q k (by rw [Ya] at f;exact f));exact ⟨_,_,g,c,p.trans b (Nat.le_refl _),l,by rw [Ya];rw [Ya] at f;exact f,o⟩
theorem qn9 {n es : Nat} {xs : List (List DV)} {hp2 : List (Nat × Blk)} (l : Yk P T) (c : Ql ops st o = some true) (j : opFn T st o.op = some (.hs n es 0 xs.length,st1)) (f : st.nx≤n) (g : st1.hp = (n,.dat es xs)::hp2) (m : find hp2 n = none) :
    Zz P base ops o st (({sl:=st1.sl,hp:=hp2,nx:=st1.nx} : AS).putD o.dst (.d (.sl es xs))):=by
  intro ro Q w Z inj a Ds K h hd hb b k;exact qbz l c j ro Q w Z inj a Ds K h hd hb b fun a' w' hp=>k a' w' (qqb hp g m (Nat.le_trans hb f))
theorem q7k {w : World} {Z : Nat→Prop} {inj inj' : Inj} {nx : Nat} {v : V} {x : Value} (h : RelV w Z inj nx v x) (hi : ∀ n p,n < nx→inj n = some p→inj' n = some p) : RelV w Z inj' nx v x:=by
  induction h with
  | d h=>exact .d h
  | agg hl _ ih=>exact .agg hl ih
  | tup hl _ ih=>exact .tup hl ih
  | fn hl _ ih=>exact .fn hl ih
  | ref h1 h2=>exact .ref h1 (hi _ _ h1 h2)
  | dref h1 h2 h3=>exact .dref h1 h2 h3
  | hsnil h1=>exact .hsnil h1
  | hs h1 h2 hsp h3=>
    refine .hs h1 h2 hsp fun a=>?_;grind
  | yld h1 h2=>exact .yld h1 (hi _ _ h1 h2)
  | mp h1 h2=>exact .mp h1 (hi _ _ h1 h2)
  | dead v=>exact .dead v
theorem qin {w : World} {Z : Nat→Prop} {inj inj' : Inj} {nx n : Nat} {b : Blk} (h : RelB w Z inj nx n b) (hi : ∀ n p,n < nx→inj n = some p→inj' n = some p) (q : n < nx) (r : inj n = none→inj' n = none) : RelB w Z inj' nx n b:=by
  cases b with
  | dead=>trivial
  | dat es xs=>
    obtain ⟨a,g,f⟩:=h;refine ⟨a,g,?_⟩;grind
  | mp es=>
    obtain ⟨b,k,cl,a,g⟩:=h;exact ⟨b,k,cl,hi _ _ q a,g⟩
  | cel es xs=>
    obtain ⟨a,g,f⟩:=h;refine ⟨a,g,?_⟩;rcases f with ⟨f,l⟩ | ⟨b,o,arr,ty,f,l,h5⟩
    · grind
    · refine .inr ⟨b,o,arr,ty,hi _ _ q f,l,fun i x j d m hd=>?_⟩;obtain ⟨z,c,h7,y⟩:=h5 i x j d m hd;exact ⟨z,c,h7,q7k y hi⟩
  | loop s ps assign body dn pe=>
    obtain ⟨b,tmps,D,fn,a,g,f,l⟩:=h;refine ⟨b,tmps,D,fn,hi _ _ q a,g,f,fun t v ht=>?_⟩;obtain ⟨x,m,u⟩:=l t v ht;exact ⟨x,m,q7k u hi⟩
def q96 (base lo hi : Nat) (w : World) (Z : Nat→Prop) (inj : Inj) (st : AS) (a : Act) (Ds : List Nat) (st' : AS) (a' : Act) (w' : World) : Prop:=
  ∃ Z' inj' Ds',RelS w' Z' inj' st' a' Ds'∧Ext w Z inj st.hp w' Z' inj' st'.hp base∧a'.tmps.size = a.tmps.size∧(∀ D∈Ds',D∈Ds∨w.heap.size≤D)∧∀ m,m < st.nx→(m < lo∨hi≤m)→inj' m = inj m
def qax (P : Program) (base : Nat) (ops : Array Oper) (o : Oper) (st st' : AS) (lo hi : Nat) : Prop:=
  ∀ (ro : Option Nat) (Q : Exit→Act→World→Prop) (w : World) (Z : Nat→Prop) (inj : Inj) (a : Act) (Ds : List Nat) (K : Act→World→Prop),RelS w Z inj st a Ds→Zl a.tmps.size o.dst = true→base≤lo→base≤st.nx→Y7 ro w→(∀ m,lo≤m→m < hi→inj m = none)→
    (∀ a' w',q96 base lo hi w Z inj st a Ds st' a' w'→K a' w')→Jn P (Fw ro) ops Q o K a w
theorem qge {st' : AS} {lo hi : Nat} (h : Zz P st.nx ops o st st') : qax P base ops o st st' lo hi:=by
  intro ro Q w Z inj a Ds K k hd _ hb c _ l;refine h ro Q w Z inj a Ds K k hd (Nat.le_refl _) c fun a' w' hp=>l a' w' ?_;obtain ⟨Z',inj',b,f,d,g,p,j⟩:=hp;exact ⟨Z',inj',b,f,d.pin_le hb,g,j,fun m n _=>d.pinj m n⟩
theorem qit {w : World} {Z : Nat→Prop} {inj : Inj} {w' : World} {Z' : Nat→Prop} {inj' b : Inj} {N l : Nat} {v : V} {x k : Value} (h : RelV w Z inj N v x) (g : RelV w' Z' inj' l v k) (hi : ∀ m p,m < N→inj' m = some p→b m = some p) : RelV w' Z' b N v k:=by
  induction g generalizing x with
  | d g=>exact .d g
  | @agg ds cs hl _ ih=>
    cases h with | @agg _ cs0 hl0 h0=>
    refine .agg hl fun i d c hd j=>?_;grind
  | @tup ds cs hl _ ih=>
    cases h with | @tup _ cs0 hl0 h0=>
    refine .tup hl fun i d c hd j=>?_;grind
  | @fn f ds cs hl _ ih=>
    cases h with | @fn _ _ cs0 hl0 h0=>
    refine .fn hl fun i d c hd j=>?_;grind
  | ref h1 h2=>
    have a:=by cases h with | ref h1 _=>exact h1
    exact .ref a (hi _ _ a h2)
  | dref h1 h2 h3=>exact .dref h1 h2 h3
  | hsnil h1=>
    have a:=by cases h with
      | hsnil h1=>exact h1
      | hs h1 _ _ _=>exact h1
    exact .hsnil a
  | hs h1 h2 hsp h3=>
    have a:=by cases h with
      | hsnil h1=>exact h1
      | hs h1 _ _ _=>exact h1
    refine .hs a h2 hsp fun j=>?_;grind
  | yld h1 h2=>
    have a:=by cases h with | yld h1 _=>exact h1
    exact .yld a (hi _ _ a h2)
  | mp h1 h2=>
    have a:=by cases h with | mp h1 _=>exact h1
    exact .mp a (hi _ _ a h2)
  | dead v=>exact .dead v
theorem qrd {w : World} {Z : Nat→Prop} {inj : Inj} {w' : World} {Z' : Nat→Prop} {inj' a : Inj} {N N' n : Nat} {b : Blk} (h : RelB w Z inj N n b) (r : RelB w' Z' inj' N' n b) (hi : ∀ m p,m < N→inj' m = some p→a m = some p) (z : a n = inj' n) : RelB w' Z' a N n b:=by
  cases b with
  | dead=>trivial
  | dat es xs=>
    obtain ⟨f,k,g⟩:=r;refine ⟨f,k,?_⟩;grind
  | mp es=>
    obtain ⟨b,q,cl,f,k⟩:=r;exact ⟨b,q,cl,z.trans f,k⟩
  | cel es xs=>
    obtain ⟨f,k,g⟩:=r;refine ⟨f,k,?_⟩;rw [z];rcases g with g | ⟨b,o,arr,ty,g,u,h5⟩
    · grind
    · refine .inr ⟨b,o,arr,ty,g,u,fun i x j d l hd=>?_⟩;obtain ⟨h6,c,h7,h8⟩:=h5 i x j d l hd;obtain ⟨_,_,k3⟩:=h;rcases k3 with ⟨rfl,_⟩ | ⟨_,_,_,_,_,_,k5⟩
      · simp at l
      · obtain ⟨_,c0,_,k8⟩:=k5 i x j d l hd;exact ⟨h6,c,h7,qit k8 h8 hi⟩
  | loop s ps assign body dn pe=>
    obtain ⟨b,tmps,D,fn,f,k,g,u⟩:=r;obtain ⟨_,_,_,_,_,_,_,k4⟩:=h;refine ⟨b,tmps,D,fn,z.trans f,k,g,fun t v ht=>?_⟩;obtain ⟨x,l,hr⟩:=u t v ht;obtain ⟨x0,_,y⟩:=k4 t v ht;exact ⟨x,l,qit y hr hi⟩
theorem qgd {mk : Nat→V} {es q : Nat} {xs : List (List DV)} {f : List (Nat × Blk)} (hT : Yk P T) (hg : Ql ops st o = some true) (hk : (∃ es,mk = fun n=>.ref n es 0 0)∨(∃ es l,mk = fun n=>.hs n es 0 l)∨(mk = fun n=>.mp n))
    (ho : opFn T st o.op = some (mk st.nx,⟨st.sl,(st.nx,.dat es xs)::f,st.nx + 1⟩)) (hq : q < st.nx) (au : find st.hp q = none) (hold : ∀ m c,find f m = some c→c = .dead∨find st.hp m = some c) (af : ∀ m,find st.hp m = none→find f m = none) :
    qax P base ops o st (({sl:=st.sl,hp:=(q,.dat es xs)::f,nx:=st.nx} : AS).putD o.dst (mk q)) q (q + 1):=by
  intro ro Q w Z inj a Ds K h hd br hb _ ai hK;have ap : inj q = none:=ai q (Nat.le_refl _) q6;unfold Jn;rw [q2q h hg];simp only [if_true];refine ⟨fun _ _=>trivial,?_⟩;rw [show (Fw ro).round = ro from rfl,Oper.semAt_eq ro _ o (qhy ho)];obtain ⟨x,w',inj',hr,hv,hh,j,-,-⟩:=qhz hT h ho;simp only at hv hh j;obtain ⟨d,ak⟩ : ∃ d : Inj,d = fun m=>if m = q then inj' st.nx else inj' m:=⟨_,rfl⟩
  have ae : d q = inj' st.nx:=by rw [ak];simp
  have ab : ∀ m,m≠q→d m = inj' m:=fun m g=>by rw [ak];simp [g]
  have hi : ∀ m p,m < st.nx→inj' m = some p→d m = some p:=fun m p g hp=>by
    by_cases k : m = q
    · subst k;rw [j.pinj m g,ap] at hp;cases hp
    grind
  have al : ∀ m c,find f m = some c→m < st.nx:=fun m c g=>by
    cases hf : find st.hp m with
    | none=>rw [af m hf] at g;cases g
    | some b=>exact (h.heap.blk m b hf).1
  have bm : ∀ m c,find f m = some c→m≠q:=fun m c g e=>by grind
  have up : ∀ m c,find f m = some c→find ((st.nx,Blk.dat es xs)::f) m = some c:=fun m c g=>by
    rw [Kj,qs (by have:=al m c g;omega)];exact g
  have aj : find ((st.nx,Blk.dat es xs)::f) st.nx = some (.dat es xs):=by rw [Kj,qp rfl]
  have back : ∀ m c,find ((q,Blk.dat es xs)::f) m = some c→∃ u,find ((st.nx,Blk.dat es xs)::f) u = some c∧d m = inj' u∧((m = q∧u = st.nx)∨(m≠q∧u = m)):=by
    intro m c g;rw [Kj] at g;grind
  have hH : RelH w' Z d ((q,Blk.dat es xs)::f) st.nx:=by
    refine ⟨fun m c g=>?_,fun m n b c p r h1 z h3 h4 h5 h6 av=>?_,fun m b p h1 z h3=>?_,hh.zs,hh.zc⟩
    · rw [Kj] at g;by_cases k : q = m
      · subst k;rw [qp rfl] at g;cases g;refine ⟨hq,?_⟩;obtain ⟨_,k1,k2,k3⟩:=hh.blk st.nx _ aj;exact ⟨k1,k2,by rw [ae];exact k3⟩
      · rw [qs k] at g;refine ⟨al m c g,?_⟩;rcases hold m c g with rfl | ax
        · trivial
        · exact qrd (h.heap.blk m c ax).2 (hh.blk m c (up m c g)).2 hi (ab m (Ne.symm k))
    · obtain ⟨u,a1,a2,a3⟩:=back m b h1;obtain ⟨n',b1,b2,b3⟩:=back n c z;refine hh.sep u n' b c p r a1 b1 h3 h4 (a2 ▸ h5) (b2 ▸ h6) ?_;rcases a3 with ⟨rfl,rfl⟩ | ⟨a3,rfl⟩ <;> rcases b3 with ⟨rfl,rfl⟩ | ⟨b3,rfl⟩
      · omega
      · intro e;have : find f n' = some c:=by rw [Kj,qs (Ne.symm b3)] at z;exact z
        grind
      · intro e;have : find f u = some b:=by rw [Kj,qs (Ne.symm a3)] at h1;exact h1
        grind
      · exact av
    · obtain ⟨u,a1,a2,_⟩:=back m b h1;exact hh.out u b p a1 z (a2 ▸ h3)
  have hE : Ext w Z inj st.hp w' Z d ((q,Blk.dat es xs)::f) base:=by
    refine ⟨j.size,j.keep,?_,j.big,j.loops,j.zin,j.zout,fun n hn=>?_,j.tape,j.os,j.output,j.frz⟩
    · rintro b ⟨m,c,off,g1,g2,g3⟩;obtain ⟨u,a1,a2,_⟩:=back m c g1;exact j.imm b ⟨u,c,off,a1,g2,a2 ▸ g3⟩
    · rw [ab n q6];exact j.pinj n q6
  have hV : RelV w' Z d st.nx (mk q) x:=by
    rcases hk with ⟨es,rfl⟩ | ⟨es,l,rfl⟩ | rfl
    rotate_right
    · cases hv with | mp h1 z=>exact .mp hq (ae.trans z)
    · cases hv with | ref h1 z=>exact .ref hq (ae.trans z)
    · cases hv with
      | hsnil h1=>exact .hsnil hq
      | hs h1 z hsp h3=>
        refine .hs hq z hsp fun hc=>?_;grind
  have hS : Yc w' Z d st.nx st.sl a.tmps:=fun t v ht=>by
    obtain ⟨y,hy,hr⟩:=h.slots t v ht;exact ⟨y,hy,q7k (hr.mono (j.zkeep h.heap) j.zin j.big j.pinj (Nat.le_refl _)) hi⟩
  have s : q96 base q (q + 1) w Z inj st a Ds (({sl:=st.sl,hp:=(q,.dat es xs)::f,nx:=st.nx} : AS).putD o.dst (mk q)) (a.put o.dst x) w':=by
    refine ⟨Z,d,Ds,?_,by rw [Y9];exact hE,qi9 _ _ _,fun _ h=>.inl h,fun m g k=>?_⟩
    · generalize az : o.dst = dst at hd
      cases dst with
      | none=>exact ⟨hS,hH,h.defs,h.nodup,fun D hD=>j.marks h.heap (h.marks D hD)⟩
      | some t=>exact ⟨hS.put hV (qfi hd),hH,h.defs,h.nodup,fun D hD=>j.marks h.heap (h.marks D hD)⟩
    · rw [ab m q6];exact j.pinj m g
  rcases hr with hr | ⟨hr,rfl⟩
  · rw [hr];exact hK _ _ s
  · rw [hr];exact hK _ _ s
theorem qqa {w : World} {Z : Nat→Prop} {inj : Inj} {a a' : Act} {Ds : List Nat} {w' : World} {dst : Option Tmp} {n es lo hi : Nat} {xs : List (List DV)} {hp2 : List (Nat × Blk)} (f : base≤st1.nx)
    (h : q96 base lo hi w Z inj st a Ds (st1.putD dst (.hs n es 0 xs.length)) a' w') (r : st1.hp = (n,.dat es xs)::hp2) (u : find hp2 n = none) (q : base≤n) :
    q96 base lo hi w Z inj st a Ds (({sl:=st1.sl,hp:=hp2,nx:=st1.nx} : AS).putD dst (.d (.sl es xs))) a' w':=by
  obtain ⟨Z',inj',b,j,p,o,l,s⟩:=h;have hp : Kk base w Z inj st a Ds (st1.putD dst (.hs n es 0 xs.length)) a' w':=⟨Z',inj',b,j,p,o,by rw [Ya];exact f,l⟩
  obtain ⟨g,c⟩:=q1b j (qg8 j r u q f);refine ⟨_,_,b,g,p.trans c (Nat.le_refl _),o,l,fun m t k=>?_⟩;rw [← s m t k];simp [wkI]
structure J1 (P : Program) (ops : Array Oper) (o : Oper) (x : Fp) (st st1 : AS) : Prop where
  nx : st.nx≤st1.nx
  sl : ∀ t,o.dst≠some t→st1.get t = st.get t
  hp : ∀ m,m ∉ x.2→find st1.hp m = find st.hp m
  keys : ∀ m,st1.nx≤m→find st.hp m = none→find st1.hp m = none
  fresh : ∀ m,st.nx≤m→m < st1.nx→m∈x.2
  other : ∀ st2,st1.nx≤st2.nx→Jo ops o x st st2→(∀ m,st.nx≤m→m < st1.nx→find st2.hp m = none)→∃ st3,st3.nx = st2.nx∧(∀ base,qax P base ops o st2 st3 st.nx st1.nx)∧
    (∀ t,o.dst≠some t→st3.get t = st2.get t)∧(∀ t,o.dst = some t→st3.get t = st1.get t)∧(∀ m∈x.2,find st3.hp m = find st1.hp m)∧(∀ m,m ∉ x.2→find st3.hp m = find st2.hp m)
theorem qdu : ∀ {b : List Nat} {n : Nat},hasN b n = true→n∈b
  | a::r,n,h=>by
    simp only [hasN,Bool.or_eq_true] at h
    rcases h with h | h
    · rw [Nat.eq_of_beq_eq_true h];simp
    · exact List.mem_cons_of_mem _ (qdu h)
theorem qha : ∀ {b : List Nat} {n : Nat},n∈b→hasN b n = true
  | a::r,n,h=>by
    simp only [hasN,Bool.or_eq_true]
    rcases List.mem_cons.1 h with rfl | h
    · left;exact Nat.beq_refl _
    · exact .inr (qha h)
theorem qg6 (y : Fp) : fpLe (some [],[]) y = true:=by
  unfold fpLe;cases y.1 <;> rfl
theorem J1.mono {x y : Fp} (h : J1 P ops o x st st1) (j : fpLe x y = true) : J1 P ops o y st st1:=by
  simp only [fpLe,Bool.and_eq_true,subN,List.all_eq_true] at j;obtain ⟨t,d⟩:=j;have c : ∀ m∈x.2,m∈y.2:=fun m a=>qdu (t m a);refine ⟨h.nx,h.sl,fun m a=>h.hp m fun e=>a (c m e),h.keys,fun m b hb=>c m (h.fresh m b hb),fun st2 p b u=>?_⟩
  have f : Jo ops o x st st2:=by
    refine ⟨⟨fun m a=>b.blk.1 m (c m a),?_⟩,b.sl⟩;have hb:=b.blk.2;revert d hb
    cases y.1 with
    | none=>grind
    | some r=>
      cases x.1 with
      | none=>simp
      | some r'=>
        intro d hb m a;exact hb m (qdu (by simpa using List.all_eq_true.1 d m a))
  obtain ⟨g,n,v,s,q,w,k⟩:=h.other st2 p f u;refine ⟨g,n,v,s,q,fun m a=>?_,fun m a=>k m fun e=>a (c m e)⟩;by_cases l : m∈x.2
  · grind
  · rw [k m l,h.hp m l];exact b.blk.1 m a
theorem qjv {v : V} {x : Fp} (d : x.2 = []) (a : ∀ st2,Jo ops o x st st2→Zz P st2.nx ops o st2 (st2.putD o.dst v)) : J1 P ops o x st (st.putD o.dst v):=by
  refine ⟨by rw [Ya];exact Nat.le_refl _,fun t h=>by rw [Yn,qs h],fun m _=>by rw [Y9],fun m _ h=>by rw [Y9];exact h,fun m f a=>by rw [Ya] at a;omega,fun st2 g c _=>?_⟩;refine ⟨st2.putD o.dst v,Ya _ _ _,fun base=>qge (a st2 c),fun t h=>by rw [Yn,qs h],fun t h=>by rw [Yn,Yn,qp h,qp h],fun m b=>(by rw [d] at b;cases b),fun m _=>by rw [Y9]⟩
theorem qww (a : Ql ops st o = some false) : J1 P ops o (some [],[]) st (st.putD o.dst (.d (.tup []))):=
  qjv rfl fun _ b=>qgg (b.guard.trans a)
theorem qma {b : Blk} {n : Nat} {sl : List (Nat × V)} {hp1 : List (Nat × Blk)} {v : V} {op : Op} (c : opFn T st op = some (v,⟨sl,(st.nx,b)::hp1,n + 1⟩)) (f : st.nx = n) (h : q2m st op ⟨sl,(st.nx,b)::hp1,n + 1⟩ = true) : ∃ es xs,b = .dat es xs:=by
  by_cases d : touch op = 2
  · simp only [q2m,d] at h
    cases b with
    | dat es xs=>exact ⟨es,xs,rfl⟩
    | _=>simp at h
  · have a : touch op≤1:=by
      have : touch op≤2:=by unfold touch;split <;> omega
      omega
    have g:=(qd1 (st2:=st) c a (fun _=>rfl) (fun _ _=>rfl)).1;grind
theorem qwu {v : V} (z : Yk P T) (u : Ql ops st o = some true) (y : opFn T st o.op = some (v,st1)) (hd : q2m st o.op st1 = true) : J1 P ops o (fp st o.op) st (st1.putD o.dst v):=by
  cases qhu y with
  | calm hsl hnx hhp hnone hall=>
    have g : ∀ t,st1.get t = st.get t:=fun t=>by unfold AS.get;rw [hsl]
    refine ⟨by rw [Ya];omega,fun t h=>by rw [Yn,qs h,g],fun m a=>by rw [Y9];exact hhp m a,fun m _ h=>by rw [Y9];exact hnone m h,fun m k q=>by rw [Ya] at q;omega,fun st2 l c _=>?_⟩;obtain ⟨f,p,n,j⟩:=hall st2 (fun x r=>c.ev r) c.blk;refine ⟨(⟨st2.sl,f,st2.nx⟩ : AS).putD o.dst v,Ya _ _ _,fun base=>qge (qbz z (c.guard.trans u) p),fun t h=>by rw [Yn,qs h];rfl,fun t h=>by rw [Yn,Yn,qp h,qp h],fun m a=>?_,fun m a=>?_⟩
    · rw [Y9,Y9];exact n m a
    · rw [Y9];exact j m a
  | new mk b hp1 hk hv k hmem hhp hnone hall=>
    subst k;obtain ⟨es,xs,rfl⟩:=qma y rfl hd;refine ⟨by rw [Ya];exact Nat.le_succ _,fun t h=>by rw [Yn,qs h];rfl,fun m a=>?_,fun m a h=>?_,fun m k q=>?_,fun st2 l c s=>?_⟩
    · rw [Y9,Kj,qs (by rintro rfl;exact a hmem)];exact hhp m a
    · rw [Ya] at a;rw [Y9,Kj,qs (by simp only at a;omega)];exact hnone m h
    · rw [Ya] at q;grind
    · rw [Ya] at l s ⊢;simp only at l s;obtain ⟨f,p,n,j,k4⟩:=hall st2 (fun x r=>c.ev r) c.blk;have d:=s st.nx (Nat.le_refl _) q6;refine ⟨(⟨st2.sl,(st.nx,.dat es xs)::f,st2.nx⟩ : AS).putD o.dst (mk st.nx),Ya _ _ _,fun base=>qgd z (c.guard.trans u) hk p q6 d k4 (fun m a=>?_),fun t h=>by rw [Yn,qs h];rfl,fun t h=>by rw [Yn,Yn,qp h,qp h,hv],fun m a=>?_,fun m a=>?_⟩
      · by_cases w : m∈(fp st o.op).2
        · rw [n m w];refine hnone m ?_;rw [← c.blk.1 m w];exact a
        grind
      · rw [Y9,Y9,Kj,Kj];grind
      · rw [Y9,Kj,qs (by rintro rfl;exact a hmem)];exact j m a
theorem qwv {n es : Nat} {xs : List (List DV)} {hp2 : List (Nat × Blk)} (hT : Yk P T) (hg : Ql ops st o = some true) (ho : opFn T st o.op = some (.hs n es 0 xs.length,st1)) (q : n = st.nx∧st1.nx = n + 1) (v : st1.hp = (n,.dat es xs)::hp2) (hf : find hp2 n = none) :
    J1 P ops o (fp st o.op) st (({sl:=st1.sl,hp:=hp2,nx:=st1.nx} : AS).putD o.dst (.d (.sl es xs))):=by
  obtain ⟨rfl,ag⟩:=q
  cases qhu ho with
  | calm hsl hnx hhp hnone hall=>omega
  | new mk b hp1 hk hv y hmem hhp hnone hall=>
    subst y;simp only [List.cons.injEq,Prod.mk.injEq,true_and] at v;obtain ⟨rfl,rfl⟩:=v;refine ⟨by rw [Ya];exact Nat.le_succ _,fun t h=>by rw [Yn,qs h];rfl,fun m g=>by rw [Y9];exact hhp m g,fun m g h=>by rw [Y9];exact hnone m h,fun m y h2=>?_,fun st2 q r j=>?_⟩
    · rw [Ya] at h2;grind
    · rw [Ya] at q j ⊢;simp only at q j;obtain ⟨k,k1,z,k3,k4⟩:=hall st2 (fun x hx=>r.ev hx) r.blk;have c:=j st.nx (Nat.le_refl _) q6
      have f : ∀ m,find st2.hp m = none→find k m = none:=fun m g=>by
        by_cases u : m∈(fp st o.op).2
        · rw [z m u];refine hnone m ?_;rw [← r.blk.1 m u];exact g
        grind
      refine ⟨(⟨st2.sl,k,st2.nx⟩ : AS).putD o.dst (.d (.sl es xs)),Ya _ _ _,fun base=>?_,fun t h=>by rw [Yn,qs h];rfl,fun t h=>by rw [Yn,Yn,qp h,qp h],fun m g=>by rw [Y9,Y9];exact z m g,fun m g=>by rw [Y9];exact k3 m g⟩;intro ro Q w Z inj a Ds K h hd p hb s l hK;refine qgd (base:=base) hT (r.guard.trans hg) hk k1 q6 c k4 f ro Q w Z inj a Ds K h hd p hb s l fun a' w' hp=>hK a' w' ?_;rw [← hv] at hp;exact qqa (st1:=⟨st2.sl,(st.nx,.dat es xs)::k,st2.nx⟩) hb hp rfl (f _ c) p
theorem qx8 {hp hp2 : List (Nat × Blk)} (h : ∀ m,find hp2 m = find hp m) : ∀ k,toD hp2 k = toD hp k:=by
  intro k
  induction k with
  | zero=>funext v;cases v <;> rfl
  | succ k ih=>funext v;cases v <;> simp only [toD,ih,h]
theorem qea {hp hp2 : List (Nat × Blk)} (h : ∀ m,find hp2 m = find hp m) : ∀ {a : List V},Kh hp2 a = Kh hp a
  | []=>rfl
  | v::r=>by simp only [Kh,qx8 h,qea h]
theorem qeb {hp hp2 : List (Nat × Blk)} : ∀ {a : List V},a.all V.isD = true→Kh hp2 a = Kh hp a
  | [],_=>rfl
  | v::r,h=>by
    simp only [List.all_cons,Bool.and_eq_true] at h
    have e : toD hp2 8 v = toD hp 8 v:=by
      cases v <;> first | rfl | (simp [V.isD] at h;done)
    rw [Kh,Kh,e,qeb (hp:=hp) (hp2:=hp2) h.2]
theorem qwt {c : Call} {f : FuncId} {b : List V} {ds : List DV} {v : V} {hp' : List (Nat × Blk)} {nx' : Nat} {n r : DV} (p : Ql ops st o = some true) (m : o.op = .call c) (q : callee st c = some (f,b))
    (k : Kh st.hp b = some ds) (a : Zx P f (ds.map .d) [] 0 v hp' nx') (j : toD hp' 8 v = some n) (l : DLe n r) (hs : b.all V.isD = true∨r.scalar = true) : J1 P ops o (fpC b) st (st.putD o.dst (.d r)):=by
  refine qjv (by unfold fpC;cases b.all V.isD <;> rfl) fun st2 g=>qgf (g.guard.trans p) m ((g.callee m).trans q) ?_ a j l hs;rw [← k];by_cases hd : b.all V.isD = true
  · exact qeb hd
  · have h:=g.blk.2;simp only [fpC,hd,qv] at h;exact qea h
theorem qn7 {ops : Array Oper} {o : Oper} {c : Call} {f : FuncId} {vs ba : List V} {hp0 hp' aq ax : List (Nat × Blk)} {k k' ao : Nat} {v' vN : V} {ρ ρ3 : Nat→Nat} {ci am : List Nat} (hg : Ql ops st o = some true) (ho : o.op = .call c) (hc : callee st c = some (f,vs)) (bz : vs.length = ba.length)
    (cd : Wk 0 ρ [] [] {sl:=Kv 0 vs,hp:=st.hp,nx:=st.nx} {sl:=Kv 0 ba,hp:=hp0,nx:=k}) (an : Zx P f ba hp0 k v' hp' k') (bt : Wk 0 ρ3 ci am {sl:=[(0,v')],hp:=hp',nx:=k'} {sl:=[(0,vN)],hp:=aq,nx:=ao})
    (hb : Back ρ ρ3 am k k' st.nx ao st.hp aq ax) : Zz P base ops o st ({sl:=st.sl,hp:=ax,nx:=ao : AS}.putD o.dst vN):=by
  intro ro Q w Z inj a Ds K h hd bh _ hK;unfold Jn;rw [q2q h hg];simp only [if_true];refine ⟨fun _ _=>trivial,?_⟩;obtain ⟨xs,hr,hl⟩:=qb8 h ho hc an.1;rw [show (Fw ro).round = ro from rfl,Oper.semAt_eq ro _ o (by rintro c' h';rw [ho] at h';cases h'),hr,Oper.uponIn_enter];refine ⟨fun h=>by simp [Fw] at h,?_⟩
  have bg : RelS w Z inj {sl:=Kv 0 vs,hp:=st.hp,nx:=st.nx} {a with tmps:=xs,defers:=[]} []:=by
    refine ⟨fun t v ht=>?_,h.heap,rfl,List.nodup_nil,qb⟩;rw [q9c] at ht;simp only [Nat.zero_le,if_true,Nat.sub_zero] at ht;obtain ⟨y,hy⟩:=Ky (xs:=xs) (i:=t) (by rw [← hl.1];exact K9 ht);exact ⟨y,hy,hl.2 t v y ht hy⟩
  obtain ⟨bv,aj⟩:=q1b bg cd
  have cs : LRel w (wkZ Z inj {sl:=Kv 0 vs,hp:=st.hp,nx:=st.nx} []) (wkI inj ρ []) k ba xs:=by
    refine ⟨by rw [← bz];exact hl.1,fun i d y cr df=>?_⟩;obtain ⟨y',cl,hr⟩:=bv.slots i d (by rw [q9c];simpa using cr);rw [df] at cl;cases cl;exact hr
  refine CallsIn.mono (an.2 w _ _ xs bv.heap cs) ?_;rintro e w' ⟨x,Z',inj',rfl,hh,cb,hv,hn⟩;obtain ⟨s,ag⟩ : ∃ s : Inj,s = fun n=>if n < k' then inj' n else none:=⟨_,rfl⟩
  have ac : ∀ n,n < k'→s n = inj' n:=fun n hn=>by rw [ag];simp [hn]
  have ct : RelH w' Z' s hp' k':=by
    refine ⟨fun n b hb=>?_,fun n m b c p q l j u h4 h5 h6=>?_,fun n b p l j u=>?_,hh.zs,hh.zc⟩
    · obtain ⟨k1,k2⟩:=hh.blk n b hb;exact ⟨k1,qin k2 (fun m p hm hp=>(ac m hm).trans hp) k1 (fun hp=>(ac n k1).trans hp)⟩
    · rw [ac n (hh.blk n b l).1] at h5;rw [ac m (hh.blk m c j).1] at h6;exact hh.sep n m b c p q l j u h4 h5 h6
    · rw [ac n (hh.blk n b l).1] at u;exact hh.out n b p l j u
  have dc : RelV w' Z' s k' v' x:=q7k hv fun n p hn hp=>(ac n hn).trans hp
  have bj : ∀ b,im hp' s b→im hp' inj' b:=by
    rintro b ⟨n,blk,o,l,j,u⟩;exact ⟨n,blk,o,l,j,by rw [← ac n (hh.blk n blk l).1];exact u⟩
  have bl : RelS w' Z' s {sl:=[(0,v')],hp:=hp',nx:=k'} {a with tmps:=#[x],defers:=[]} []:=by
    refine ⟨fun t v ht=>?_,ct,rfl,List.nodup_nil,qb⟩;rw [Kj] at ht;split at ht
    · rename_i e;subst e;cases ht;exact ⟨x,rfl,dc⟩
    · simp [find] at ht
  obtain ⟨ad,ah⟩:=q1b bl bt;generalize dn : wkZ Z' s {sl:=[(0,v')],hp:=hp',nx:=k'} ci = Z3 at ad ah;generalize ch : wkI s ρ3 am = z at ad ah
  have cu : RelV w' Z3 z ao vN x:=by
    obtain ⟨y,hy,hr⟩:=ad.slots 0 vN (by simp [find]);simp at hy;subst hy;exact hr
  have bd : ∀ i,i < k→inj' i = inj (ρ i):=fun i hi=>by rw [cb.pinj i hi];simp [wkI]
  have bs : ∀ m,m < st.nx→∀ p,z m = some p→inj m = some p:=by
    intro m hm p hp;have bb : m ∉ am:=fun hc=>by have:=hb.phn m hc;omega
    rw [← ch] at hp;simp only [wkI,bb,if_false] at hp;rcases hb.snd m hm with ⟨l,j⟩ | l
    · rw [ag] at hp;simp only [show ρ3 m < k' by omega,if_true] at hp;rw [bd _ l,j] at hp;exact hp
    · rw [ag] at hp;simp [show ¬ ρ3 m < k' by omega] at hp
  obtain ⟨r,af⟩ : ∃ r : Inj,r = fun m=>if m < st.nx then inj m else z m:=⟨_,rfl⟩
  have aa : ∀ m,m < st.nx→r m = inj m:=fun m hm=>by rw [af];simp [hm]
  have cm : ∀ m p,z m = some p→r m = some p:=fun m p hp=>by
    by_cases hm : m < st.nx
    · rw [aa m hm];exact bs m hm p hp
    · rw [af];simp [hm,hp]
  have hR : ∀ m b,find aq m = some b→∀ p,r m = some p→z m = some p:=by
    intro m b bk p hp;by_cases hm : m < st.nx
    · rw [aa m hm] at hp;have bb : m ∉ am:=fun hc=>by have:=hb.phn m hc;omega
      obtain ⟨_,j⟩:=bt.blocks m b bk;rcases j with ⟨j,_⟩ | ⟨_,b0,u,_⟩
      · exact absurd j bb
      · have cy:=(hh.blk _ _ u).1;rcases hb.snd m hm with ⟨k1,k2⟩ | k1
        · rw [← ch];simp only [wkI,bb,if_false];rw [ac _ q6,bd _ k1,k2];exact hp
        · omega
    · rw [af] at hp;simpa [hm] using hp
  have hE : Ext w (wkZ Z inj {sl:=Kv 0 vs,hp:=st.hp,nx:=st.nx} []) (wkI inj ρ []) hp0 w' Z' inj' hp' 0:=cb.pin_le (Nat.zero_le _)
  have dd : ∀ b,im aq z b→im st.hp inj b∨w.heap.size≤b:=by
    intro b cv;rcases ah.imm b cv with l | l
    · rcases hE.imm b (bj b l) with j | j
      · exact aj.imm b j
      · exact .inr j
    · exact .inr (Nat.le_trans hE.size l)
  have keep : ∀ b,b < w.heap.size→¬ im hp0 (wkI inj ρ []) b→w'.heap[b]? = w.heap[b]?:=fun b cx cw=>hE.keep b cx cw
  have ar : ∀ m b p,find st.hp m = some b→live b = true→inj m = some p→(∀ i,i < k→ρ i≠m)→¬ im hp0 (wkI inj ρ []) p.1:=by
    rintro m b p l j u h4 ⟨i,blk,o,g1,g2,g3⟩;obtain ⟨j1,j2⟩:=cd.blocks i blk g1;rcases j2 with ⟨j2,_⟩ | ⟨_,b0,j3,j4⟩
    · cases j2
    · have cz : inj (ρ i) = some (p.1,o):=by simpa [wkI] using g3
      exact h.heap.sep (ρ i) m b0 b _ p j3 l (qk5 j4 g2) j cz u (h4 i j1) rfl
  have hZ : ∀ b,Z b→Z3 b:=fun b hz=>ah.zin b (hE.zin b (aj.zin b hz))
  have cc : ∀ b,Z3 b→Z b∨im hp0 (wkI inj ρ []) b∨w.heap.size≤b:=by
    intro b hz;rcases ah.zout b hz with l | l | l
    · rcases hE.zout b l with j | j | j
      · rcases aj.zout b j with u | u | u
        · exact .inl u
        · rcases j with j | ⟨n,hn,_⟩
          · exact .inl j
          · cases hn
        · exact .inr (.inr u)
      · exact .inr (.inl j)
      · exact .inr (.inr j)
    · rcases hE.imm b (bj b l) with j | j
      · exact .inr (.inl j)
      · exact .inr (.inr j)
    · exact .inr (.inr (Nat.le_trans hE.size l))
  have bf : Za w w':=hE.big;have az : q95 w w':=hE.loops
  have cf : Ext w Z inj st.hp w' Z3 r ax st.nx:=by
    refine ⟨hE.size,fun b l j=>keep b l (fun u=>(aj.imm b u).elim j (fun h4=>q6)),?_,bf,az,hZ,?_,aa,hE.tape,hE.os,hE.output,hE.frz⟩
    · rintro b ⟨m,blk,o,g1,g2,g3⟩;rcases hb.old m blk g1 with g4 | ⟨g4,_⟩
      · exact dd b ⟨m,blk,o,g4,g2,hR m blk g4 _ g3⟩
      · exact .inl ⟨m,blk,o,g4,g2,by rw [← aa m (h.heap.blk m blk g4).1];exact g3⟩
    · intro b hz;rcases cc b hz with l | l | l
      · exact .inl l
      · exact .inr ((aj.imm b l).imp (fun x=>x) (fun x=>x))
      · exact .inr (.inr l)
  have hH : RelH w' Z3 r ax ao:=by
    refine ⟨fun m b bk=>?_,fun m n b c p q l j u h4 h5 h6 ce=>?_,fun m b p l j u hz=>?_,ad.heap.zs,ad.heap.zc⟩
    · rcases hb.old m b bk with g | ⟨g,gi⟩
      · obtain ⟨k1,k2⟩:=ad.heap.blk m b g;refine ⟨k1,qin k2 (fun n p _ hp=>cm n p hp) k1 fun hp=>?_⟩
        cases hq : r m with
        | none=>rfl
        | some p=>rw [hR m b g p hq] at hp;cases hp
      · obtain ⟨k1,k2⟩:=h.heap.blk m b g;refine ⟨Nat.lt_of_lt_of_le k1 hb.nxs,k2.mono (fun b' hz=>?_) hZ bf (fun n hn=>aa n hn) hb.nxs k1 fun p hp ca=>?_⟩
        · refine keep b' (h.heap.zs b' hz) fun hi=>?_;rcases aj.imm b' hi with l | l
          · exact h.heap.z_im hz l
          · have:=h.heap.zs b' hz;omega
        · exact keep _ (h.heap.im_lt ⟨m,b,p.2,g,ca,hp⟩) (ar m b p g ca hp gi)
    · have ap : ∀ (m n : Nat) (b c : Blk) (p q : Nat × Nat),find aq m = some b→live b = true→r m = some p→find st.hp n = some c→live c = true→r n = some q→(∀ i,i < k→ρ i≠n)→p.1≠q.1:=by
        intro m n b c p q l u h5 j h4 h6 hn e;have hq : inj n = some q:=by rw [← aa n (h.heap.blk n c j).1];exact h6
        have cy:=h.heap.im_lt (b:=q.1) ⟨n,c,q.2,j,h4,hq⟩;rcases ah.imm p.1 ⟨m,b,p.2,l,u,hR m b l p h5⟩ with g1 | g1
        · rcases hE.imm p.1 (bj _ g1) with g2 | g2
          · exact ar n c q j h4 hq hn (e ▸ g2)
          · omega
        · have:=hE.size;omega
      rcases hb.old m b l with g | ⟨g,gi⟩ <;> rcases hb.old n c j with g' | ⟨g',de⟩
      · exact ad.heap.sep m n b c p q g g' u h4 (hR m b g p h5) (hR n c g' q h6) ce
      · exact ap m n b c p q g u h5 g' h4 h6 de
      · exact fun e=>ap n m c b q p g' h4 h6 g u h5 gi e.symm
      · exact h.heap.sep m n b c p q g g' u h4 (by rw [← aa m (h.heap.blk m b g).1];exact h5) (by rw [← aa n (h.heap.blk n c g').1];exact h6) ce
    · rcases hb.old m b l with g | ⟨g,gi⟩
      · exact ad.heap.out m b p g j (hR m b g p u) hz
      · have hq : inj m = some p:=by rw [← aa m (h.heap.blk m b g).1];exact u
        rcases cc p.1 hz with h4 | h4 | h4
        · exact h.heap.out m b p g j hq h4
        · exact ar m b p g j hq gi h4
        · have:=h.heap.im_lt (b:=p.1) ⟨m,b,p.2,g,j,hq⟩;omega
  exact hK _ _ (q2x h bh cf hH hb.nxs (q7k cu fun n p _ hp=>cm n p hp) hd)
theorem qwx {c : Call} {f : FuncId} {b : List V} {v : V} {hp' : List (Nat × Blk)} {nx' : Nat} (d : Ql ops st o = some true) (g : o.op = .call c) (h : callee st c = some (f,b)) (a : Zx P f b st.hp st.nx v hp' nx') :
    Zz P base ops o st ({sl:=st.sl,hp:=hp',nx:=nx' : AS}.putD o.dst v):=qn8 d g h a
inductive Z2 (P : Program) (base : Nat) (ops : Array Oper) : List Oper→AS→AS→Prop
  | nil {st : AS} : Z2 P base ops [] st st
  | cons {o : Oper} {l : List Oper} {st st1 st2 : AS} : Zz P base ops o st st1→Z2 P base ops l st1 st2→Z2 P base ops (o::l) st st2
  | wk {ρ : Nat→Nat} {fz ph : List Nat} {l : List Oper} {st st1 st2 : AS} : Wk base ρ fz ph st st1→Z2 P base ops l st1 st2→Z2 P base ops l st st2
inductive Zy (P : Program) (base : Nat) (ops : Array Oper) (F : List Fp) : List Oper→AS→AS→Prop
  | nil {st : AS} : Zy P base ops F [] st st
  | cons {o : Oper} {l : List Oper} {st st1 st2 : AS} : J1 P ops o (fpAt F l.length) st st1→Zy P base ops F l st1 st2→Zy P base ops F (o::l) st st2
  | piv {o : Oper} {l : List Oper} {st st1 st2 : AS} : U3 (fpAt F l.length) = true→Z2 P base ops [o] st st1→Zy P base ops F l st1 st2→Zy P base ops F (o::l) st st2
def Ue (P : Program) (base : Nat) (ops : Array Oper) (dr : Dr) (l : List Oper) (st st' : AS) : Prop:=match dr with
  | none=>Z2 P base ops l st st'
  | some F=>Zy P base ops F l st st'
theorem qev {F : List Fp} : ∀ {l : List Oper} {st st' : AS},Zy P base ops F l st st'→∃ (n : Nat) (S : Nat→AS),n≤l.length∧S 0 = st∧(∀ i o,i < n→l[i]? = some o→J1 P ops o (fpAt F (l.length - (i + 1))) (S i) (S (i + 1)))∧
    ((n = l.length∧S n = st')∨∃ o st1,l[n]? = some o∧U3 (fpAt F (l.length - (n + 1))) = true∧Z2 P base ops [o] (S n) st1∧Zy P base ops F (l.drop (n + 1)) st1 st')
  | [],st,st',h=>by cases h;exact ⟨0,fun _=>st,Nat.le_refl _,rfl,fun i o h=>q6,.inl ⟨rfl,rfl⟩⟩
  | o::l,st,st',h=>by
    cases h with
    | @cons _ _ _ st1 _ h1 h2=>
      obtain ⟨n,S,p,g,hs,b⟩:=qev h2
      refine ⟨n + 1,fun i=>match i with | 0=>st | i + 1=>S i,by simp;omega,rfl,fun i c hi f=>?_,?_⟩
      · cases i with
        | zero=>simp at f;subst f;simp only [g,List.length_cons,Nat.zero_add,Nat.add_sub_cancel];exact h1
        | succ i=>
          have:=hs i c q6 (by simpa using f)
          simp only [List.length_cons]
          rw [show l.length + 1 - (i + 1 + 1) = l.length - (i + 1) by omega]
          exact this
      · rcases b with ⟨a,d⟩ | ⟨c,k,a,d,j,m⟩
        · exact .inl ⟨by simp [a],d⟩
        · refine .inr ⟨c,k,by simpa using a,?_,j,by simpa using m⟩
          rw [List.length_cons,show l.length + 1 - (n + 1 + 1) = l.length - (n + 1) by omega]
          exact d
    | @piv _ _ _ st1 _ h1 h2 a=>exact ⟨0,fun _=>st,Nat.zero_le _,rfl,fun i o h=>q6,.inr ⟨o,st1,rfl,by simpa using h1,h2,by simpa using a⟩⟩
theorem ql8 {dr : Dr} {l : List Oper} {st2 : AS} (a : Ql ops st o = some false) (h : Ue P base ops dr l (st.putD o.dst (.d (.tup []))) st2) : Ue P base ops dr (o::l) st st2:=by
  cases dr with
  | none=>exact .cons (qgg a) h
  | some F=>exact .cons ((qww a).mono (qg6 _)) h
theorem ql6 {dr : Dr} {l : List Oper} {st2 : AS} {v : V} (d : Yk P T) (b : Ql ops st o = some true) (c : opFn T st o.op = some (v,st1)) (a : okO dr l.length st o.op st1 = true) (h : Ue P base ops dr l (st1.putD o.dst v) st2) : Ue P base ops dr (o::l) st st2:=by
  cases dr with
  | none=>exact .cons (qbz d b c) h
  | some F=>
    simp only [okO,Bool.and_eq_true] at a;exact .cons ((qwu d b c a.2).mono a.1) h
theorem ql7 {dr : Dr} {l : List Oper} {st2 : AS} {n es : Nat} {xs : List (List DV)} {hp2 : List (Nat × Blk)} (j : Yk P T) (a : Ql ops st o = some true) (c : opFn T st o.op = some (.hs n es 0 xs.length,st1)) (b : n = st.nx∧st1.nx = n + 1) (g : st1.hp = (n,.dat es xs)::hp2) (f : find hp2 n = none) (k : okF dr l.length (fp st o.op) = true)
    (h : Ue P base ops dr l (({sl:=st1.sl,hp:=hp2,nx:=st1.nx} : AS).putD o.dst (.d (.sl es xs))) st2) : Ue P base ops dr (o::l) st st2:=by
  cases dr with
  | none=>exact .cons (qn9 j a c (Nat.le_of_eq b.1.symm) g f) h
  | some F=>exact .cons ((qwv j a c b g f).mono k) h
theorem ql5 {dr : Dr} {l : List Oper} {st2 : AS} {c : Call} {f : FuncId} {k : List V} {ds : List DV} {v : V} {hp' : List (Nat × Blk)} {nx' : Nat} {p r : DV} (m : Ql ops st o = some true) (n : o.op = .call c) (q : callee st c = some (f,k))
    (g : Kh st.hp k = some ds) (a : Zx P f (ds.map .d) [] 0 v hp' nx') (b : toD hp' 8 v = some p) (j : DLe p r) (hs : k.all V.isD = true∨r.scalar = true) (s : okF dr l.length (fpC k) = true) (h : Ue P base ops dr l (st.putD o.dst (.d r)) st2) : Ue P base ops dr (o::l) st st2:=by
  cases dr with
  | none=>exact .cons (qgf m n q g a b j hs) h
  | some F=>exact .cons ((qwt m n q g a b j hs).mono s) h
def Adm (ops : Array Oper) (S : Nat→Prop) : Prop:=∀ j o,S j→ops[j]? = some o→∀ e∈o.after,Region.binds .any e = true→S e.on
def Behind (ops : Array Oper) (o : Oper) (j : Nat) : Prop:=∀ S : Nat→Prop,Adm ops S→(∀ e∈o.after,Region.binds .any e = true→S e.on)→S j
theorem qh6 (acc : List Nat) (j : Nat) : ∀ (l : List Edge) (s : Nat),(l.foldl (fun s e=>if Region.binds .any e then s ||| 2 ^ e.on ||| acc.getD e.on 0 else s) s).testBit j = true→
    s.testBit j = true∨∃ e∈l,Region.binds .any e = true∧(e.on = j∨(acc.getD e.on 0).testBit j = true)
  | [],s,h=>.inl h
  | e::l,s,h=>by
    simp only [List.foldl_cons] at h
    rcases qh6 acc j l _ h with h | ⟨d,a,b,c⟩
    · by_cases hb : Region.binds .any e = true
      · simp only [hb,if_true,Nat.testBit_or,Bool.or_eq_true,Nat.testBit_two_pow] at h
        rcases h with (h | h) | h
        · exact .inl h
        · exact .inr ⟨e,qb,hb,.inl (by simpa using h)⟩
        · exact .inr ⟨e,qb,hb,.inr h⟩
      · simp only [hb] at h;exact .inl (by simpa using h)
    · exact .inr ⟨d,List.mem_cons_of_mem _ a,b,c⟩
theorem qh7 : ∀ (r : List Oper) (pre : List Oper) (acc : List Nat),ops.toList = pre ++ r→acc.length = pre.length→
    (∀ (i m : Nat),acc[i]? = some m→∃ o,ops[i]? = some o∧∀ j,m.testBit j = true→Behind ops o j)→
    (masks acc r).length = ops.size∧∀ (i m : Nat),(masks acc r)[i]? = some m→∃ o,ops[i]? = some o∧∀ j,m.testBit j = true→Behind ops o j
  | [],pre,acc,h,hl,ha=>by
    refine ⟨?_,ha⟩
    have:=congrArg List.length h
    simp at this
    simp [masks,hl,this]
  | o::r,pre,acc,h,hl,ha=>by
    refine qh7 r (pre ++ [o]) (acc ++ [qh5 acc o]) (by rw [h];simp) (by simp [hl]) ?_
    intro i m b
    by_cases hi : i < acc.length
    · rw [List.getElem?_append_left hi] at b;exact ha i m b
    · rw [List.getElem?_append_right q6] at b
      have g : i = acc.length:=by
        have:=K9 b;simp at this;omega
      subst g
      simp at b;subst b
      refine ⟨o,by rw [← Array.getElem?_toList,h,hl];simp,fun j s S n q=>?_⟩
      rcases qh6 acc j _ _ s with u | ⟨e,p,t,a⟩
      · simp at u
      · have c:=q e (by simpa using p) t
        rcases a with a | a
        · exact a ▸ c
        · rw [List.getD_eq_getElem?_getD] at a
          cases k : acc[e.on]? with
          | none=>rw [k] at a;simp at a
          | some m'=>
            rw [k] at a;obtain ⟨w,f,hb⟩:=ha _ _ k;exact hb j a S n (fun v l d=>n _ _ c f v l d)
theorem qfj : ∀ (l : List Oper) (n : Nat),q9l n l = true→∀ i o,l[i]? = some o→∀ e∈o.after,Region.binds .any e = true→e.on < n + i
  | [],_,_,i,o,h=>by simp at h
  | x::l,n,h,i,o,ho=>by
    simp only [q9l,Bool.and_eq_true,List.all_eq_true] at h
    cases i with
    | zero=>
      simp at ho;subst ho
      intro e a hb
      have:=h.1 e (by simpa using a)
      simp [hb] at this
      exact this
    | succ i=>
      intro e a hb
      have:=qfj l (n + 1) h.2 i o (by simpa using ho) e a hb
      omega
structure q6b (x y : Fp) : Prop where
  ww : ∀ m∈x.2,m ∉ y.2
  rw : ∀ m∈y.2,match x.1 with | none=>False | some r=>m ∉ r
  wr : ∀ m∈x.2,match y.1 with | none=>False | some r=>m ∉ r
theorem qb3 {a b : List Nat} (h : q6e a b = true) : ∀ m∈a,m ∉ b:=fun m c hb=>by
  simp only [q6e,List.all_eq_true] at h
  have:=h m c
  rw [qha hb] at this;cases this
theorem qkj {x y : Fp} (h : qb2 x y = true) : q6b x y:=by
  simp only [qb2,Bool.and_eq_true] at h;obtain ⟨⟨f,b⟩,c⟩:=h;refine ⟨qb3 f,fun m a=>?_,fun m a=>?_⟩
  · revert b
    cases x.1 with
    | none=>intro b;rw [List.isEmpty_iff] at b;rw [b] at a;cases a
    | some r=>intro b d;exact qb3 b m d a
  · revert c
    cases y.1 with
    | none=>intro c;rw [List.isEmpty_iff] at c;rw [c] at a;cases a
    | some r=>intro c d;exact qb3 c m d a
structure q6c (F : List Fp) (ops : Array Oper) : Prop where
  edges : ∀ j o,ops[j]? = some o→∀ e∈o.after,Region.binds .any e = true→e.on < j
  pairs : ∀ i j a b,i < j→ops[i]? = some a→ops[j]? = some b→Behind ops b i∨(q6b (fpAt F (ops.size - (i + 1))) (fpAt F (ops.size - (j + 1)))∧(∀ t∈reads ops a,b.dst≠some t)∧(∀ t∈reads ops b,a.dst≠some t)∧∀ t,a.dst = some t→b.dst≠some t)
  pivs : ∀ i j a b,i < j→ops[i]? = some a→ops[j]? = some b→(U3 (fpAt F (ops.size - (i + 1))) = true∨U3 (fpAt F (ops.size - (j + 1))) = true)→Behind ops b i
theorem qkc {α : Type} {l : List α} {i : Nat} {x : α} (h : l[i]? = some x) : (x,i)∈l.zipIdx:=by grind
theorem qbn {o : Oper} {t : Tmp} : q6m o t = true↔o.dst = some t:=by
  unfold q6m
  cases o.dst with
  | none=>simp
  | some d=>simp
theorem qmd {F : List Fp} (h : q6l F ops = true) : q6c F ops:=by
  simp only [q6l,Bool.and_eq_true,List.all_eq_true] at h;obtain ⟨s,r⟩:=h;obtain ⟨w,v⟩:=qh7 (ops:=ops) ops.toList [] [] rfl rfl qb;have d : ∀ (i : Nat) (o : Oper),ops[i]? = some o→ops.toList[i]? = some o:=fun i o l=>by rw [Array.getElem?_toList];exact l
  have main : ∀ i j a b,i < j→ops[i]? = some a→ops[j]? = some b→Behind ops b i∨((U3 (fpAt F (ops.size - (i + 1))) = false∧U3 (fpAt F (ops.size - (j + 1))) = false)∧(q6b (fpAt F (ops.size - (i + 1))) (fpAt F (ops.size - (j + 1)))∧(∀ t∈reads ops a,b.dst≠some t)∧(∀ t∈reads ops b,a.dst≠some t)∧∀ t,a.dst = some t→b.dst≠some t)):=fun i j a b c g hb=>by
    have:=r _ (qkc (d j b hb)) _ (qkc (d i a g));simp only [Bool.or_eq_true] at this;rcases this with (h | h) | h
    · have n : Nat.blt i j = true:=by rw [Nat.blt_eq];exact c
      grind
    · grind
    · right;simp only [Bool.and_eq_true,Bool.not_eq_true'] at h;obtain ⟨⟨⟨hp1,hp2⟩,h⟩,p⟩:=h;simp only [qed,Bool.and_eq_true,List.all_eq_true,Bool.not_eq_true'] at h;obtain ⟨⟨m,u⟩,k⟩:=h;refine ⟨⟨hp1,hp2⟩,qkj p,fun t f hd=>?_,fun t f hd=>?_,fun t f hd=>?_⟩
      · have:=m t f;rw [qbn.2 hd] at this;cases this
      · have:=u t f;rw [qbn.2 hd] at this;cases this
      · rw [f] at k;simp only at k;rw [qbn.2 hd] at k;simp at k
  refine ⟨fun j o l e q hb=>?_,fun i j a b c g hb=>(main i j a b c g hb).imp id And.right,fun i j a b c g hb hp=>?_⟩
  · have:=qfj _ 0 s j o (d j o l) e q hb;omega
  grind
end
end Go.Am
namespace Go.Am
open Go
variable {P : Program}
section
variable {base : Nat} {ops : Array Oper}
theorem qby {l : Array Bool} {i : Nat} : l.getD i false = true↔l[i]? = some true:=by
  rw [Array.getD_eq_getD_getElem?];cases l[i]? <;> simp
theorem q9p {l : Array Bool} {i : Nat} : l.getD i true = false↔l[i]? = some false:=by
  rw [Array.getD_eq_getD_getElem?];cases l[i]? <;> simp
theorem qre {w : World} {Z : Nat→Prop} {inj : Inj} {hp hp2 : List (Nat × Blk)} {nx : Nat} (h : RelH w Z inj hp nx) (hs : ∀ m,find hp2 m = find hp m) : RelH w Z inj hp2 nx:=by
  refine ⟨fun n b hb=>h.blk n b (by rw [← hs];exact hb),fun n m b c p q a d=>h.sep n m b c p q (by rw [← hs];exact a) (by rw [← hs];exact d),fun n b p a=>h.out n b p (by rw [← hs];exact a),h.zs,h.zc⟩
theorem qmt {w w' : World} {Z Z' : Nat→Prop} {inj inj' : Inj} {hp hp' hp2 : List (Nat × Blk)} {pin : Nat} (h : Ext w Z inj hp w' Z' inj' hp' pin) (hs : ∀ m,find hp2 m = find hp' m) : Ext w Z inj hp w' Z' inj' hp2 pin:=
  {h with imm:=fun b hb=>h.imm b (by
      obtain ⟨n,c,o,a,f,d⟩:=hb
      exact ⟨n,c,o,by rw [← hs];exact a,f,d⟩)}
abbrev fpO (F : List Fp) (ops : Array Oper) (i : Nat) : Fp:=fpAt F (ops.size - (i + 1))
def CutS (ops : Array Oper) (listed : Array Bool) (t : Tmp) (m : Nat) : Prop:=∀ (i : Nat) (o : Oper),ops[i]? = some o→o.dst = some t→(listed[i]? = some true↔i < m)
def CutB (F : List Fp) (ops : Array Oper) (listed : Array Bool) (q m : Nat) : Prop:=∀ (i : Nat) (o : Oper),ops[i]? = some o→q∈(fpO F ops i).2→(listed[i]? = some true↔i < m)
structure Mid (F : List Fp) (ops : Array Oper) (S : Nat→AS) (lo hi : Nat) (listed : Array Bool) (st : AS) : Prop where
  nx : st.nx = (S hi).nx
  sl : ∀ t m,lo≤m→m≤hi→CutS ops listed t m→st.get t = (S m).get t
  hp : ∀ q m,lo≤m→m≤hi→CutB F ops listed q m→find st.hp q = find (S m).hp q
abbrev Steps (P : Program) (F : List Fp) (ops : Array Oper) (S : Nat→AS) (lo hi : Nat) : Prop:=∀ (i : Nat) (o : Oper),lo≤i→i < hi→ops[i]? = some o→J1 P ops o (fpO F ops i) (S i) (S (i + 1))
theorem qb6 {F : List Fp} {S : Nat→AS} {lo hi : Nat} (a : hi≤ops.size) (d : Steps P F ops S lo hi) {t : Tmp} {j : Nat} (b : lo≤j) : ∀ m,j≤m→m≤hi→(∀ (i : Nat) (o : Oper),j≤i→i < m→ops[i]? = some o→o.dst≠some t)→(S m).get t = (S j).get t
  | 0,h,_,_=>by have : j = 0:=q6;subst this;rfl
  | m + 1,h,hm,hno=>by
    by_cases f : j = m + 1
    · subst f;rfl
    · obtain ⟨o,c⟩:=Ky (xs:=ops) (i:=m) q6
      rw [(d m o q6 q6 c).sl t (hno m o q6 q6 c)]
      exact qb6 a d b m q6 q6 fun i o g k=>hno i o g q6
theorem qb5 {F : List Fp} {S : Nat→AS} {lo hi : Nat} (a : hi≤ops.size) (d : Steps P F ops S lo hi) {q j : Nat} (b : lo≤j) : ∀ m,j≤m→m≤hi→(∀ (i : Nat) (o : Oper),j≤i→i < m→ops[i]? = some o→q ∉ (fpO F ops i).2)→find (S m).hp q = find (S j).hp q
  | 0,h,_,_=>by have : j = 0:=q6;subst this;rfl
  | m + 1,h,hm,hno=>by
    by_cases f : j = m + 1
    · subst f;rfl
    · obtain ⟨o,c⟩:=Ky (xs:=ops) (i:=m) q6
      rw [(d m o q6 q6 c).hp q (hno m o q6 q6 c)]
      exact qb5 a d b m q6 q6 fun i o g k=>hno i o g q6
theorem Uy {F : List Fp} {S : Nat→AS} {lo hi : Nat} (a : hi≤ops.size) (c : Steps P F ops S lo hi) {j : Nat} (b : lo≤j) : ∀ m,j≤m→m≤hi→(S j).nx≤(S m).nx
  | 0,h,_=>by have : j = 0:=q6;subst this;exact Nat.le_refl _
  | m + 1,h,hm=>by
    by_cases d : j = m + 1
    · subst d;exact Nat.le_refl _
    · obtain ⟨o,f⟩:=Ky (xs:=ops) (i:=m) q6
      exact Nat.le_trans (Uy a c b m q6 q6) (c m o q6 q6 f).nx
theorem qgw {F : List Fp} {S : Nat→AS} {lo hi : Nat} (a : hi≤ops.size) (c : Steps P F ops S lo hi) (b : ∀ q,(S lo).nx≤q→find (S lo).hp q = none) : ∀ m,lo≤m→m≤hi→∀ q,(S m).nx≤q→find (S m).hp q = none
  | 0,hl,_,q,hq=>by have : lo = 0:=q6;subst this;exact b q hq
  | m + 1,hl,hm,q,hq=>by
    by_cases f : lo = m + 1
    · subst f;exact b q hq
    obtain ⟨o,d⟩:=Ky (xs:=ops) (i:=m) q6
    have hs:=c m o q6 q6 d
    exact hs.keys q hq (qgw a c b m q6 q6 q (Nat.le_trans hs.nx hq))
def Keep (ops : Array Oper) (S : Nat→AS) (lo hi : Nat) (base : Nat) (w0 : World) (Z0 : Nat→Prop) (inj0 : Inj) (hp0 : List (Nat × Blk)) (a0 : Act) (Ds0 : List Nat) (listed : Array Bool) (st : AS) (a : Act) (w : World) : Prop:=
  ∃ Z inj Ds,RelS w Z inj st a Ds∧Ext w0 Z0 inj0 hp0 w Z inj st.hp base∧a.tmps.size = a0.tmps.size∧(∀ D∈Ds,D∈Ds0∨w0.heap.size≤D)∧
    ∀ (i : Nat) (o : Oper),lo≤i→i < hi→ops[i]? = some o→listed[i]?≠some true→∀ m,(S i).nx≤m→m < (S (i + 1)).nx→inj m = none
theorem qfb {l : Array Bool} {i : Nat} {n : Nat} (hi : l[i]? = some false) (b : l.toList.count false = n + 1) : (l.setIfInBounds i true).toList.count false = n:=by
  have a : i < l.toList.length:=by simpa using Yw hi
  rw [Array.toList_setIfInBounds,List.count_set a]
  have : l.toList[i] = false:=by
    have:=hi;rw [← Array.getElem?_toList,List.getElem?_eq_getElem a] at this;simpa using this
  simp [this,b]
theorem qil {F : List Fp} (m : q6c F ops) {listed : Array Bool} (j : listed.size = ops.size) : ∀ (n i : Nat),i = n→listed[i]? = some false→Region.ready .any ops listed≠[]:=by
  intro n
  induction n using Nat.strongRecOn with
  | _ n ihn=>
    intro i h hi;subst h;obtain ⟨o,k⟩:=Ky (xs:=ops) (i:=i) (by rw [← j];exact Yw hi);by_cases a : ∀ e∈o.after,Region.binds .any e = true→listed.getD e.on false = true
    · intro d;have : i∈Region.ready .any ops listed:=mem_ready.2 ⟨q9p.2 hi,o,k,a⟩;rw [d] at this;cases this
    · simp only [Classical.not_forall] at a;obtain ⟨e,l,hb,g⟩:=a;have f:=m.edges i o k e l hb;obtain ⟨b,c⟩:=Ky (xs:=listed) (i:=e.on) (by have:=Yw hi;omega)
      cases b with
      | true=>exact absurd (qby.2 c) g
      | false=>exact ihn e.on f e.on rfl c
theorem qe8 {listed : Array Bool} {i : Nat} {o : Oper} (f : Adm ops (fun i=>listed[i]? = some true)) (k : ops[i]? = some o) (l : listed[i]? = some false) (c : ∀ e∈o.after,Region.binds .any e = true→listed[e.on]? = some true) :
    (∀ (j : Nat),(listed.setIfInBounds i true)[j]? = some true↔(j = i∨listed[j]? = some true))∧Adm ops (fun j=>(listed.setIfInBounds i true)[j]? = some true):=by
  have a : ∀ (j : Nat),(listed.setIfInBounds i true)[j]? = some true↔(j = i∨listed[j]? = some true):=by
    intro j;by_cases b : j = i
    · subst b;simp [Yw l]
    · rw [Array.getElem?_setIfInBounds_ne (Ne.symm b)];simp [b]
  refine ⟨a,?_⟩;intro j m g d e h hb;rw [a] at g ⊢;rcases g with rfl | g
  · rw [k] at d;cases d;exact .inr (c e h hb)
  · exact .inr (f j m g d e h hb)
theorem qmf {F : List Fp} {S : Nat→AS} {lo hi : Nat} (bk : lo≤hi) (aa : hi≤ops.size) (hD : q6c F ops) (hS : Steps P F ops S lo hi) (bf : ∀ (i j : Nat) (d : Oper),i < hi→hi≤j→ops[j]? = some d→Behind ops d i) (h0 : ∀ q,(S lo).nx≤q→find (S lo).hp q = none)
    {w0 : World} {Z0 : Nat→Prop} {inj0 : Inj} {hp0 : List (Nat × Blk)} {a0 : Act} {Ds0 : List Nat} {ro : Option Nat} {Q : Exit→Act→World→Prop} (bz : base≤(S lo).nx)
    (hd : ∀ (i : Nat) (o : Oper),ops[i]? = some o→Zl a0.tmps.size o.dst = true)
    (hQ : ∀ (fuel : Nat) (listed : Array Bool) (a' : Act) (w' : World),listed.size = ops.size→listed.toList.count false = fuel→Adm ops (fun i=>listed[i]? = some true)→(∀ (i : Nat),listed[i]? = some true↔i < hi)→
      (∃ Z inj Ds,RelS w' Z inj (S hi) a' Ds∧Ext w0 Z0 inj0 hp0 w' Z inj (S hi).hp base∧a'.tmps.size = a0.tmps.size∧base≤(S hi).nx∧(∀ D∈Ds,D∈Ds0∨w0.heap.size≤D))→Y7 ro w'→wpAnyIn (Fw ro) 0 P .any ops Q fuel listed a' w') : ∀ (fuel : Nat) (listed : Array Bool) (a : Act) (w : World) (st : AS),
      listed.size = ops.size→listed.toList.count false = fuel→Adm ops (fun i=>listed[i]? = some true)→(∀ (i : Nat),i < lo→listed[i]? = some true)→(∀ (i : Nat),hi≤i→listed[i]?≠some true)→Keep ops S lo hi base w0 Z0 inj0 hp0 a0 Ds0 listed st a w→Y7 ro w→Mid F ops S lo hi listed st→
      wpAnyIn (Fw ro) 0 P .any ops Q fuel listed a w:=by
  have fin : ∀ (fuel : Nat) (listed : Array Bool) (a : Act) (w : World) (st : AS),
      listed.size = ops.size→listed.toList.count false = fuel→Adm ops (fun i=>listed[i]? = some true)→(∀ (i : Nat),i < lo→listed[i]? = some true)→(∀ (i : Nat),hi≤i→listed[i]?≠some true)→Keep ops S lo hi base w0 Z0 inj0 hp0 a0 Ds0 listed st a w→Y7 ro w→Mid F ops S lo hi listed st→
      (∀ (i : Nat),lo≤i→i < hi→listed[i]? = some true)→wpAnyIn (Fw ro) 0 P .any ops Q fuel listed a w:=by
    intro fuel listed a w st ae hc n u aj hp ad g ab
    have ao : ∀ (i : Nat),listed[i]? = some true↔i < hi:=fun i=>⟨fun h=>by
      rcases Nat.lt_or_ge i hi with z | z
      · exact z
      · exact absurd h (aj i z),fun h=>by
      rcases Nat.lt_or_ge i lo with z | z
      · exact u i z
      · exact ab i z h⟩
    refine hQ fuel listed a w ae hc n ao ?_ ad
    obtain ⟨Z,inj,Ds,z,h2,h3,h4,_⟩:=hp
    have bq : ∀ q,find (S hi).hp q = find st.hp q:=fun q=>(g.hp q hi bk (Nat.le_refl _) fun i o ho _=>ao i).symm
    refine ⟨Z,inj,Ds,⟨fun t v ht=>?_,?_,z.defs,z.nodup,z.marks⟩,qmt h2 bq,h3,Nat.le_trans bz (Uy aa hS (Nat.le_refl _) _ bk (Nat.le_refl _)),h4⟩
    · rw [← g.nx]
      refine z.slots t v ?_
      have:=g.sl t hi bk (Nat.le_refl _) fun i o ho _=>ao i
      exact this.trans ht
    · rw [← g.nx];exact qre z.heap bq
  intro fuel
  induction fuel with
  | zero=>
    intro listed a w st ae hc n u aj hp ad g;refine fin 0 listed a w st ae hc n u aj hp ad g fun i _ hi=>?_;have h:=List.count_eq_zero.1 hc;obtain ⟨b,hb⟩:=Ky (xs:=listed) (i:=i) q6
    cases b with
    | true=>exact hb
    | false=>exact absurd (by simpa using Array.mem_of_getElem? hb) h
  | succ fuel ih=>
    intro listed a w st ae hc n u aj hp ad g;by_cases ab : ∀ (i : Nat),lo≤i→i < hi→listed[i]? = some true
    · exact fin _ listed a w st ae hc n u aj hp ad g ab
    have bh : ∃ k : Nat,(lo≤k∧k < hi)∧listed[k]? = some false:=by
      simp only [Classical.not_forall] at ab;obtain ⟨k,z,h2,h3⟩:=ab;obtain ⟨b,hb⟩:=Ky (xs:=listed) (i:=k) q6
      cases b with
      | true=>exact absurd hb h3
      | false=>exact ⟨k,⟨z,h2⟩,hb⟩
    obtain ⟨k0,⟨dl,cd⟩,bm⟩:=bh;refine ⟨fun bo=>?_,fun i cf=>?_⟩
    · exact absurd bo (qil hD ae k0 k0 rfl bm)
    · obtain ⟨z,o,ho,az⟩:=mem_ready.1 cf;rw [q9p] at z;have ak : ∀ e∈o.after,Region.binds .any e = true→(fun i=>listed[i]? = some true) e.on:=fun e he hb=>qby.1 (az e he hb);have ay : ∀ j,Behind ops o j→listed[j]? = some true:=fun j hb=>hb _ n ak;have s : lo≤i:=Nat.le_of_not_lt fun h=>by have:=u i h;rw [z] at this;cases this
      have ax : i < hi:=Nat.lt_of_not_le fun h=>by
        have:=ay k0 (bf k0 i o cd h ho);rw [bm] at this;cases this
      have aw : ∀ (j : Nat) (d : Oper),ops[j]? = some d→Behind ops d i→listed[j]?≠some true:=by
        intro j d c hb hj;have:=hb (fun i=>listed[i]? = some true) n (fun e he cj=>n j d hj c e he cj);rw [z] at this;cases this
      obtain ⟨l,bc⟩:=qe8 n ho z ak;have bs : (listed.setIfInBounds i true).size = ops.size:=by simp [ae]
      have ck:=qfb z hc;have df : i < ops.size:=Yw ho;have bi : listed[i]?≠some true:=by rw [z];simp
      have x : ∀ (j : Nat) (d : Oper),ops[j]? = some d→j≠i→(listed[j]? = some true↔j < i)∨(q6b (fpO F ops i) (fpO F ops j)∧(∀ t∈reads ops o,d.dst≠some t)∧∀ t,o.dst = some t→d.dst≠some t):=by
        intro j d c f;rcases Nat.lt_or_gt_of_ne f with h | h
        · rcases hD.pairs j i d o h c ho with hb | ⟨ha,h2,h3,h4⟩
          · exact .inl ⟨fun _=>h,fun _=>ay j hb⟩
          · exact .inr ⟨⟨fun m h5 h6=>ha.ww m h6 h5,ha.wr,ha.rw⟩,h3,fun t h5 h6=>h4 t h6 h5⟩
        · rcases hD.pairs i j o d h ho c with hb | ⟨ha,h2,h3,h4⟩
          · exact .inl ⟨fun p=>absurd p (aw j d c hb),fun p=>q6⟩
          · exact .inr ⟨ha,h2,h4⟩
      have am : ∀ m∈(fpO F ops i).2,find st.hp m = find (S i).hp m:=fun m hm=>by
        refine g.hp m i s q6 fun j d c ac=>?_;by_cases f : j = i
        · subst f;exact ⟨fun p=>absurd p bi,fun p=>absurd p (Nat.lt_irrefl _)⟩
        · rcases x j d c f with h | ⟨ha,_⟩
          · exact h
          · exact absurd ac (ha.ww m hm)
      have cm : Jo ops o (fpO F ops i) (S i) st:=by
        refine ⟨⟨am,?_⟩,fun t ht=>?_⟩
        · have key : ∀ m,(∀ (j : Nat) (d : Oper),ops[j]? = some d→j≠i→q6b (fpO F ops i) (fpO F ops j)→m ∉ (fpO F ops j).2)→find st.hp m = find (S i).hp m:=fun m hm=>by
            by_cases bt : m∈(fpO F ops i).2
            · exact am m bt
            refine g.hp m i s q6 fun j d c ac=>?_;by_cases f : j = i
            · subst f;exact absurd ac bt
            · rcases x j d c f with h | ⟨ha,_⟩
              · exact h
              · exact absurd ac (hm j d c f ha)
          cases hR : (fpO F ops i).1 with
          | none=>exact fun m=>key m fun j d _ _ ha ac=>by have:=ha.rw m ac;rw [hR] at this;exact this
          | some r=>exact fun m cr=>key m fun j d _ _ ha ac=>by have:=ha.rw m ac;rw [hR] at this;exact this cr
        · refine g.sl t i s q6 fun j d c af=>?_;by_cases f : j = i
          · subst f;exact ⟨fun p=>absurd p bi,fun p=>absurd p (Nat.lt_irrefl _)⟩
          · rcases x j d c f with h | ⟨_,hr,_⟩
            · exact h
            · exact absurd af (hr t ht)
      have ah:=hS i o s ax ho;have bd : (S (i + 1)).nx≤st.nx:=by rw [g.nx];exact Uy aa hS q6 _ q6 (Nat.le_refl _)
      have be : ∀ m,(S i).nx≤m→m < (S (i + 1)).nx→find st.hp m = none:=fun m h2 h3=>by
        rw [am m (ah.fresh m h2 h3)];exact qgw aa hS h0 i s q6 m h2
      obtain ⟨co,bv,bg,cp,cs,cb,cl⟩:=ah.other st bd cm be;refine qdr ho ?_;obtain ⟨Z,inj,Ds,k1,k2,k3,k4,k5⟩:=hp;have cc : base≤(S i).nx:=Nat.le_trans bz (Uy aa hS (Nat.le_refl _) _ s q6);refine bg base ro Q w Z inj a Ds _ k1 (by rw [k3];exact hd i o ho) cc (by have:=ah.nx;omega) ad (k5 i o s ax ho bi) fun a' w' hp'=>?_;obtain ⟨Z',inj',ch,g1,g2,g3,g4,g5⟩:=hp';refine ih _ a' w' co bs ck bc (fun j hj=>(l j).2 (.inr (u j hj))) (fun j hj p=>?_) ⟨Z',inj',ch,g1,k2.trans g2 (Nat.le_refl _),g3.trans k3,fun D hD=>?_,fun j d ba aq c br m h2 h3=>?_⟩ (ad.ext g2) ⟨bv.trans g.nx,fun t m bb hm y=>?_,fun q m bb hm y=>?_⟩
      · rcases (l j).1 p with rfl | p
        · omega
        · exact aj j hj p
      · rcases g4 D hD with h | h
        · exact k4 D h
        · exact .inr (Nat.le_trans k2.size h)
      · have f : j≠i:=by rintro rfl;exact br ((l j).2 (.inl rfl))
        have bn : listed[j]?≠some true:=fun e=>br ((l j).2 (.inr e))
        rw [g5 m (by
          have:=Uy aa hS (j:=j + 1) q6 hi q6 (Nat.le_refl _)
          have:=g.nx;omega) (by
          rcases Nat.lt_or_gt_of_ne f with h | h
          · left;have:=Uy aa hS (j:=j + 1) q6 i q6 q6;omega
          · right;have:=Uy aa hS (j:=i + 1) q6 j q6 q6;omega)]
        exact k5 j d ba aq c bn m h2 h3
      · by_cases al : o.dst = some t
        · have cn : i < m:=(y i o ho al).1 ((l i).2 (.inl rfl));rw [cs t al];refine (qb6 aa hS q6 m q6 hm fun j d ba aq c af=>?_).symm;have p:=(l j).1 ((y j d c af).2 aq);rcases p with p | p
          · omega
          · rcases x j d c q6 with h | ⟨_,_,hw⟩
            · have:=h.1 p;omega
            · exact hw t al af
        · rw [cp t al];refine g.sl t m bb hm fun j d c af=>?_;have f : j≠i:=by rintro rfl;rw [ho] at c;cases c;exact al af
          rw [← y j d c af,l];simp [f]
      · by_cases hq : q∈(fpO F ops i).2
        · have cn : i < m:=(y i o ho hq).1 ((l i).2 (.inl rfl));rw [cb q hq];refine (qb5 aa hS q6 m q6 hm fun j d ba aq c an=>?_).symm;have p:=(l j).1 ((y j d c an).2 aq);rcases p with p | p
          · omega
          · rcases x j d c q6 with h | ⟨ha,_⟩
            · have:=h.1 p;omega
            · exact ha.ww q hq an
        · rw [cl q hq];refine g.hp q m bb hm fun j d c an=>?_;have f : j≠i:=by rintro rfl;exact hq an
          rw [← y j d c an,l];simp [f]
theorem qrg {w : World} {Z : Nat→Prop} {inj : Inj} {st : AS} {a : Act} {Ds : List Nat} {N : Nat} (h : RelS w Z inj st a Ds) (l : st.nx≤N) : RelS w Z (fun m=>if m < st.nx then inj m else none) {st with nx:=N} a Ds:=by
  have hi : ∀ n,n < st.nx→(fun m=>if m < st.nx then inj m else none) n = inj n:=fun n t=>by simp [t]
  have g : Za w w:=fun _ c e f h=>⟨c,e,f,h,rfl⟩
  refine ⟨h.slots.mono (fun _ _=>rfl) (fun _ h=>h) g hi l,⟨fun n b hb=>?_,fun n m b c p q d k j v r s=>?_,fun n b p d k j=>?_,h.heap.zs,h.heap.zc⟩,h.defs,h.nodup,h.marks⟩
  · obtain ⟨o,u⟩:=h.heap.blk n b hb;exact ⟨Nat.lt_of_lt_of_le o l,u.mono (fun _ _=>rfl) (fun _ h=>h) g hi l o (fun _ _ _=>rfl)⟩
  · rw [qp (h.heap.blk n b d).1] at r;rw [qp (h.heap.blk m c k).1] at s;exact h.heap.sep n m b c p q d k j v r s
  · rw [qp (h.heap.blk n b d).1] at j;exact h.heap.out n b p d k j
theorem qlp {w0 : World} {Z0 : Nat→Prop} {inj0 : Inj} {b : AS} {g : Act} {Ds0 : List Nat} {l : List Oper} {st st' : AS} (h : Z2 P base ops l st st') : l = []→∀ a w,Kk base w0 Z0 inj0 b g Ds0 st a w→Kk base w0 Z0 inj0 b g Ds0 st' a w:=by
  induction h with
  | nil=>exact fun _ a w hp=>hp
  | cons _ _ _=>intro h;cases h
  | wk hw _ ih=>
    intro j a w hp;refine ih j a w ?_;obtain ⟨Z',inj',f,k,o,m,p,n⟩:=hp;obtain ⟨d,c⟩:=q1b k hw;exact ⟨_,_,f,d,o.trans c (Nat.le_refl _),m,hw.bs,n⟩
theorem qlo {w0 : World} {Z0 : Nat→Prop} {inj0 : Inj} {k : AS} {p : Act} {Ds0 : List Nat} {ro : Option Nat} {Q : Exit→Act→World→Prop} {K : Act→World→Prop} {l : List Oper} {st st' : AS} (h : Z2 P base ops l st st') : ∀ o,l = [o]→Zl p.tmps.size o.dst = true→∀ a w,Kk base w0 Z0 inj0 k p Ds0 st a w→Y7 ro w→
    (∀ a' w',Kk base w0 Z0 inj0 k p Ds0 st' a' w'→Y7 ro w'→K a' w')→Jn P (Fw ro) ops Q o K a w:=by
  induction h with
  | nil=>intro o h;cases h
  | cons hs hl _=>
    intro o h hd a w hp c n;simp only [List.cons.injEq] at h;obtain ⟨rfl,rfl⟩:=h;refine hp.bind fun Z' inj' g b d j _ f=>?_;exact hs ro Q w Z' inj' a g _ b (by rw [d];exact hd) j c fun a' w' hp'=>n a' w' (qlp hl rfl _ _ (f _ _ _ hp')) (by obtain ⟨_,_,_,_,t,_⟩:=hp';exact c.ext t)
  | wk hw _ ih=>
    intro o h hd a w hp c n;refine ih o h hd a w ?_ c n;obtain ⟨Z',inj',g,q,u,r,v,s⟩:=hp;obtain ⟨b,m⟩:=q1b q hw;exact ⟨_,_,g,b,u.trans m (Nat.le_refl _),r,hw.bs,s⟩
theorem qkp {o p : Oper} {i j : Nat} (b : Behind ops o i) (hp : ops[i]? = some p) (c : Behind ops p j) : Behind ops o j:=fun S a f=>c S a fun e d hb=>a i p (b S a f) hp e d hb
theorem qme {F : List Fp} (hD : q6c F ops) {w0 : World} {Z0 : Nat→Prop} {inj0 : Inj} {x : AS} {a0 : Act} {Ds0 : List Nat} {ro : Option Nat} {Q : Exit→Act→World→Prop} (hd : ∀ (i : Nat) (o : Oper),ops[i]? = some o→Zl a0.tmps.size o.dst = true) :
    ∀ (n : Nat) (l : List Oper) (lo : Nat) (st st' : AS),l.length = n→ops.toList.drop lo = l→lo≤ops.size→Zy P base ops F l st st'→(∀ a' w',Kk base w0 Z0 inj0 x a0 Ds0 st' a' w'→Q .normal a' w')→∀ (fuel : Nat) (listed : Array Bool) (a : Act) (w : World),
      listed.size = ops.size→listed.toList.count false = fuel→Adm ops (fun i=>listed[i]? = some true)→(∀ (i : Nat),listed[i]? = some true↔i < lo)→Kk base w0 Z0 inj0 x a0 Ds0 st a w→Y7 ro w→wpAnyIn (Fw ro) 0 P .any ops Q fuel listed a w:=by
  intro n
  induction n using Nat.strongRecOn with
  | _ n ihn=>
  intro l lo st st' cf ao ck hc hQ fuel listed a w bm br bb ah hp bk;obtain ⟨k,S,hk,e0,hS,ai⟩:=qev hc;have bt : l.length + lo = ops.size:=by rw [← ao];simp;omega
  have af : ∀ (i : Nat),l[i]? = ops[lo + i]?:=fun i=>by rw [← ao,List.getElem?_drop,Array.getElem?_toList]
  subst e0
  have z : Steps P F ops (fun i=>S (i - lo)) lo (lo + k):=fun i o u h2 ho=>by
    have:=hS (i - lo) o q6 (by rw [af,show lo + (i - lo) = i by omega];exact ho);rw [show l.length - (i - lo + 1) = ops.size - (i + 1) by omega] at this;show J1 P ops o (fpO F ops i) (S (i - lo)) (S (i + 1 - lo));rw [show i + 1 - lo = i - lo + 1 by omega];exact this
  have am : ∀ (i j : Nat) (oj : Oper),i < lo + k→lo + k≤j→ops[j]? = some oj→Behind ops oj i:=fun i j oj hi hj ag=>by
    rcases ai with ⟨u,_⟩ | ⟨o,st1,u,h2,_,_⟩
    · have:=Yw ag;omega
    · rw [af] at u;rw [show l.length - (k + 1) = ops.size - (lo + k + 1) by omega] at h2;have bl : i < ops.size:=by have:=Yw u;omega
      obtain ⟨oi,y⟩:=Ky (xs:=ops) (i:=i) bl;have hb:=hD.pivs i (lo + k) oi o hi y u (.inr h2);by_cases bn : j = lo + k
      · subst bn;rw [u] at ag;cases ag;exact hb
      · exact qkp (hD.pivs (lo + k) j o oj q6 u ag (.inl h2)) u hb
  obtain ⟨Z,inj,Ds,u,h2,h3,h4,h5⟩:=hp
  have hN : (S 0).nx≤(S k).nx:=by
    have:=Uy q6 z (Nat.le_refl _) (lo + k) q6 (Nat.le_refl _);simpa using this
  have h0 : ∀ q,(S 0).nx≤q→find (S 0).hp q = none:=fun q hq=>by
    cases hf : find (S 0).hp q with
    | none=>rfl
    | some b=>have:=(u.heap.blk q b hf).1;omega
  have ba : Ext w0 Z0 inj0 x.hp w Z (fun m=>if m < (S 0).nx then inj m else none) (S 0).hp base:=by
    refine {h2 with imm:=fun b bp=>h2.imm b ?_,pinj:=fun n hn=>(qp (show n < (S 0).nx by omega)).trans (h2.pinj n hn)};obtain ⟨n,c,o,s,g2,g3⟩:=bp;refine ⟨n,c,o,s,g2,?_⟩;have:=(u.heap.blk n c s).1;simpa [this] using g3
  have ap : ∀ (i : Nat),lo≤i→listed[i]?≠some true:=fun i hi h=>by have:=(ah i).1 h;omega
  refine qmf (lo:=lo) (hi:=lo + k) (S:=fun i=>S (i - lo)) (hp0:=x.hp) (Ds0:=Ds0) q6 q6 hD z am (by simpa using h0) (by simpa using h4) hd ?_ fuel listed a w {S 0 with nx:=(S k).nx} bm br bb (fun i hi=>(ah i).2 hi) (fun i hi=>ap i q6) ⟨Z,_,Ds,qrg u hN,ba,h3,h5,fun i o aa an ho _ m g2 g3=>?_⟩ bk ⟨qb,fun t m al hm ae=>?_,fun q m al hm ae=>?_⟩
  · intro r d a' w' ad ab ac f hp' au
    have hp' : Kk base w0 Z0 inj0 x a0 Ds0 (S k) a' w':=by
      obtain ⟨Z',inj',bo,s,g2,g3,g4,g5⟩:=hp';simp only [Nat.add_sub_cancel_left] at s g2 g4;exact ⟨Z',inj',bo,s,g2,g3,g4,g5⟩
    rcases ai with ⟨e1,e2⟩ | ⟨o,st1,e1,e2,e3,e4⟩
    ·
      subst e2
      have hz : r = 0:=by
        rw [← ab,List.count_eq_zero];intro hm;obtain ⟨i,hi⟩:=List.getElem?_of_mem hm;have an : d[i]? = some false:=by simpa using hi
        have:=(f i).2 (by have:=Yw an;omega);rw [an] at this;cases this
      subst hz;refine ⟨?_,hQ _ _ hp'⟩;rw [List.eq_nil_iff_forall_not_mem];intro j hj;obtain ⟨s,o,ho,_⟩:=mem_ready.1 hj;rw [q9p,(f j).2 (by have:=Yw ho;omega)] at s;cases s
    ·
      have p : ops[lo + k]? = some o:=by rw [← af];exact e1
      rw [show l.length - (k + 1) = ops.size - (lo + k + 1) by omega] at e2
      have g : d[lo + k]? = some false:=by
        obtain ⟨b,hb⟩:=Ky (xs:=d) (i:=lo + k) (by rw [ad];exact Yw p)
        cases b with
        | true=>have:=(f _).1 hb;omega
        | false=>exact hb
      cases r with
      | zero=>
        have:=List.count_eq_zero.1 ab;exact absurd (by simpa using Array.mem_of_getElem? g) this
      | succ r=>
        refine ⟨fun av=>absurd av (qil hD ad _ _ rfl g),fun i hi=>?_⟩;obtain ⟨s,oi,y,bc⟩:=mem_ready.1 hi;rw [q9p] at s;have v : ∀ e∈oi.after,Region.binds .any e = true→d[e.on]? = some true:=fun e he hb=>qby.1 (bc e he hb)
        have bq : i = lo + k:=by
          rcases Nat.lt_trichotomy i (lo + k) with h | h | h
          · have:=(f i).2 h;rw [s] at this;cases this
          · exact h
          · have:=hD.pivs (lo + k) i o oi h p y (.inl e2) _ ac v;rw [g] at this;cases this
        subst bq;rw [p] at y;cases y;obtain ⟨ax,aq⟩:=qe8 ac p s v;refine qdr p ?_;refine qlo e3 o rfl (hd _ _ p) a' w' hp' au fun a2 w2 hp2 az=>?_;refine ihn (l.drop (k + 1)).length (by have:=Yw p;simp;omega) _ (lo + k + 1) st1 st' rfl (by rw [← ao,List.drop_drop,Nat.add_assoc]) (Yw p) e4 hQ _ _ a2 w2 (by simp [ad]) (qfb s ab) aq (fun j=>?_) hp2 az;rw [ax,f];omega
  · have this : (S 0).nx≤(S (i - lo)).nx:=by simpa using Uy q6 z (Nat.le_refl lo) i aa q6
    have cc : (S (i - lo)).nx≤m:=g2;exact qs q6
  · have:=qb6 q6 z (t:=t) (Nat.le_refl lo) m al hm fun i o aa hi ho bi=>ap i aa ((ae i o ho bi).2 hi);simp at this ⊢;exact this.symm
  · have:=qb5 q6 z (q:=q) (Nat.le_refl lo) m al hm fun i o aa hi ho bj=>ap i aa ((ae i o ho bj).2 hi);simp at this ⊢;exact this.symm
theorem qr9 {F : List Fp} {id : Nat} {w : World} {Z : Nat→Prop} {inj : Inj} {st st' : AS} {a : Act} {Ds : List Nat} {ro : Option Nat} {Q : Exit→Act→World→Prop} (u : P.follows .mixedOrders = true) (q : q6c F ops) (r : Zy P base ops F ops.toList st st')
    (h : RelS w Z inj st a Ds) (g : codeOk a.tmps.size (.region id ops true) = true) (hb : base≤st.nx) (m : Y7 ro w) (t : ∀ a' w',Kk base w Z inj st a Ds st' a' w'→Q .normal a' w') : (Code.region id ops true).wpIn (Fw ro) 0 P Q a w:=by
  refine wpIn_region_any u ?_;have hs : RelS {w with drawn:=w.drawn + 1} Z inj st a Ds:=⟨h.slots.mono (fun _ _=>rfl) (fun _ h=>h) (fun b c e f hb=>⟨c,e,f,hb,rfl⟩) (fun _ _=>rfl) (Nat.le_refl _),h.heap.same rfl,h.defs,h.nodup,h.marks⟩
  have k : ∀ (i : Nat) (o : Oper),ops[i]? = some o→Zl a.tmps.size o.dst = true:=by
    intro i o s;simp only [codeOk,List.all_eq_true] at g;exact g o (by simpa using Array.mem_of_getElem? s)
  have d : ∀ (i : Nat),(Array.replicate ops.size false)[i]?≠some true:=by
    intro i hi;rw [Array.getElem?_replicate] at hi;split at hi <;> simp at hi
  exact qme q k ops.toList.length ops.toList 0 st st' rfl qb (Nat.zero_le _) r t ops.size _ a _ qb qb (fun j o p _=>absurd p (d j)) (fun i=>⟨fun hi=>absurd hi (d i),fun hi=>q6⟩) ⟨Z,inj,Ds,hs,.same rfl rfl rfl rfl,rfl,hb,fun _ h=>.inl h⟩ (fun l n=>m l n)
end
end Go.Am
namespace Go.Am
open Go
variable {P : Program} {T : Tab}
section
variable {w w' : World} {Z Z' : Nat→Prop} {inj inj' : Inj} {hp hp' : List (Nat × Blk)} {nx nx' pin : Nat}
theorem RelH.grow (h : RelH w Z inj hp nx) (d : ∀ b,b < w.heap.size→w'.heap[b]? = w.heap[b]?) : RelH w' Z inj hp nx:=by
  have hb : Za w w':=fun b c e f l=>⟨c,e,f,(d b (Zj l)).trans l,rfl⟩
  refine ⟨fun n b k=>?_,h.sep,h.out,?_,?_⟩
  · obtain ⟨j,o⟩:=h.blk n b k;exact ⟨j,o.mono (fun b a=>d b (h.zs b a)) (fun _ h=>h) hb (fun _ _=>rfl) (Nat.le_refl _) j fun p hp m=>d _ (h.im_lt ⟨n,b,p.2,k,m,hp⟩)⟩
  · intro b a;obtain ⟨c,e,f,g⟩:=h.zc b a;have:=d b (h.zs b a);exact Zj (this.trans g)
  · intro b a;obtain ⟨c,e,f,g⟩:=h.zc b a;exact ⟨c,e,f,(d b (h.zs b a)).trans g⟩
theorem Ext.alloc (o : Obj) (a : Unfr o:=by first | exact rfl | exact trivial) : Ext w Z inj hp (w.alloc o) Z inj hp pin:=
  ⟨qb,fun b hb _=>Zb w o hb,fun _ h=>.inl h,q1s w o,qgt w o,fun _ h=>h,fun _ h=>.inl h,fun _ _=>rfl,rfl,rfl,rfl,qg9 w a⟩
theorem qip (h : RelH w Z inj hp nx) {n : Nat} {b0 blk : Blk} (u : find hp n = some b0) (z : live b0 = true) {b off : Nat} (hi : inj n = some (b,off)) {r t : Loop} (hb : w.heap[b]? = some (.loop r)) (hd : t.defers = r.defers)
    (ac : RelB (w.putObj b (.loop t)) Z inj nx n blk) (ae : live blk = true→True) : RelH (w.putObj b (.loop t)) Z inj (repl hp n blk) nx∧Ext w Z inj hp (w.putObj b (.loop t)) Z inj (repl hp n blk) pin:=by
  have a : ∀ k,k≠b→(w.putObj b (.loop t)).heap[k]? = w.heap[k]?:=fun k g=>World.putObj_heap_other g
  have al : ¬ Z b:=fun hz=>by
    obtain ⟨c,e,f,hc⟩:=h.zc b hz;rw [hb] at hc;cases hc
  have j : Za w (w.putObj b (.loop t)):=fun k c e f g=>by
    by_cases j : k = b
    · subst j;rw [hb] at g;cases g
    · exact ⟨c,e,f,(a k j).trans g,rfl⟩
  have hz : ∀ k,Z k→(w.putObj b (.loop t)).heap[k]? = w.heap[k]?:=fun k g=>a k (fun e=>al (e ▸ g))
  have d : ∀ m c,find (repl hp n blk) m = some c→(m = n∧c = blk)∨(m≠n∧find hp m = some c):=by
    intro m c v;rw [Ym] at v;split at v
    · rename_i e;subst e;rw [u] at v;simp at v;exact .inl ⟨rfl,v.symm⟩
    · rename_i e;exact .inr ⟨fun h=>e h.symm,v⟩
  have ah : ∀ k,im (repl hp n blk) inj k→im hp inj k:=by
    rintro k ⟨m,c,o,h1,h2,s⟩;rcases d m c h1 with ⟨rfl,rfl⟩ | ⟨_,y⟩
    · exact ⟨m,b0,o,u,z,s⟩
    · exact ⟨m,c,o,y,h2,s⟩
  refine ⟨⟨?_,?_,?_,?_,?_⟩,⟨qb,?_,fun k g=>.inl (ah k g),j,?_,fun _ h=>h,fun _ h=>.inl h,fun _ _=>rfl,rfl,rfl,rfl,qbx (fun _ _ _=>by rw [hb];simp) (fun _ _ _=>qb)⟩⟩
  · intro m c v;rcases d m c v with ⟨rfl,rfl⟩ | ⟨l,y⟩
    · exact ⟨(h.blk _ _ u).1,ac⟩
    · obtain ⟨h5,h6⟩:=h.blk m c y;exact ⟨h5,h6.mono hz (fun _ h=>h) j (fun _ _=>rfl) (Nat.le_refl _) h5 fun p hp ae=>a _ fun e=>h.sep m n c b0 p (b,off) y u ae z hp hi l e⟩
  · intro m m' c c' p q h1 h2 s y h5 h6 l;rcases d m c h1 with ⟨rfl,rfl⟩ | ⟨e1,k1⟩ <;> rcases d m' c' h2 with ⟨rfl,rfl⟩ | ⟨e2,k2⟩
    · exact absurd rfl l
    · exact h.sep _ _ _ _ p q u k2 z y h5 h6 l
    · exact h.sep _ _ _ _ p q k1 u s z h5 h6 l
    · exact h.sep _ _ _ _ p q k1 k2 s y h5 h6 l
  · intro m c p h1 h2 s;rcases d m c h1 with ⟨rfl,rfl⟩ | ⟨e1,k1⟩
    · exact h.out _ _ p u z s
    · exact h.out _ _ p k1 h2 s
  · intro k g;simpa using h.zs k g
  · intro k g;obtain ⟨c,e,f,hc⟩:=h.zc k g;exact ⟨c,e,f,(hz k g).trans hc⟩
  · intro k _ g;exact a k fun e=>g ⟨n,b0,off,u,z,e ▸ hi⟩
  · intro k x g;by_cases j : k = b
    · subst j;rw [hb] at g;cases g;exact ⟨t,World.putObj_heap_same (Zj hb),hd⟩
    · exact ⟨x,(a k j).trans g,rfl⟩
theorem qdb (h : RelH w Z inj hp nx) {n : Nat} {s : List (Nat × V)} {g : List Tmp} {as j : Code} {q ls' : LoopState} {pe pe' : Option Code} (t : find hp n = some (.loop s g as j q pe)) : ∃ b r,inj n = some (b,0)∧w.heap[b]? = some (.loop r)∧
    r.state = q∧r.pending = pe∧r.params = g.toArray∧r.assign = as∧r.body = j∧(codeOk r.tmps.size as = true∧codeOk r.tmps.size j = true∧∀ p∈g,p < r.tmps.size)∧Yc w Z inj nx s r.tmps∧
    RelH (w.putObj b (.loop {r with state:=ls',pending:=pe'})) Z inj (repl hp n (.loop s g as j ls' pe')) nx∧Ext w Z inj hp (w.putObj b (.loop {r with state:=ls',pending:=pe'})) Z inj (repl hp n (.loop s g as j ls' pe')) pin:=by
  obtain ⟨y,b,tmps,D,fn,m,l,v,u⟩:=h.blk n _ t;refine ⟨b,_,m,l,rfl,rfl,rfl,rfl,rfl,v,u,?_⟩;refine qip h t rfl m l rfl ?_ (fun _=>trivial);refine ⟨b,tmps,D,fn,m,World.putObj_heap_same (Zj l),v,?_⟩
  have o : ¬ Z b:=fun z=>by
    obtain ⟨c,e,f,x⟩:=h.zc b z;rw [l] at x;cases x
  refine u.mono (fun k d=>World.putObj_heap_other (fun e=>o (e ▸ d))) (fun _ h=>h) ?_ (fun _ _=>rfl) (Nat.le_refl _);intro k c e f d;by_cases a : k = b
  · subst a;rw [l] at d;cases d
  · exact ⟨c,e,f,(World.putObj_heap_other a).trans d,rfl⟩
theorem qrf (h : RelH w Z inj hp nx) {n : Nat} {s : List (Nat × V)} {k : List Tmp} {as m : Code} {d : LoopState} {pe : Option Code} (f : find hp n = some (.loop s k as m d pe)) : ∃ b r,inj n = some (b,0)∧w.heap[b]? = some (.loop r)∧
    r.state = d∧r.pending = pe∧∀ a : Loop,a.defers = r.defers→RelH (w.putObj b (.loop a)) Z inj (repl hp n .dead) nx∧Ext w Z inj hp (w.putObj b (.loop a)) Z inj (repl hp n .dead) pin:=by
  obtain ⟨j,b,tmps,D,fn,c,g,p,o⟩:=h.blk n _ f;exact ⟨b,_,c,g,rfl,rfl,fun a l=>qip h f rfl c g l trivial (fun _=>trivial)⟩
theorem qfz : ∀ (a : List V) (k t : Nat) (v : V),find (Kv k a) t = some v→k≤t∧a[t - k]? = some v
  | [],k,t,v,h=>by simp [Kv,find] at h
  | x::r,k,t,v,h=>by
    simp only [Kv,Kj] at h
    split at h
    · rename_i e;subst e;cases h;simp
    · rename_i e
      obtain ⟨d,b⟩:=qfz r (k + 1) t v h
      refine ⟨q6,?_⟩
      obtain ⟨m,c⟩ : ∃ m,t - k = m + 1:=⟨t - k - 1,q6⟩
      have : t - (k + 1) = m:=by omega
      rw [this] at b
      rw [c];simpa using b
theorem qri {b : List V} {xs : Array Value} (n : Nat) (h : LRel w Z inj nx b xs) : Yc w Z inj nx (Kv 0 b) (xs ++ Array.replicate (n - xs.size) undef):=by
  intro t v f;obtain ⟨_,c⟩:=qfz b 0 t v f;simp at c;have a : t < xs.size:=by rw [← h.1];exact K9 c
  obtain ⟨x,d⟩:=Ky a;exact ⟨x,by rw [Array.getElem?_append_left a];exact d,h.2 t v x c d⟩
theorem qir : ∀ (f : List Tmp) (g : List V) (xs : List Value) (s : List (Nat × V)) (tmps : Array Value),g.length = xs.length→(∀ (i : Nat) (d : V) (c : Value),g[i]? = some d→xs[i]? = some c→RelV w Z inj nx d c)→(∀ p∈f,p < tmps.size)→
    Yc w Z inj nx s tmps→Yc w Z inj nx (q15 s f g) ((f.zip xs).foldl (fun tmps (x : Tmp × Value)=>tmps.setIfInBounds x.1 x.2) tmps)∧((f.zip xs).foldl (fun tmps (x : Tmp × Value)=>tmps.setIfInBounds x.1 x.2) tmps).size = tmps.size
  | [],g,xs,s,tmps,hl,hr,hp,h=>by simpa [q15] using h
  | p::f,[],[],s,tmps,hl,hr,hp,h=>by simpa [q15] using h
  | p::f,v::g,x::xs,s,tmps,hl,hr,hp,h=>by
    have m:=hr 0 v x rfl rfl
    have j:=h.put m (hp p qb)
    obtain ⟨a,b⟩:=qir f g xs _ _ (by simpa using hl) (fun i d c hd l=>hr (i + 1) d c (by simpa using hd) (by simpa using l)) (fun q k=>by simpa using hp q (by simp [k])) j
    refine ⟨by simpa [q15] using a,by simpa using b⟩
  | p::f,[],x::xs,s,tmps,hl,hr,hp,h=>by simp at hl
  | p::f,v::g,[],s,tmps,hl,hr,hp,h=>by simp at hl
theorem qgy {fn : Func} {st : AS} {v : V} (hT : Yk P T) {w0 : World} {Z0 : Nat→Prop} {inj0 : Inj} {hp0 : List (Nat × Blk)} {R : Ending→World→Prop} (m : resV T st fn.results.toList = some v)
    (hR : ∀ x w' Z' inj',RelH w' Z' inj' st.hp st.nx→Ext w0 Z0 inj0 hp0 w' Z' inj' st.hp pin→RelV w' Z' inj' st.nx v x→R (.returned x) w') : ∀ (Ds : List Nat) (w : World) (Z : Nat→Prop) (inj : Inj) (a : Act),
      Yc w Z inj st.nx st.sl a.tmps→RelH w Z inj st.hp st.nx→Ext w0 Z0 inj0 hp0 w Z inj st.hp pin→Ds.Nodup→(∀ D∈Ds,w.heap[D]? = some (.deferred (some []))∧w0.heap.size≤D)→
      LeavesInM (Fw none) 0 P fn a.tmps R (Ds.map fun D=>{target:=.collected D,args:=#[]}) .returning w
  | [],w,Z,inj,a,hs,hh,he,_,_=>by
    obtain ⟨x,hx,hv⟩:=qro (a:=a) hT hh hs m
    exact ⟨x,hx,hR x w Z inj hh he hv⟩
  | D::Ds,w,Z,inj,a,hs,hh,he,hnd,hm=>by
    obtain ⟨q,ao⟩:=hm D qb
    have l:=List.nodup_cons.1 hnd
    refine ⟨qb,.inl ⟨D,_,rfl,run_takeDeferred q,?_⟩⟩
    have d : ∀ k,k≠D→(w.putObj D (.deferred none)).heap[k]? = w.heap[k]?:=fun k g=>World.putObj_heap_other g
    have ac : ¬ Z D:=fun s=>by obtain ⟨c,e,f,hc⟩:=hh.zc D s;rw [q] at hc;cases hc
    have y : ¬ im st.hp inj D:=fun hi=>by rcases hh.im_obj hi with ⟨_,_,e⟩ | ⟨_,e⟩ | ⟨_,_,e⟩ <;> rw [q] at e <;> cases e
    have s : ∀ k,Z k→(w.putObj D (.deferred none)).heap[k]? = w.heap[k]?:=fun k g=>d k fun e=>ac (e ▸ g)
    have o : Za w (w.putObj D (.deferred none)):=fun k c e f g=>by
      by_cases t : k = D
      · subst t;rw [q] at g;cases g
      · exact ⟨c,e,f,(d k t).trans g,rfl⟩
    refine qgy hT m hR Ds _ Z inj a (hs.mono s (fun _ h=>h) o (fun _ _=>rfl) (Nat.le_refl _)) ⟨?_,hh.sep,hh.out,fun k g=>by simpa using hh.zs k g,?_⟩ ?_ l.2 ?_
    · intro n b hn
      obtain ⟨j,u⟩:=hh.blk n b hn
      exact ⟨j,u.mono s (fun _ h=>h) o (fun _ _=>rfl) (Nat.le_refl _) j fun p hp hl=>d _ fun e=>y ⟨n,b,p.2,hn,hl,by rw [← e];exact hp⟩⟩
    · intro k g
      obtain ⟨c,e,f,hc⟩:=hh.zc k g
      exact ⟨c,e,f,(s k g).trans hc⟩
    · refine ⟨by simpa using he.size,fun b hb hi=>(d b q6).trans (he.keep b hb hi),he.imm,?_,?_,he.zin,he.zout,he.pinj,he.tape,he.os,he.output,fun x=>(qbx (fun _ _ _=>by rw [q];simp) (fun _ _ _=>qb) x).trans (he.frz x)⟩
      · intro b c e f hb
        obtain ⟨c1,e1,f1,j,s1⟩:=he.big b c e f hb
        obtain ⟨c2,e2,f2,u,s2⟩:=o b c1 e1 f1 j
        exact ⟨c2,e2,f2,u,s2.trans s1⟩
      · intro b r hb
        obtain ⟨r1,j,s1⟩:=he.loops b r hb
        exact ⟨r1,(d b (by have:=Zj hb;omega)).trans j,s1⟩
    · intro D' z
      obtain ⟨j,u⟩:=hm D' (by simp [z])
      exact ⟨(d D' (fun e=>l.1 (e ▸ z))).trans j,u⟩
end
end Go.Am
