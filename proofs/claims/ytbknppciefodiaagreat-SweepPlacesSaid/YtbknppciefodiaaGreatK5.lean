/- Am23 Am24 Am25 -/
import Derived.Test.YtbknppciefodiaaGreatK4
namespace Go.Am
open Go
variable {P : Program} {T : Tab}
section
variable {base : Nat} {w : World} {Z : Nat→Prop} {inj : Inj} {st st1 st2 : AS} {a : Act} {Ds : List Nat} {ops : Array Oper} {o : Oper}
structure Uy (ops : Array Oper) (o : Oper) (x : Fp) (st st2 : AS) : Prop where
  blk : qf8 x st st2
  sl : ∀ t∈reads ops o,st2.get t = st.get t
theorem Uy.ev {x : Fp} (h : Uy ops o x st st2) {y : Operand} (a : y∈o.op.operands) : st2.ev y = st.ev y:=by
  cases y with
  | tmp t=>exact h.sl t (List.mem_append_left _ (by unfold slotsOf;rw [List.mem_filterMap];exact ⟨.tmp t,by simpa using a,rfl⟩))
  | const v=>rfl
  | func f=>rfl
  | global g=>rfl
theorem Uy.guard {x : Fp} (h : Uy ops o x st st2) : Qz ops st2 o = Qz ops st o:=by
  have hs:=h.sl;unfold reads at hs;unfold Qz;grind
theorem Uy.callee {x : Fp} (h : Uy ops o x st st2) {c : Call} (d : o.op = .call c) : callee st2 c = callee st c:=by
  obtain ⟨a,args,argTypes⟩:=c;unfold Am.callee
  cases a with
  | builtin b=>rfl
  | invoke r n=>rfl
  | value f=>
    simp only;rw [h.ev (y:=f) (by rw [d];simp [Op.operands,Call.operands]),q9u (fun x g=>h.ev (y:=x) (by rw [d];simp [Op.operands,Call.operands];exact .inr (by simpa using g)))]
theorem Zb {st : AS} {d : Option Tmp} {v : V} {t : Tmp} : (st.putD d v).get t = if d = some t then some v else st.get t:=by
  cases d with
  | none=>simp [AS.putD]
  | some d=>simp only [AS.putD,AS.put,AS.get,Kz,Option.some.injEq]
theorem qj9 {w : World} {Z : Nat→Prop} {inj : Inj} {nx : Nat} {fz : List Nat} {b : AS} {v : V} {x : Value} (h : RelV w Z inj nx v x) : Wv b (fun n=>n) fz [] nx v v:=by
  induction h with
  | d h=>exact .d (.refl _)
  | @agg ds cs hl _ ih=>
    exact .agg rfl fun i c d a hd=>by
      rw [a] at hd;cases hd;obtain ⟨y,g⟩:=Yj (xs:=cs) (i:=i) (by rw [← hl];exact Kh a);grind
  | @tup ds cs hl _ ih=>
    exact .tup rfl fun i c d a hd=>by
      rw [a] at hd;cases hd;obtain ⟨y,g⟩:=Yj (xs:=cs) (i:=i) (by rw [← hl];exact Kh a);grind
  | @fn f ds cs hl _ ih=>
    exact .fn rfl fun i c d a hd=>by
      rw [a] at hd;cases hd;obtain ⟨y,g⟩:=Yj (xs:=cs) (i:=i) (by rw [← hl];exact Kh a);grind
  | ref h1 h2=>exact .ref rfl qg h1
  | @dref cs j _ _ _ _ _=>exact .dref cs j
  | hsnil h1=>exact .hs rfl qg h1
  | hs h1 _ _ _=>exact .hs rfl qg h1
  | yld h1 _=>exact .yld rfl qg h1
  | mp h1 _=>exact .mp rfl qg h1
  | dead v=>exact .dead _
theorem q16i {w : World} {Z : Nat→Prop} {inj : Inj} {nx n : Nat} {fz : List Nat} {a : AS} {b : Blk} (h : RelB w Z inj nx n b) : Wb a (fun n=>n) fz [] nx b b:=by
  cases b with
  | dead=>exact .dead _
  | dat es xs=>exact .dat _ _
  | mp es=>exact .mp _
  | cel es xs=>
    obtain ⟨_,_,q⟩:=h;refine .cel rfl fun i x y f k=>?_;rw [f] at k;cases k;refine ⟨rfl,fun j c d m hd=>?_⟩;rw [m] at hd;cases hd;rcases q with ⟨rfl,_⟩ | ⟨b,o,arr,ty,_,_,z⟩
    · simp at f
    · obtain ⟨u,c',_,r⟩:=z i x j c f m;exact ⟨qj9 r,u⟩
  | loop s ps assign body dn pe=>
    obtain ⟨b,tmps,D,fn,_,_,_,v⟩:=h;refine .loop fun t g l=>?_;obtain ⟨x,_,p⟩:=v t g l;exact ⟨g,l,qj9 p⟩
theorem qlt {w' : World} {Z' : Nat→Prop} {inj' : Inj} {a' : Act} {r : List Nat} {dst : Option Tmp} {n es : Nat} {xs : List (List DV)} {hp2 : List (Nat × Blk)} (z : RelS w' Z' inj' (st1.putD dst (.hs n es 0 xs.length)) a' r) (u : st1.hp = (n,.dat es xs)::hp2) (hf : find hp2 n = none) (hn : base≤n) (h4 : base≤st1.nx) :
    Wk base (fun n=>n) [n] [] (st1.putD dst (.hs n es 0 xs.length)) (({sl:=st1.sl,hp:=hp2,nx:=st1.nx} : AS).putD dst (.d (.sl es xs))):=by
  have c : (({sl:=st1.sl,hp:=hp2,nx:=st1.nx} : AS).putD dst (.d (.sl es xs))).nx = st1.nx:=Yt _ _ _;have p : (({sl:=st1.sl,hp:=hp2,nx:=st1.nx} : AS).putD dst (.d (.sl es xs))).hp = hp2:=Ys _ _ _
  have g : ∀ m b,find hp2 m = some b→m≠n∧find (st1.putD dst (.hs n es 0 xs.length)).hp m = some b:=by
    intro m b a;have f : m≠n:=by rintro rfl;rw [hf] at a;cases a
    refine ⟨f,?_⟩;rw [Ys,u,Kz,qp (by intro e;exact f e.symm)];exact a
  refine ⟨?_,?_,?_,?_,fun _ _=>rfl,by rw [c];exact h4,fun m a=>by simp at a;omega,fun m a=>by cases a⟩
  · intro t o h;rw [c];rw [Zb] at h;by_cases l : dst = some t
    · rw [qr l] at h;cases h;refine ⟨_,by rw [Zb,qr l],.frz (k:=es) (xs:=xs) ?_ qg q6 qg rfl⟩;show find (st1.putD dst _).hp n = _;rw [Ys,u,Kz,qr rfl]
    · rw [qp l] at h;have w : (st1.putD dst (.hs n es 0 xs.length)).get t = some o:=by rw [Zb,qp l];exact h
      obtain ⟨x,_,s⟩:=z.slots t o w;rw [Yt] at s;exact ⟨o,w,qj9 s⟩
  · intro m q a;rw [c];unfold AS.blk at a;rw [p] at a;obtain ⟨f,j⟩:=g m q a;obtain ⟨y,v⟩:=z.heap.blk m q j;rw [Yt] at y v;exact ⟨y,.inr ⟨qg,q,j,q16i v⟩⟩
  · omega
  · intro m b a _ hc;unfold AS.blk at a;grind
theorem qyb {w : World} {Z : Nat→Prop} {inj : Inj} {a a' : Act} {Ds : List Nat} {w' : World} {dst : Option Tmp} {n es : Nat} {xs : List (List DV)} {hp2 : List (Nat × Blk)}
    (h : Y3 base w Z inj st a Ds (st1.putD dst (.hs n es 0 xs.length)) a' w') (l : st1.hp = (n,.dat es xs)::hp2) (m : find hp2 n = none) (q : base≤n) :
    Y3 base w Z inj st a Ds (({sl:=st1.sl,hp:=hp2,nx:=st1.nx} : AS).putD dst (.d (.sl es xs))) a' w':=by
  obtain ⟨Z',inj',g,j,o,k,f,p⟩:=h;obtain ⟨b,c⟩:=q2i j (qlt j l m q (by rw [Yt] at f;exact f));exact ⟨_,_,g,b,o.trans c (Nat.le_refl _),k,by rw [Yt];rw [Yt] at f;exact f,p⟩
theorem quq {n es : Nat} {xs : List (List DV)} {hp2 : List (Nat × Blk)} (l : Z8 P T) (k : Qz ops st o = some true) (c : opFn T st o.op = some (.hs n es 0 xs.length,st1)) (m : st.nx≤n) (f : st1.hp = (n,.dat es xs)::hp2) (g : find hp2 n = none) :
    Jx P base ops o st (({sl:=st1.sl,hp:=hp2,nx:=st1.nx} : AS).putD o.dst (.d (.sl es xs))):=by
  intro ro Q w Z inj a Ds K h hd hb b j;exact qgn l k c ro Q w Z inj a Ds K h hd hb b fun a' w' hp=>j a' w' (qyb hp f g (Nat.le_trans hb m))
theorem qak {w : World} {Z : Nat→Prop} {inj inj' : Inj} {nx : Nat} {v : V} {x : Value} (h : RelV w Z inj nx v x) (hi : ∀ n p,n < nx→inj n = some p→inj' n = some p) : RelV w Z inj' nx v x:=by
  induction h with
  | d h=>exact .d h
  | agg hl _ ih=>exact .agg hl ih
  | tup hl _ ih=>exact .tup hl ih
  | fn hl _ ih=>exact .fn hl ih
  | ref h1 h2=>exact .ref h1 (hi _ _ h1 h2)
  | dref h1 h2 h3=>exact .dref h1 h2 h3
  | hsnil h1=>exact .hsnil h1
  | hs h1 h2 hsp h3=>
    refine .hs h1 h2 hsp fun a=>?_;grind
  | yld h1 h2=>exact .yld h1 (hi _ _ h1 h2)
  | mp h1 h2=>exact .mp h1 (hi _ _ h1 h2)
  | dead v=>exact .dead v
theorem qod {w : World} {Z : Nat→Prop} {inj inj' : Inj} {nx n : Nat} {b : Blk} (h : RelB w Z inj nx n b) (hi : ∀ n p,n < nx→inj n = some p→inj' n = some p) (m : n < nx) (r : inj n = none→inj' n = none) : RelB w Z inj' nx n b:=by
  cases b with
  | dead=>trivial
  | dat es xs=>
    obtain ⟨f,a,g⟩:=h;refine ⟨f,a,?_⟩;grind
  | mp es=>
    obtain ⟨b,k,cl,f,a⟩:=h;exact ⟨b,k,cl,hi _ _ m f,a⟩
  | cel es xs=>
    obtain ⟨f,a,g⟩:=h;refine ⟨f,a,?_⟩;rcases g with ⟨g,l⟩ | ⟨b,o,arr,ty,g,l,h5⟩
    · grind
    · refine .inr ⟨b,o,arr,ty,hi _ _ m g,l,fun i x j d q hd=>?_⟩;obtain ⟨y,c,h7,h8⟩:=h5 i x j d q hd;exact ⟨y,c,h7,qak h8 hi⟩
  | loop s ps assign body dn pe=>
    obtain ⟨b,tmps,D,fn,f,a,g,l⟩:=h;refine ⟨b,tmps,D,fn,hi _ _ m f,a,g,fun t v z=>?_⟩;obtain ⟨x,q,u⟩:=l t v z;exact ⟨x,q,qak u hi⟩
def qcf (base lo hi : Nat) (w : World) (Z : Nat→Prop) (inj : Inj) (st : AS) (a : Act) (Ds : List Nat) (st' : AS) (a' : Act) (w' : World) : Prop:=
  ∃ Z' inj' Ds',RelS w' Z' inj' st' a' Ds'∧Ext w Z inj st.hp w' Z' inj' st'.hp base∧a'.tmps.size = a.tmps.size∧(∀ D∈Ds',D∈Ds∨w.heap.size≤D)∧∀ m,m < st.nx→(m < lo∨hi≤m)→inj' m = inj m
def qfa (P : Program) (base : Nat) (ops : Array Oper) (o : Oper) (st st' : AS) (lo hi : Nat) : Prop:=
  ∀ (ro : Option Nat) (Q : Exit→Act→World→Prop) (w : World) (Z : Nat→Prop) (inj : Inj) (a : Act) (Ds : List Nat) (K : Act→World→Prop),RelS w Z inj st a Ds→Jh a.tmps.size o.dst = true→base≤lo→base≤st.nx→Yo ro w→(∀ m,lo≤m→m < hi→inj m = none)→
    (∀ a' w',qcf base lo hi w Z inj st a Ds st' a' w'→K a' w')→Ux P (Fw ro) ops Q o K a w
theorem qm0 {st' : AS} {lo hi : Nat} (h : Jx P st.nx ops o st st') : qfa P base ops o st st' lo hi:=by
  intro ro Q w Z inj a Ds K g hd _ hb c _ k;refine h ro Q w Z inj a Ds K g hd (Nat.le_refl _) c fun a' w' hp=>k a' w' ?_;obtain ⟨Z',inj',b,n,d,j,p,f⟩:=hp;exact ⟨Z',inj',b,n,d.pin_le hb,j,f,fun m l _=>d.pinj m l⟩
theorem qoj {w : World} {Z : Nat→Prop} {inj : Inj} {w' : World} {Z' : Nat→Prop} {inj' b : Inj} {N l : Nat} {v : V} {x k : Value} (h : RelV w Z inj N v x) (g : RelV w' Z' inj' l v k) (hi : ∀ m p,m < N→inj' m = some p→b m = some p) : RelV w' Z' b N v k:=by
  induction g generalizing x with
  | d g=>exact .d g
  | @agg ds cs hl _ ih=>
    cases h with | @agg _ cs0 hl0 h0=>
    refine .agg hl fun i d c hd j=>?_;grind
  | @tup ds cs hl _ ih=>
    cases h with | @tup _ cs0 hl0 h0=>
    refine .tup hl fun i d c hd j=>?_;grind
  | @fn f ds cs hl _ ih=>
    cases h with | @fn _ _ cs0 hl0 h0=>
    refine .fn hl fun i d c hd j=>?_;grind
  | ref h1 h2=>
    have a:=by cases h with | ref h1 _=>exact h1
    exact .ref a (hi _ _ a h2)
  | dref h1 h2 h3=>exact .dref h1 h2 h3
  | hsnil h1=>
    have a:=by cases h with
      | hsnil h1=>exact h1
      | hs h1 _ _ _=>exact h1
    exact .hsnil a
  | hs h1 h2 hsp h3=>
    have a:=by cases h with
      | hsnil h1=>exact h1
      | hs h1 _ _ _=>exact h1
    refine .hs a h2 hsp fun j=>?_;grind
  | yld h1 h2=>
    have a:=by cases h with | yld h1 _=>exact h1
    exact .yld a (hi _ _ a h2)
  | mp h1 h2=>
    have a:=by cases h with | mp h1 _=>exact h1
    exact .mp a (hi _ _ a h2)
  | dead v=>exact .dead v
theorem qzh {w : World} {Z : Nat→Prop} {inj : Inj} {w' : World} {Z' : Nat→Prop} {inj' a : Inj} {N N' n : Nat} {b : Blk} (h : RelB w Z inj N n b) (r : RelB w' Z' inj' N' n b) (hi : ∀ m p,m < N→inj' m = some p→a m = some p) (z : a n = inj' n) : RelB w' Z' a N n b:=by
  cases b with
  | dead=>trivial
  | dat es xs=>
    obtain ⟨g,f,k⟩:=r;refine ⟨g,f,?_⟩;grind
  | mp es=>
    obtain ⟨b,l,cl,g,f⟩:=r;exact ⟨b,l,cl,z.trans g,f⟩
  | cel es xs=>
    obtain ⟨g,f,k⟩:=r;refine ⟨g,f,?_⟩;rw [z];rcases k with k | ⟨b,o,arr,ty,k,y,h5⟩
    · grind
    · refine .inr ⟨b,o,arr,ty,k,y,fun i x j d q hd=>?_⟩;obtain ⟨h6,c,h7,h8⟩:=h5 i x j d q hd;obtain ⟨_,_,k3⟩:=h;rcases k3 with ⟨rfl,_⟩ | ⟨_,_,_,_,_,_,k5⟩
      · simp at q
      · obtain ⟨_,c0,_,k8⟩:=k5 i x j d q hd;exact ⟨h6,c,h7,qoj k8 h8 hi⟩
  | loop s ps assign body dn pe=>
    obtain ⟨b,tmps,D,fn,g,f,k,y⟩:=r;obtain ⟨_,_,_,_,_,_,_,k4⟩:=h;refine ⟨b,tmps,D,fn,z.trans g,f,k,fun t v ht=>?_⟩;obtain ⟨x,q,hr⟩:=y t v ht;obtain ⟨x0,_,u⟩:=k4 t v ht;exact ⟨x,q,qoj u hr hi⟩
theorem qlz {mk : Nat→V} {es q : Nat} {xs : List (List DV)} {f : List (Nat × Blk)} (hT : Z8 P T) (hg : Qz ops st o = some true) (hk : (∃ es,mk = fun n=>.ref n es 0 0)∨(∃ es l,mk = fun n=>.hs n es 0 l)∨(mk = fun n=>.mp n))
    (ho : opFn T st o.op = some (mk st.nx,⟨st.sl,(st.nx,.dat es xs)::f,st.nx + 1⟩)) (hq : q < st.nx) (aw : find st.hp q = none) (hold : ∀ m c,find f m = some c→c = .dead∨find st.hp m = some c) (ad : ∀ m,find st.hp m = none→find f m = none) :
    qfa P base ops o st (({sl:=st.sl,hp:=(q,.dat es xs)::f,nx:=st.nx} : AS).putD o.dst (mk q)) q (q + 1):=by
  intro ro Q w Z inj a Ds K h hd bf hb _ ai hK;have ap : inj q = none:=ai q (Nat.le_refl _) q6;unfold Ux;rw [q4a h hg];simp only [if_true];refine ⟨fun _ _=>trivial,?_⟩;rw [show (Fw ro).round = ro from rfl,Oper.semAt_eq ro _ o (qnk ho)];obtain ⟨x,w',inj',hr,hv,hh,j,-,-⟩:=qnl hT h ho;simp only at hv hh j;obtain ⟨d,al⟩ : ∃ d : Inj,d = fun m=>if m = q then inj' st.nx else inj' m:=⟨_,rfl⟩
  have ab : d q = inj' st.nx:=by rw [al];simp
  have af : ∀ m,m≠q→d m = inj' m:=fun m g=>by rw [al];simp [g]
  have hi : ∀ m p,m < st.nx→inj' m = some p→d m = some p:=fun m p g hp=>by
    by_cases k : m = q
    · subst k;rw [j.pinj m g,ap] at hp;cases hp
    grind
  have ak : ∀ m c,find f m = some c→m < st.nx:=fun m c g=>by
    cases hf : find st.hp m with
    | none=>rw [ad m hf] at g;cases g
    | some b=>exact (h.heap.blk m b hf).1
  have bp : ∀ m c,find f m = some c→m≠q:=fun m c g e=>by grind
  have up : ∀ m c,find f m = some c→find ((st.nx,Blk.dat es xs)::f) m = some c:=fun m c g=>by
    rw [Kz,qp (by have:=ak m c g;omega)];exact g
  have ag : find ((st.nx,Blk.dat es xs)::f) st.nx = some (.dat es xs):=by rw [Kz,qr rfl]
  have back : ∀ m c,find ((q,Blk.dat es xs)::f) m = some c→∃ z,find ((st.nx,Blk.dat es xs)::f) z = some c∧d m = inj' z∧((m = q∧z = st.nx)∨(m≠q∧z = m)):=by
    intro m c g;rw [Kz] at g;grind
  have hH : RelH w' Z d ((q,Blk.dat es xs)::f) st.nx:=by
    refine ⟨fun m c g=>?_,fun m n b c p r h1 u h3 h4 h5 h6 ax=>?_,fun m b p h1 u h3=>?_,hh.zs,hh.zc⟩
    · rw [Kz] at g;by_cases k : q = m
      · subst k;rw [qr rfl] at g;cases g;refine ⟨hq,?_⟩;obtain ⟨_,k1,k2,k3⟩:=hh.blk st.nx _ ag;exact ⟨k1,k2,by rw [ab];exact k3⟩
      · rw [qp k] at g;refine ⟨ak m c g,?_⟩;rcases hold m c g with rfl | av
        · trivial
        · exact qzh (h.heap.blk m c av).2 (hh.blk m c (up m c g)).2 hi (af m (Ne.symm k))
    · obtain ⟨z,a1,a2,a3⟩:=back m b h1;obtain ⟨n',b1,b2,b3⟩:=back n c u;refine hh.sep z n' b c p r a1 b1 h3 h4 (a2 ▸ h5) (b2 ▸ h6) ?_;rcases a3 with ⟨rfl,rfl⟩ | ⟨a3,rfl⟩ <;> rcases b3 with ⟨rfl,rfl⟩ | ⟨b3,rfl⟩
      · omega
      · intro e;have : find f n' = some c:=by rw [Kz,qp (Ne.symm b3)] at u;exact u
        grind
      · intro e;have : find f z = some b:=by rw [Kz,qp (Ne.symm a3)] at h1;exact h1
        grind
      · exact ax
    · obtain ⟨z,a1,a2,_⟩:=back m b h1;exact hh.out z b p a1 u (a2 ▸ h3)
  have hE : Ext w Z inj st.hp w' Z d ((q,Blk.dat es xs)::f) base:=by
    refine ⟨j.size,j.keep,?_,j.big,j.loops,j.zin,j.zout,fun n hn=>?_,j.tape,j.os,j.output,j.frz⟩
    · rintro b ⟨m,c,off,g1,g2,g3⟩;obtain ⟨z,a1,a2,_⟩:=back m c g1;exact j.imm b ⟨z,c,off,a1,g2,a2 ▸ g3⟩
    · rw [af n q6];exact j.pinj n q6
  have hV : RelV w' Z d st.nx (mk q) x:=by
    rcases hk with ⟨es,rfl⟩ | ⟨es,l,rfl⟩ | rfl
    rotate_right
    · cases hv with | mp h1 u=>exact .mp hq (ab.trans u)
    · cases hv with | ref h1 u=>exact .ref hq (ab.trans u)
    · cases hv with
      | hsnil h1=>exact .hsnil hq
      | hs h1 u hsp h3=>
        refine .hs hq u hsp fun hc=>?_;grind
  have hS : Yz w' Z d st.nx st.sl a.tmps:=fun t v ht=>by
    obtain ⟨y,hy,hr⟩:=h.slots t v ht;exact ⟨y,hy,qak (hr.mono (j.zkeep h.heap) j.zin j.big j.pinj (Nat.le_refl _)) hi⟩
  have s : qcf base q (q + 1) w Z inj st a Ds (({sl:=st.sl,hp:=(q,.dat es xs)::f,nx:=st.nx} : AS).putD o.dst (mk q)) (a.put o.dst x) w':=by
    refine ⟨Z,d,Ds,?_,by rw [Ys];exact hE,qo0 _ _ _,fun _ h=>.inl h,fun m g k=>?_⟩
    · generalize bc : o.dst = dst at hd
      cases dst with
      | none=>exact ⟨hS,hH,h.defs,h.nodup,fun D hD=>j.marks h.heap (h.marks D hD)⟩
      | some t=>exact ⟨hS.put hV (qky hd),hH,h.defs,h.nodup,fun D hD=>j.marks h.heap (h.marks D hD)⟩
    · rw [af m q6];exact j.pinj m g
  rcases hr with hr | ⟨hr,rfl⟩
  · rw [hr];exact hK _ _ s
  · rw [hr];exact hK _ _ s
theorem qya {w : World} {Z : Nat→Prop} {inj : Inj} {a a' : Act} {Ds : List Nat} {w' : World} {dst : Option Tmp} {n es lo hi : Nat} {xs : List (List DV)} {hp2 : List (Nat × Blk)} (f : base≤st1.nx)
    (h : qcf base lo hi w Z inj st a Ds (st1.putD dst (.hs n es 0 xs.length)) a' w') (q : st1.hp = (n,.dat es xs)::hp2) (r : find hp2 n = none) (u : base≤n) :
    qcf base lo hi w Z inj st a Ds (({sl:=st1.sl,hp:=hp2,nx:=st1.nx} : AS).putD dst (.d (.sl es xs))) a' w':=by
  obtain ⟨Z',inj',g,k,o,l,p,t⟩:=h;have hp : Y3 base w Z inj st a Ds (st1.putD dst (.hs n es 0 xs.length)) a' w':=⟨Z',inj',g,k,o,l,by rw [Yt];exact f,p⟩
  obtain ⟨b,c⟩:=q2i k (qlt k q r u f);refine ⟨_,_,g,b,o.trans c (Nat.le_refl _),l,p,fun m s j=>?_⟩;rw [← t m s j];simp [wkI]
structure Jz (P : Program) (ops : Array Oper) (o : Oper) (x : Fp) (st st1 : AS) : Prop where
  nx : st.nx≤st1.nx
  sl : ∀ t,o.dst≠some t→st1.get t = st.get t
  hp : ∀ m,m ∉ x.2→find st1.hp m = find st.hp m
  keys : ∀ m,st1.nx≤m→find st.hp m = none→find st1.hp m = none
  fresh : ∀ m,st.nx≤m→m < st1.nx→m∈x.2
  other : ∀ st2,st1.nx≤st2.nx→Uy ops o x st st2→(∀ m,st.nx≤m→m < st1.nx→find st2.hp m = none)→∃ st3,st3.nx = st2.nx∧(∀ base,qfa P base ops o st2 st3 st.nx st1.nx)∧
    (∀ t,o.dst≠some t→st3.get t = st2.get t)∧(∀ t,o.dst = some t→st3.get t = st1.get t)∧(∀ m∈x.2,find st3.hp m = find st1.hp m)∧(∀ m,m ∉ x.2→find st3.hp m = find st2.hp m)
theorem qip : ∀ {b : List Nat} {n : Nat},hasN b n = true→n∈b
  | a::r,n,h=>by
    simp only [hasN,Bool.or_eq_true] at h
    rcases h with h | h
    · rw [Nat.eq_of_beq_eq_true h];simp
    · exact List.mem_cons_of_mem _ (qip h)
theorem qmy : ∀ {b : List Nat} {n : Nat},n∈b→hasN b n = true
  | a::r,n,h=>by
    simp only [hasN,Bool.or_eq_true]
    rcases List.mem_cons.1 h with rfl | h
    · left;exact Nat.beq_refl _
    · exact .inr (qmy h)
theorem qln (y : Fp) : fpLe (some [],[]) y = true:=by
  unfold fpLe;cases y.1 <;> rfl
theorem Jz.mono {x y : Fp} (h : Jz P ops o x st st1) (l : fpLe x y = true) : Jz P ops o y st st1:=by
  simp only [fpLe,Bool.and_eq_true,subN,List.all_eq_true] at l;obtain ⟨t,g⟩:=l;have c : ∀ m∈x.2,m∈y.2:=fun m a=>qip (t m a);refine ⟨h.nx,h.sl,fun m a=>h.hp m fun e=>a (c m e),h.keys,fun m b hb=>c m (h.fresh m b hb),fun st2 v b s=>?_⟩
  have f : Uy ops o x st st2:=by
    refine ⟨⟨fun m a=>b.blk.1 m (c m a),?_⟩,b.sl⟩;have hb:=b.blk.2;revert g hb
    cases y.1 with
    | none=>grind
    | some r=>
      cases x.1 with
      | none=>simp
      | some r'=>
        intro g hb m a;exact hb m (qip (by simpa using List.all_eq_true.1 g m a))
  obtain ⟨d,n,q,p,u,w,j⟩:=h.other st2 v f s;refine ⟨d,n,q,p,u,fun m a=>?_,fun m a=>j m fun e=>a (c m e)⟩;by_cases k : m∈x.2
  · grind
  · rw [j m k,h.hp m k];exact b.blk.1 m a
theorem qpx {v : V} {x : Fp} (c : x.2 = []) (a : ∀ st2,Uy ops o x st st2→Jx P st2.nx ops o st2 (st2.putD o.dst v)) : Jz P ops o x st (st.putD o.dst v):=by
  refine ⟨by rw [Yt];exact Nat.le_refl _,fun t h=>by rw [Zb,qp h],fun m _=>by rw [Ys],fun m _ h=>by rw [Ys];exact h,fun m g a=>by rw [Yt] at a;omega,fun st2 f d _=>?_⟩;refine ⟨st2.putD o.dst v,Yt _ _ _,fun base=>qm0 (a st2 d),fun t h=>by rw [Zb,qp h],fun t h=>by rw [Zb,Zb,qr h,qr h],fun m b=>(by rw [c] at b;cases b),fun m _=>by rw [Ys]⟩
theorem q152 (b : Qz ops st o = some false) : Jz P ops o (some [],[]) st (st.putD o.dst (.d (.tup []))):=
  qpx rfl fun _ a=>qm2 (a.guard.trans b)
theorem qtn {b : Blk} {n : Nat} {sl : List (Nat × V)} {hp1 : List (Nat × Blk)} {v : V} {op : Op} (c : opFn T st op = some (v,⟨sl,(st.nx,b)::hp1,n + 1⟩)) (f : st.nx = n) (h : q45 st op ⟨sl,(st.nx,b)::hp1,n + 1⟩ = true) : ∃ es xs,b = .dat es xs:=by
  by_cases d : touch op = 2
  · simp only [q45,d] at h
    cases b with
    | dat es xs=>exact ⟨es,xs,rfl⟩
    | _=>simp at h
  · have a : touch op≤1:=by
      have : touch op≤2:=by unfold touch;split <;> omega
      omega
    have g:=(qho (st2:=st) c a (fun _=>rfl) (fun _ _=>rfl)).1;grind
theorem q150 {v : V} (y : Z8 P T) (w : Qz ops st o = some true) (u : opFn T st o.op = some (v,st1)) (hd : q45 st o.op st1 = true) : Jz P ops o (fp st o.op) st (st1.putD o.dst v):=by
  cases qng u with
  | calm hsl hnx hhp hnone hall=>
    have g : ∀ t,st1.get t = st.get t:=fun t=>by unfold AS.get;rw [hsl]
    refine ⟨by rw [Yt];omega,fun t h=>by rw [Zb,qp h,g],fun m a=>by rw [Ys];exact hhp m a,fun m _ h=>by rw [Ys];exact hnone m h,fun m s n=>by rw [Yt] at n;omega,fun st2 r c _=>?_⟩;obtain ⟨d,q,l,j⟩:=hall st2 (fun x p=>c.ev p) c.blk;refine ⟨(⟨st2.sl,d,st2.nx⟩ : AS).putD o.dst v,Yt _ _ _,fun base=>qm0 (qgn y (c.guard.trans w) q),fun t h=>by rw [Zb,qp h];rfl,fun t h=>by rw [Zb,Zb,qr h,qr h],fun m a=>?_,fun m a=>?_⟩
    · rw [Ys,Ys];exact l m a
    · rw [Ys];exact j m a
  | new mk b hp1 hk hv s hmem hhp hnone hall=>
    subst s;obtain ⟨es,xs,rfl⟩:=qtn u rfl hd;refine ⟨by rw [Yt];exact Nat.le_succ _,fun t h=>by rw [Zb,qp h];rfl,fun m a=>?_,fun m a h=>?_,fun m s n=>?_,fun st2 r c k=>?_⟩
    · rw [Ys,Kz,qp (by rintro rfl;exact a hmem)];exact hhp m a
    · rw [Yt] at a;rw [Ys,Kz,qp (by simp only at a;omega)];exact hnone m h
    · rw [Yt] at n;grind
    · rw [Yt] at r k ⊢;simp only at r k;obtain ⟨d,q,l,j,k4⟩:=hall st2 (fun x p=>c.ev p) c.blk;have f:=k st.nx (Nat.le_refl _) q6;refine ⟨(⟨st2.sl,(st.nx,.dat es xs)::d,st2.nx⟩ : AS).putD o.dst (mk st.nx),Yt _ _ _,fun base=>qlz y (c.guard.trans w) hk q q6 f k4 (fun m a=>?_),fun t h=>by rw [Zb,qp h];rfl,fun t h=>by rw [Zb,Zb,qr h,qr h,hv],fun m a=>?_,fun m a=>?_⟩
      · by_cases z : m∈(fp st o.op).2
        · rw [l m z];refine hnone m ?_;rw [← c.blk.1 m z];exact a
        grind
      · rw [Ys,Ys,Kz,Kz];grind
      · rw [Ys,Kz,qp (by rintro rfl;exact a hmem)];exact j m a
theorem q151 {n es : Nat} {xs : List (List DV)} {hp2 : List (Nat × Blk)} (hT : Z8 P T) (hg : Qz ops st o = some true) (ho : opFn T st o.op = some (.hs n es 0 xs.length,st1)) (q : n = st.nx∧st1.nx = n + 1) (u : st1.hp = (n,.dat es xs)::hp2) (hf : find hp2 n = none) :
    Jz P ops o (fp st o.op) st (({sl:=st1.sl,hp:=hp2,nx:=st1.nx} : AS).putD o.dst (.d (.sl es xs))):=by
  obtain ⟨rfl,aj⟩:=q
  cases qng ho with
  | calm hsl hnx hhp hnone hall=>omega
  | new mk b hp1 hk hv z hmem hhp hnone hall=>
    subst z;simp only [List.cons.injEq,Prod.mk.injEq,true_and] at u;obtain ⟨rfl,rfl⟩:=u;refine ⟨by rw [Yt];exact Nat.le_succ _,fun t h=>by rw [Zb,qp h];rfl,fun m g=>by rw [Ys];exact hhp m g,fun m g h=>by rw [Ys];exact hnone m h,fun m z h2=>?_,fun st2 q r j=>?_⟩
    · rw [Yt] at h2;grind
    · rw [Yt] at q j ⊢;simp only at q j;obtain ⟨k,k1,v,k3,k4⟩:=hall st2 (fun x hx=>r.ev hx) r.blk;have f:=j st.nx (Nat.le_refl _) q6
      have c : ∀ m,find st2.hp m = none→find k m = none:=fun m g=>by
        by_cases y : m∈(fp st o.op).2
        · rw [v m y];refine hnone m ?_;rw [← r.blk.1 m y];exact g
        grind
      refine ⟨(⟨st2.sl,k,st2.nx⟩ : AS).putD o.dst (.d (.sl es xs)),Yt _ _ _,fun base=>?_,fun t h=>by rw [Zb,qp h];rfl,fun t h=>by rw [Zb,Zb,qr h,qr h],fun m g=>by rw [Ys,Ys];exact v m g,fun m g=>by rw [Ys];exact k3 m g⟩;intro ro Q w Z inj a Ds K h hd l hb s p hK;refine qlz (base:=base) hT (r.guard.trans hg) hk k1 q6 f k4 c ro Q w Z inj a Ds K h hd l hb s p fun a' w' hp=>hK a' w' ?_;rw [← hv] at hp;exact qya (st1:=⟨st2.sl,(st.nx,.dat es xs)::k,st2.nx⟩) hb hp rfl (c _ f) l
theorem q15u {hp hp2 : List (Nat × Blk)} (h : ∀ m,find hp2 m = find hp m) : ∀ k,toD hp2 k = toD hp k:=by
  intro k
  induction k with
  | zero=>funext v;cases v <;> rfl
  | succ k ih=>funext v;cases v <;> simp only [toD,ih,h]
theorem qjl {hp hp2 : List (Nat × Blk)} (h : ∀ m,find hp2 m = find hp m) : ∀ {a : List V},Kx hp2 a = Kx hp a
  | []=>rfl
  | v::r=>by simp only [Kx,q15u h,qjl h]
theorem qjm {hp hp2 : List (Nat × Blk)} : ∀ {a : List V},a.all V.isD = true→Kx hp2 a = Kx hp a
  | [],_=>rfl
  | v::r,h=>by
    simp only [List.all_cons,Bool.and_eq_true] at h
    have e : toD hp2 8 v = toD hp 8 v:=by
      cases v <;> first | rfl | (simp [V.isD] at h;done)
    rw [Kx,Kx,e,qjm (hp:=hp) (hp2:=hp2) h.2]
theorem q14z {c : Call} {f : FuncId} {b : List V} {ds : List DV} {v : V} {hp' : List (Nat × Blk)} {nx' : Nat} {n r : DV} (p : Qz ops st o = some true) (m : o.op = .call c) (q : callee st c = some (f,b))
    (j : Kx st.hp b = some ds) (a : Jv P f (ds.map .d) [] 0 v hp' nx') (g : toD hp' 8 v = some n) (l : DLe n r) (hs : b.all V.isD = true∨r.scalar = true) : Jz P ops o (fpC b) st (st.putD o.dst (.d r)):=by
  refine qpx (by unfold fpC;cases b.all V.isD <;> rfl) fun st2 k=>qm1 (k.guard.trans p) m ((k.callee m).trans q) ?_ a g l hs;rw [← j];by_cases hd : b.all V.isD = true
  · exact qjm hd
  · have h:=k.blk.2;simp only [fpC,hd,Q0] at h;exact qjl h
theorem qun {ops : Array Oper} {o : Oper} {c : Call} {f : FuncId} {vs az : List V} {hp0 hp' au ba : List (Nat × Blk)} {k k' aq : Nat} {v' vN : V} {ρ ρ3 : Nat→Nat} {bz ao : List Nat} (hg : Qz ops st o = some true) (ho : o.op = .call c) (hc : callee st c = some (f,vs)) (cc : vs.length = az.length)
    (cj : Wk 0 ρ [] [] {sl:=Yg 0 vs,hp:=st.hp,nx:=st.nx} {sl:=Yg 0 az,hp:=hp0,nx:=k}) (an : Jv P f az hp0 k v' hp' k') (ck : Wk 0 ρ3 bz ao {sl:=[(0,v')],hp:=hp',nx:=k'} {sl:=[(0,vN)],hp:=au,nx:=aq})
    (hb : Back ρ ρ3 ao k k' st.nx aq st.hp au ba) : Jx P base ops o st ({sl:=st.sl,hp:=ba,nx:=aq : AS}.putD o.dst vN):=by
  intro ro Q w Z inj a Ds K h hd bj _ hK;unfold Ux;rw [q4a h hg];simp only [if_true];refine ⟨fun _ _=>trivial,?_⟩;obtain ⟨xs,hr,hl⟩:=qfp h ho hc an.1;rw [show (Fw ro).round = ro from rfl,Oper.semAt_eq ro _ o (by rintro c' h';rw [ho] at h';cases h'),hr,Oper.uponIn_enter];refine ⟨fun h=>by simp [Fw] at h,?_⟩
  have bh : RelS w Z inj {sl:=Yg 0 vs,hp:=st.hp,nx:=st.nx} {a with tmps:=xs,defers:=[]} []:=by
    refine ⟨fun t v ht=>?_,h.heap,rfl,List.nodup_nil,qg⟩;rw [qck] at ht;simp only [Nat.zero_le,if_true,Nat.sub_zero] at ht;obtain ⟨y,hy⟩:=Yj (xs:=xs) (i:=t) (by rw [← hl.1];exact Kh ht);exact ⟨y,hy,hl.2 t v y ht hy⟩
  obtain ⟨bt,aj⟩:=q2i bh cj
  have cv : LRel w (wkZ Z inj {sl:=Yg 0 vs,hp:=st.hp,nx:=st.nx} []) (wkI inj ρ []) k az xs:=by
    refine ⟨by rw [← cc];exact hl.1,fun i d y cx cs=>?_⟩;obtain ⟨y',ch,hr⟩:=bt.slots i d (by rw [qck];simpa using cx);rw [cs] at ch;cases ch;exact hr
  refine CallsIn.mono (an.2 w _ _ xs bt.heap cv) ?_;rintro e w' ⟨x,Z',inj',rfl,hh,co,hv,hn⟩;obtain ⟨s,ag⟩ : ∃ s : Inj,s = fun n=>if n < k' then inj' n else none:=⟨_,rfl⟩
  have ac : ∀ n,n < k'→s n = inj' n:=fun n hn=>by rw [ag];simp [hn]
  have da : RelH w' Z' s hp' k':=by
    refine ⟨fun n b hb=>?_,fun n m b c p q l j u h4 h5 h6=>?_,fun n b p l j u=>?_,hh.zs,hh.zc⟩
    · obtain ⟨k1,k2⟩:=hh.blk n b hb;exact ⟨k1,qod k2 (fun m p hm hp=>(ac m hm).trans hp) k1 (fun hp=>(ac n k1).trans hp)⟩
    · rw [ac n (hh.blk n b l).1] at h5;rw [ac m (hh.blk m c j).1] at h6;exact hh.sep n m b c p q l j u h4 h5 h6
    · rw [ac n (hh.blk n b l).1] at u;exact hh.out n b p l j u
  have cu : RelV w' Z' s k' v' x:=qak hv fun n p hn hp=>(ac n hn).trans hp
  have bm : ∀ b,im hp' s b→im hp' inj' b:=by
    rintro b ⟨n,blk,o,l,j,u⟩;exact ⟨n,blk,o,l,j,by rw [← ac n (hh.blk n blk l).1];exact u⟩
  have bo : RelS w' Z' s {sl:=[(0,v')],hp:=hp',nx:=k'} {a with tmps:=#[x],defers:=[]} []:=by
    refine ⟨fun t v ht=>?_,da,rfl,List.nodup_nil,qg⟩;rw [Kz] at ht;split at ht
    · rename_i e;subst e;cases ht;exact ⟨x,rfl,cu⟩
    · simp [find] at ht
  obtain ⟨ad,ah⟩:=q2i bo ck;generalize dt : wkZ Z' s {sl:=[(0,v')],hp:=hp',nx:=k'} bz = Z3 at ad ah;generalize cf : wkI s ρ3 ao = z at ad ah
  have dh : RelV w' Z3 z aq vN x:=by
    obtain ⟨y,hy,hr⟩:=ad.slots 0 vN (by simp [find]);simp at hy;subst hy;exact hr
  have bg : ∀ i,i < k→inj' i = inj (ρ i):=fun i hi=>by rw [co.pinj i hi];simp [wkI]
  have bu : ∀ m,m < st.nx→∀ p,z m = some p→inj m = some p:=by
    intro m hm p hp;have bd : m ∉ ao:=fun hc=>by have:=hb.phn m hc;omega
    rw [← cf] at hp;simp only [wkI,bd,if_false] at hp;rcases hb.snd m hm with ⟨l,j⟩ | l
    · rw [ag] at hp;simp only [show ρ3 m < k' by omega,if_true] at hp;rw [bg _ l,j] at hp;exact hp
    · rw [ag] at hp;simp [show ¬ ρ3 m < k' by omega] at hp
  obtain ⟨r,af⟩ : ∃ r : Inj,r = fun m=>if m < st.nx then inj m else z m:=⟨_,rfl⟩
  have aa : ∀ m,m < st.nx→r m = inj m:=fun m hm=>by rw [af];simp [hm]
  have ca : ∀ m p,z m = some p→r m = some p:=fun m p hp=>by
    by_cases hm : m < st.nx
    · rw [aa m hm];exact bu m hm p hp
    · rw [af];simp [hm,hp]
  have hR : ∀ m b,find au m = some b→∀ p,r m = some p→z m = some p:=by
    intro m b bk p hp;by_cases hm : m < st.nx
    · rw [aa m hm] at hp;have bd : m ∉ ao:=fun hc=>by have:=hb.phn m hc;omega
      obtain ⟨_,j⟩:=ck.blocks m b bk;rcases j with ⟨j,_⟩ | ⟨_,b0,u,_⟩
      · exact absurd j bd
      · have cy:=(hh.blk _ _ u).1;rcases hb.snd m hm with ⟨k1,k2⟩ | k1
        · rw [← cf];simp only [wkI,bd,if_false];rw [ac _ q6,bg _ k1,k2];exact hp
        · omega
    · rw [af] at hp;simpa [hm] using hp
  have hE : Ext w (wkZ Z inj {sl:=Yg 0 vs,hp:=st.hp,nx:=st.nx} []) (wkI inj ρ []) hp0 w' Z' inj' hp' 0:=co.pin_le (Nat.zero_le _)
  have de : ∀ b,im au z b→im st.hp inj b∨w.heap.size≤b:=by
    intro b cw;rcases ah.imm b cw with l | l
    · rcases hE.imm b (bm b l) with j | j
      · exact aj.imm b j
      · exact .inr j
    · exact .inr (Nat.le_trans hE.size l)
  have keep : ∀ b,b < w.heap.size→¬ im hp0 (wkI inj ρ []) b→w'.heap[b]? = w.heap[b]?:=fun b dd df=>hE.keep b dd df
  have ap : ∀ m b p,find st.hp m = some b→live b = true→inj m = some p→(∀ i,i < k→ρ i≠m)→¬ im hp0 (wkI inj ρ []) p.1:=by
    rintro m b p l j u h4 ⟨i,blk,o,g1,g2,g3⟩;obtain ⟨j1,j2⟩:=cj.blocks i blk g1;rcases j2 with ⟨j2,_⟩ | ⟨_,b0,j3,j4⟩
    · cases j2
    · have cz : inj (ρ i) = some (p.1,o):=by simpa [wkI] using g3
      exact h.heap.sep (ρ i) m b0 b _ p j3 l (qr1 j4 g2) j cz u (h4 i j1) rfl
  have hZ : ∀ b,Z b→Z3 b:=fun b hz=>ah.zin b (hE.zin b (aj.zin b hz))
  have bw : ∀ b,Z3 b→Z b∨im hp0 (wkI inj ρ []) b∨w.heap.size≤b:=by
    intro b hz;rcases ah.zout b hz with l | l | l
    · rcases hE.zout b l with j | j | j
      · rcases aj.zout b j with u | u | u
        · exact .inl u
        · rcases j with j | ⟨n,hn,_⟩
          · exact .inl j
          · cases hn
        · exact .inr (.inr u)
      · exact .inr (.inl j)
      · exact .inr (.inr j)
    · rcases hE.imm b (bm b l) with j | j
      · exact .inr (.inl j)
      · exact .inr (.inr j)
    · exact .inr (.inr (Nat.le_trans hE.size l))
  have be : J4 w w':=hE.big;have bb : qce w w':=hE.loops
  have bv : Ext w Z inj st.hp w' Z3 r ba st.nx:=by
    refine ⟨hE.size,fun b l j=>keep b l (fun u=>(aj.imm b u).elim j (fun h4=>q6)),?_,be,bb,hZ,?_,aa,hE.tape,hE.os,hE.output,hE.frz⟩
    · rintro b ⟨m,blk,o,g1,g2,g3⟩;rcases hb.old m blk g1 with g4 | ⟨g4,_⟩
      · exact de b ⟨m,blk,o,g4,g2,hR m blk g4 _ g3⟩
      · exact .inl ⟨m,blk,o,g4,g2,by rw [← aa m (h.heap.blk m blk g4).1];exact g3⟩
    · intro b hz;rcases bw b hz with l | l | l
      · exact .inl l
      · exact .inr ((aj.imm b l).imp (fun x=>x) (fun x=>x))
      · exact .inr (.inr l)
  have hH : RelH w' Z3 r ba aq:=by
    refine ⟨fun m b bk=>?_,fun m n b c p q l j u h4 h5 h6 ce=>?_,fun m b p l j u hz=>?_,ad.heap.zs,ad.heap.zc⟩
    · rcases hb.old m b bk with g | ⟨g,gi⟩
      · obtain ⟨k1,k2⟩:=ad.heap.blk m b g;refine ⟨k1,qod k2 (fun n p _ hp=>ca n p hp) k1 fun hp=>?_⟩
        cases hq : r m with
        | none=>rfl
        | some p=>rw [hR m b g p hq] at hp;cases hp
      · obtain ⟨k1,k2⟩:=h.heap.blk m b g;refine ⟨Nat.lt_of_lt_of_le k1 hb.nxs,k2.mono (fun b' hz=>?_) hZ be (fun n hn=>aa n hn) hb.nxs k1 fun p hp cd=>?_⟩
        · refine keep b' (h.heap.zs b' hz) fun hi=>?_;rcases aj.imm b' hi with l | l
          · exact h.heap.z_im hz l
          · have:=h.heap.zs b' hz;omega
        · exact keep _ (h.heap.im_lt ⟨m,b,p.2,g,cd,hp⟩) (ap m b p g cd hp gi)
    · have ar : ∀ (m n : Nat) (b c : Blk) (p q : Nat × Nat),find au m = some b→live b = true→r m = some p→find st.hp n = some c→live c = true→r n = some q→(∀ i,i < k→ρ i≠n)→p.1≠q.1:=by
        intro m n b c p q l u h5 j h4 h6 hn e;have hq : inj n = some q:=by rw [← aa n (h.heap.blk n c j).1];exact h6
        have cy:=h.heap.im_lt (b:=q.1) ⟨n,c,q.2,j,h4,hq⟩;rcases ah.imm p.1 ⟨m,b,p.2,l,u,hR m b l p h5⟩ with g1 | g1
        · rcases hE.imm p.1 (bm _ g1) with g2 | g2
          · exact ap n c q j h4 hq hn (e ▸ g2)
          · omega
        · have:=hE.size;omega
      rcases hb.old m b l with g | ⟨g,gi⟩ <;> rcases hb.old n c j with g' | ⟨g',ct⟩
      · exact ad.heap.sep m n b c p q g g' u h4 (hR m b g p h5) (hR n c g' q h6) ce
      · exact ar m n b c p q g u h5 g' h4 h6 ct
      · exact fun e=>ar n m c b q p g' h4 h6 g u h5 gi e.symm
      · exact h.heap.sep m n b c p q g g' u h4 (by rw [← aa m (h.heap.blk m b g).1];exact h5) (by rw [← aa n (h.heap.blk n c g').1];exact h6) ce
    · rcases hb.old m b l with g | ⟨g,gi⟩
      · exact ad.heap.out m b p g j (hR m b g p u) hz
      · have hq : inj m = some p:=by rw [← aa m (h.heap.blk m b g).1];exact u
        rcases bw p.1 hz with h4 | h4 | h4
        · exact h.heap.out m b p g j hq h4
        · exact ap m b p g j hq gi h4
        · have:=h.heap.im_lt (b:=p.1) ⟨m,b,p.2,g,j,hq⟩;omega
  exact hK _ _ (q4g h bj bv hH hb.nxs (qak dh fun n p _ hp=>ca n p hp) hd)
theorem q153 {c : Call} {f : FuncId} {b : List V} {v : V} {hp' : List (Nat × Blk)} {nx' : Nat} (d : Qz ops st o = some true) (g : o.op = .call c) (h : callee st c = some (f,b)) (a : Jv P f b st.hp st.nx v hp' nx') :
    Jx P base ops o st ({sl:=st.sl,hp:=hp',nx:=nx' : AS}.putD o.dst v):=qup d g h a
inductive Zs (P : Program) (base : Nat) (ops : Array Oper) : List Oper→AS→AS→Prop
  | nil {st : AS} : Zs P base ops [] st st
  | cons {o : Oper} {l : List Oper} {st st1 st2 : AS} : Jx P base ops o st st1→Zs P base ops l st1 st2→Zs P base ops (o::l) st st2
  | wk {ρ : Nat→Nat} {fz ph : List Nat} {l : List Oper} {st st1 st2 : AS} : Wk base ρ fz ph st st1→Zs P base ops l st1 st2→Zs P base ops l st st2
inductive Jw (P : Program) (base : Nat) (ops : Array Oper) (F : List Fp) : List Oper→AS→AS→Prop
  | nil {st : AS} : Jw P base ops F [] st st
  | cons {o : Oper} {l : List Oper} {st st1 st2 : AS} : Jz P ops o (fpAt F l.length) st st1→Jw P base ops F l st1 st2→Jw P base ops F (o::l) st st2
  | piv {o : Oper} {l : List Oper} {st st1 st2 : AS} : Up (fpAt F l.length) = true→Zs P base ops [o] st st1→Jw P base ops F l st1 st2→Jw P base ops F (o::l) st st2
def q1n (P : Program) (base : Nat) (ops : Array Oper) (dr : Dr) (l : List Oper) (st st' : AS) : Prop:=match dr with
  | none=>Zs P base ops l st st'
  | some F=>Jw P base ops F l st st'
theorem qk8 {F : List Fp} : ∀ {l : List Oper} {st st' : AS},Jw P base ops F l st st'→∃ (n : Nat) (S : Nat→AS),n≤l.length∧S 0 = st∧(∀ i o,i < n→l[i]? = some o→Jz P ops o (fpAt F (l.length - (i + 1))) (S i) (S (i + 1)))∧
    ((n = l.length∧S n = st')∨∃ o st1,l[n]? = some o∧Up (fpAt F (l.length - (n + 1))) = true∧Zs P base ops [o] (S n) st1∧Jw P base ops F (l.drop (n + 1)) st1 st')
  | [],st,st',h=>by cases h;exact ⟨0,fun _=>st,Nat.le_refl _,rfl,fun i o h=>q6,.inl ⟨rfl,rfl⟩⟩
  | o::l,st,st',h=>by
    cases h with
    | @cons _ _ _ st1 _ h1 h2=>
      obtain ⟨n,S,p,j,hs,b⟩:=qk8 h2
      refine ⟨n + 1,fun i=>match i with | 0=>st | i + 1=>S i,by simp;omega,rfl,fun i d hi c=>?_,?_⟩
      · cases i with
        | zero=>simp at c;subst c;simp only [j,List.length_cons,Nat.zero_add,Nat.add_sub_cancel];exact h1
        | succ i=>
          have:=hs i d q6 (by simpa using c)
          simp only [List.length_cons]
          rw [show l.length + 1 - (i + 1 + 1) = l.length - (i + 1) by omega]
          exact this
      · rcases b with ⟨a,f⟩ | ⟨d,m,a,f,k,g⟩
        · exact .inl ⟨by simp [a],f⟩
        · refine .inr ⟨d,m,by simpa using a,?_,k,by simpa using g⟩
          rw [List.length_cons,show l.length + 1 - (n + 1 + 1) = l.length - (n + 1) by omega]
          exact f
    | @piv _ _ _ st1 _ h1 h2 a=>exact ⟨0,fun _=>st,Nat.zero_le _,rfl,fun i o h=>q6,.inr ⟨o,st1,rfl,by simpa using h1,h2,by simpa using a⟩⟩
theorem qsd {dr : Dr} {l : List Oper} {st2 : AS} (a : Qz ops st o = some false) (h : q1n P base ops dr l (st.putD o.dst (.d (.tup []))) st2) : q1n P base ops dr (o::l) st st2:=by
  cases dr with
  | none=>exact .cons (qm2 a) h
  | some F=>exact .cons ((q152 a).mono (qln _)) h
theorem qsb {dr : Dr} {l : List Oper} {st2 : AS} {v : V} (d : Z8 P T) (b : Qz ops st o = some true) (c : opFn T st o.op = some (v,st1)) (a : okO dr l.length st o.op st1 = true) (h : q1n P base ops dr l (st1.putD o.dst v) st2) : q1n P base ops dr (o::l) st st2:=by
  cases dr with
  | none=>exact .cons (qgn d b c) h
  | some F=>
    simp only [okO,Bool.and_eq_true] at a;exact .cons ((q150 d b c a.2).mono a.1) h
theorem qsc {dr : Dr} {l : List Oper} {st2 : AS} {n es : Nat} {xs : List (List DV)} {hp2 : List (Nat × Blk)} (c : Z8 P T) (a : Qz ops st o = some true) (b : opFn T st o.op = some (.hs n es 0 xs.length,st1)) (g : n = st.nx∧st1.nx = n + 1) (f : st1.hp = (n,.dat es xs)::hp2) (j : find hp2 n = none) (k : okF dr l.length (fp st o.op) = true)
    (h : q1n P base ops dr l (({sl:=st1.sl,hp:=hp2,nx:=st1.nx} : AS).putD o.dst (.d (.sl es xs))) st2) : q1n P base ops dr (o::l) st st2:=by
  cases dr with
  | none=>exact .cons (quq c a b (Nat.le_of_eq g.1.symm) f j) h
  | some F=>exact .cons ((q151 c a b g f j).mono k) h
theorem qsa {dr : Dr} {l : List Oper} {st2 : AS} {c : Call} {f : FuncId} {k : List V} {ds : List DV} {v : V} {hp' : List (Nat × Blk)} {nx' : Nat} {n r : DV} (p : Qz ops st o = some true) (m : o.op = .call c) (q : callee st c = some (f,k))
    (g : Kx st.hp k = some ds) (a : Jv P f (ds.map .d) [] 0 v hp' nx') (b : toD hp' 8 v = some n) (j : DLe n r) (hs : k.all V.isD = true∨r.scalar = true) (s : okF dr l.length (fpC k) = true) (h : q1n P base ops dr l (st.putD o.dst (.d r)) st2) : q1n P base ops dr (o::l) st st2:=by
  cases dr with
  | none=>exact .cons (qm1 p m q g a b j hs) h
  | some F=>exact .cons ((q14z p m q g a b j hs).mono s) h
def Adm (ops : Array Oper) (S : Nat→Prop) : Prop:=∀ j o,S j→ops[j]? = some o→∀ e∈o.after,Region.binds .any e = true→S e.on
def Behind (ops : Array Oper) (o : Oper) (j : Nat) : Prop:=∀ S : Nat→Prop,Adm ops S→(∀ e∈o.after,Region.binds .any e = true→S e.on)→S j
theorem qmv (acc : List Nat) (j : Nat) : ∀ (l : List Edge) (s : Nat),(l.foldl (fun s e=>if Region.binds .any e then s ||| 2 ^ e.on ||| acc.getD e.on 0 else s) s).testBit j = true→
    s.testBit j = true∨∃ e∈l,Region.binds .any e = true∧(e.on = j∨(acc.getD e.on 0).testBit j = true)
  | [],s,h=>.inl h
  | e::l,s,h=>by
    simp only [List.foldl_cons] at h
    rcases qmv acc j l _ h with h | ⟨d,a,b,c⟩
    · by_cases hb : Region.binds .any e = true
      · simp only [hb,if_true,Nat.testBit_or,Bool.or_eq_true,Nat.testBit_two_pow] at h
        rcases h with (h | h) | h
        · exact .inl h
        · exact .inr ⟨e,qg,hb,.inl (by simpa using h)⟩
        · exact .inr ⟨e,qg,hb,.inr h⟩
      · simp only [hb] at h;exact .inl (by simpa using h)
    · exact .inr ⟨d,List.mem_cons_of_mem _ a,b,c⟩
theorem qmw : ∀ (r : List Oper) (pre : List Oper) (acc : List Nat),ops.toList = pre ++ r→acc.length = pre.length→
    (∀ (i m : Nat),acc[i]? = some m→∃ o,ops[i]? = some o∧∀ j,m.testBit j = true→Behind ops o j)→
    (masks acc r).length = ops.size∧∀ (i m : Nat),(masks acc r)[i]? = some m→∃ o,ops[i]? = some o∧∀ j,m.testBit j = true→Behind ops o j
  | [],pre,acc,h,hl,ha=>by
    refine ⟨?_,ha⟩
    have:=congrArg List.length h
    simp at this
    simp [masks,hl,this]
  | o::r,pre,acc,h,hl,ha=>by
    refine qmw r (pre ++ [o]) (acc ++ [qmu acc o]) (by rw [h];simp) (by simp [hl]) ?_
    intro i m b
    by_cases hi : i < acc.length
    · rw [List.getElem?_append_left hi] at b;exact ha i m b
    · rw [List.getElem?_append_right q6] at b
      have d : i = acc.length:=by
        have:=Kh b;simp at this;omega
      subst d
      simp at b;subst b
      refine ⟨o,by rw [← Array.getElem?_toList,h,hl];simp,fun j u S n s=>?_⟩
      rcases qmv acc j _ _ u with p | ⟨e,v,t,a⟩
      · simp at p
      · have c:=s e (by simpa using v) t
        rcases a with a | a
        · exact a ▸ c
        · rw [List.getD_eq_getElem?_getD] at a
          cases g : acc[e.on]? with
          | none=>rw [g] at a;simp at a
          | some m'=>
            rw [g] at a;obtain ⟨w,f,hb⟩:=ha _ _ g;exact hb j a S n (fun q l k=>n _ _ c f q l k)
theorem qkz : ∀ (l : List Oper) (n : Nat),qcw n l = true→∀ i o,l[i]? = some o→∀ e∈o.after,Region.binds .any e = true→e.on < n + i
  | [],_,_,i,o,h=>by simp at h
  | x::l,n,h,i,o,ho=>by
    simp only [qcw,Bool.and_eq_true,List.all_eq_true] at h
    cases i with
    | zero=>
      simp at ho;subst ho
      intro e a hb
      have:=h.1 e (by simpa using a)
      simp [hb] at this
      exact this
    | succ i=>
      intro e a hb
      have:=qkz l (n + 1) h.2 i o (by simpa using ho) e a hb
      omega
structure q9a (x y : Fp) : Prop where
  ww : ∀ m∈x.2,m ∉ y.2
  rw : ∀ m∈y.2,match x.1 with | none=>False | some r=>m ∉ r
  wr : ∀ m∈x.2,match y.1 with | none=>False | some r=>m ∉ r
theorem qff {a b : List Nat} (h : q9d a b = true) : ∀ m∈a,m ∉ b:=fun m c hb=>by
  simp only [q9d,List.all_eq_true] at h
  have:=h m c
  rw [qmy hb] at this;cases this
theorem qrg {x y : Fp} (h : qfe x y = true) : q9a x y:=by
  simp only [qfe,Bool.and_eq_true] at h;obtain ⟨⟨f,b⟩,c⟩:=h;refine ⟨qff f,fun m a=>?_,fun m a=>?_⟩
  · revert b
    cases x.1 with
    | none=>intro b;rw [List.isEmpty_iff] at b;rw [b] at a;cases a
    | some r=>intro b d;exact qff b m d a
  · revert c
    cases y.1 with
    | none=>intro c;rw [List.isEmpty_iff] at c;rw [c] at a;cases a
    | some r=>intro c d;exact qff c m d a
structure q9b (F : List Fp) (ops : Array Oper) : Prop where
  edges : ∀ j o,ops[j]? = some o→∀ e∈o.after,Region.binds .any e = true→e.on < j
  pairs : ∀ i j a b,i < j→ops[i]? = some a→ops[j]? = some b→Behind ops b i∨(q9a (fpAt F (ops.size - (i + 1))) (fpAt F (ops.size - (j + 1)))∧(∀ t∈reads ops a,b.dst≠some t)∧(∀ t∈reads ops b,a.dst≠some t)∧∀ t,a.dst = some t→b.dst≠some t)
  pivs : ∀ i j a b,i < j→ops[i]? = some a→ops[j]? = some b→(Up (fpAt F (ops.size - (i + 1))) = true∨Up (fpAt F (ops.size - (j + 1))) = true)→Behind ops b i
theorem qr8 {α : Type} {l : List α} {i : Nat} {x : α} (h : l[i]? = some x) : (x,i)∈l.zipIdx:=by grind
theorem qg7 {o : Oper} {t : Tmp} : q9p o t = true↔o.dst = some t:=by
  unfold q9p
  cases o.dst with
  | none=>simp
  | some d=>simp
theorem qtq {F : List Fp} (h : q9o F ops = true) : q9b F ops:=by
  simp only [q9o,Bool.and_eq_true,List.all_eq_true] at h;obtain ⟨r,u⟩:=h;obtain ⟨v,w⟩:=qmw (ops:=ops) ops.toList [] [] rfl rfl qg;have d : ∀ (i : Nat) (o : Oper),ops[i]? = some o→ops.toList[i]? = some o:=fun i o l=>by rw [Array.getElem?_toList];exact l
  have main : ∀ i j a b,i < j→ops[i]? = some a→ops[j]? = some b→Behind ops b i∨((Up (fpAt F (ops.size - (i + 1))) = false∧Up (fpAt F (ops.size - (j + 1))) = false)∧(q9a (fpAt F (ops.size - (i + 1))) (fpAt F (ops.size - (j + 1)))∧(∀ t∈reads ops a,b.dst≠some t)∧(∀ t∈reads ops b,a.dst≠some t)∧∀ t,a.dst = some t→b.dst≠some t)):=fun i j a b c k hb=>by
    have:=u _ (qr8 (d j b hb)) _ (qr8 (d i a k));simp only [Bool.or_eq_true] at this;rcases this with (h | h) | h
    · have n : Nat.blt i j = true:=by rw [Nat.blt_eq];exact c
      grind
    · grind
    · right;simp only [Bool.and_eq_true,Bool.not_eq_true'] at h;obtain ⟨⟨⟨hp1,hp2⟩,h⟩,m⟩:=h;simp only [qjo,Bool.and_eq_true,List.all_eq_true,Bool.not_eq_true'] at h;obtain ⟨⟨s,p⟩,g⟩:=h;refine ⟨⟨hp1,hp2⟩,qrg m,fun t f hd=>?_,fun t f hd=>?_,fun t f hd=>?_⟩
      · have:=s t f;rw [qg7.2 hd] at this;cases this
      · have:=p t f;rw [qg7.2 hd] at this;cases this
      · rw [f] at g;simp only at g;rw [qg7.2 hd] at g;simp at g
  refine ⟨fun j o l e q hb=>?_,fun i j a b c k hb=>(main i j a b c k hb).imp id And.right,fun i j a b c k hb hp=>?_⟩
  · have:=qkz _ 0 r j o (d j o l) e q hb;omega
  grind
end
end Go.Am
namespace Go.Am
open Go
variable {P : Program}
section
variable {base : Nat} {ops : Array Oper}
theorem qgm {l : Array Bool} {i : Nat} : l.getD i false = true↔l[i]? = some true:=by
  rw [Array.getD_eq_getD_getElem?];cases l[i]? <;> simp
theorem qd7 {l : Array Bool} {i : Nat} : l.getD i true = false↔l[i]? = some false:=by
  rw [Array.getD_eq_getD_getElem?];cases l[i]? <;> simp
theorem qzi {w : World} {Z : Nat→Prop} {inj : Inj} {hp hp2 : List (Nat × Blk)} {nx : Nat} (h : RelH w Z inj hp nx) (hs : ∀ m,find hp2 m = find hp m) : RelH w Z inj hp2 nx:=by
  refine ⟨fun n b hb=>h.blk n b (by rw [← hs];exact hb),fun n m b c p q a d=>h.sep n m b c p q (by rw [← hs];exact a) (by rw [← hs];exact d),fun n b p a=>h.out n b p (by rw [← hs];exact a),h.zs,h.zc⟩
theorem qu6 {w w' : World} {Z Z' : Nat→Prop} {inj inj' : Inj} {hp hp' hp2 : List (Nat × Blk)} {pin : Nat} (h : Ext w Z inj hp w' Z' inj' hp' pin) (hs : ∀ m,find hp2 m = find hp' m) : Ext w Z inj hp w' Z' inj' hp2 pin:=
  {h with imm:=fun b hb=>h.imm b (by
      obtain ⟨n,c,o,f,d,a⟩:=hb
      exact ⟨n,c,o,by rw [← hs];exact f,d,a⟩)}
abbrev fpO (F : List Fp) (ops : Array Oper) (i : Nat) : Fp:=fpAt F (ops.size - (i + 1))
def CutS (ops : Array Oper) (listed : Array Bool) (t : Tmp) (m : Nat) : Prop:=∀ (i : Nat) (o : Oper),ops[i]? = some o→o.dst = some t→(listed[i]? = some true↔i < m)
def CutB (F : List Fp) (ops : Array Oper) (listed : Array Bool) (q m : Nat) : Prop:=∀ (i : Nat) (o : Oper),ops[i]? = some o→q∈(fpO F ops i).2→(listed[i]? = some true↔i < m)
structure Mid (F : List Fp) (ops : Array Oper) (S : Nat→AS) (lo hi : Nat) (listed : Array Bool) (st : AS) : Prop where
  nx : st.nx = (S hi).nx
  sl : ∀ t m,lo≤m→m≤hi→CutS ops listed t m→st.get t = (S m).get t
  hp : ∀ q m,lo≤m→m≤hi→CutB F ops listed q m→find st.hp q = find (S m).hp q
abbrev Steps (P : Program) (F : List Fp) (ops : Array Oper) (S : Nat→AS) (lo hi : Nat) : Prop:=∀ (i : Nat) (o : Oper),lo≤i→i < hi→ops[i]? = some o→Jz P ops o (fpO F ops i) (S i) (S (i + 1))
theorem qfk {F : List Fp} {S : Nat→AS} {lo hi : Nat} (b : hi≤ops.size) (d : Steps P F ops S lo hi) {t : Tmp} {j : Nat} (a : lo≤j) : ∀ m,j≤m→m≤hi→(∀ (i : Nat) (o : Oper),j≤i→i < m→ops[i]? = some o→o.dst≠some t)→(S m).get t = (S j).get t
  | 0,h,_,_=>by have : j = 0:=q6;subst this;rfl
  | m + 1,h,hm,hno=>by
    by_cases f : j = m + 1
    · subst f;rfl
    · obtain ⟨o,c⟩:=Yj (xs:=ops) (i:=m) q6
      rw [(d m o q6 q6 c).sl t (hno m o q6 q6 c)]
      exact qfk b d a m q6 q6 fun i o g k=>hno i o g q6
theorem qfj {F : List Fp} {S : Nat→AS} {lo hi : Nat} (b : hi≤ops.size) (d : Steps P F ops S lo hi) {q j : Nat} (a : lo≤j) : ∀ m,j≤m→m≤hi→(∀ (i : Nat) (o : Oper),j≤i→i < m→ops[i]? = some o→q ∉ (fpO F ops i).2)→find (S m).hp q = find (S j).hp q
  | 0,h,_,_=>by have : j = 0:=q6;subst this;rfl
  | m + 1,h,hm,hno=>by
    by_cases f : j = m + 1
    · subst f;rfl
    · obtain ⟨o,c⟩:=Yj (xs:=ops) (i:=m) q6
      rw [(d m o q6 q6 c).hp q (hno m o q6 q6 c)]
      exact qfj b d a m q6 q6 fun i o g k=>hno i o g q6
theorem q25 {F : List Fp} {S : Nat→AS} {lo hi : Nat} (b : hi≤ops.size) (c : Steps P F ops S lo hi) {j : Nat} (a : lo≤j) : ∀ m,j≤m→m≤hi→(S j).nx≤(S m).nx
  | 0,h,_=>by have : j = 0:=q6;subst this;exact Nat.le_refl _
  | m + 1,h,hm=>by
    by_cases f : j = m + 1
    · subst f;exact Nat.le_refl _
    · obtain ⟨o,d⟩:=Yj (xs:=ops) (i:=m) q6
      exact Nat.le_trans (q25 b c a m q6 q6) (c m o q6 q6 d).nx
theorem qml {F : List Fp} {S : Nat→AS} {lo hi : Nat} (b : hi≤ops.size) (c : Steps P F ops S lo hi) (a : ∀ q,(S lo).nx≤q→find (S lo).hp q = none) : ∀ m,lo≤m→m≤hi→∀ q,(S m).nx≤q→find (S m).hp q = none
  | 0,hl,_,q,hq=>by have : lo = 0:=q6;subst this;exact a q hq
  | m + 1,hl,hm,q,hq=>by
    by_cases d : lo = m + 1
    · subst d;exact a q hq
    obtain ⟨o,f⟩:=Yj (xs:=ops) (i:=m) q6
    have hs:=c m o q6 q6 f
    exact hs.keys q hq (qml b c a m q6 q6 q (Nat.le_trans hs.nx hq))
def Keep (ops : Array Oper) (S : Nat→AS) (lo hi : Nat) (base : Nat) (w0 : World) (Z0 : Nat→Prop) (inj0 : Inj) (hp0 : List (Nat × Blk)) (a0 : Act) (Ds0 : List Nat) (listed : Array Bool) (st : AS) (a : Act) (w : World) : Prop:=
  ∃ Z inj Ds,RelS w Z inj st a Ds∧Ext w0 Z0 inj0 hp0 w Z inj st.hp base∧a.tmps.size = a0.tmps.size∧(∀ D∈Ds,D∈Ds0∨w0.heap.size≤D)∧
    ∀ (i : Nat) (o : Oper),lo≤i→i < hi→ops[i]? = some o→listed[i]?≠some true→∀ m,(S i).nx≤m→m < (S (i + 1)).nx→inj m = none
theorem qkr {l : Array Bool} {i : Nat} {n : Nat} (hi : l[i]? = some false) (b : l.toList.count false = n + 1) : (l.setIfInBounds i true).toList.count false = n:=by
  have a : i < l.toList.length:=by simpa using Zq hi
  rw [Array.toList_setIfInBounds,List.count_set a]
  have : l.toList[i] = false:=by
    have:=hi;rw [← Array.getElem?_toList,List.getElem?_eq_getElem a] at this;simpa using this
  simp [this,b]
theorem qo7 {F : List Fp} (l : q9b F ops) {listed : Array Bool} (h : listed.size = ops.size) : ∀ (n i : Nat),i = n→listed[i]? = some false→Region.ready .any ops listed≠[]:=by
  intro n
  induction n using Nat.strongRecOn with
  | _ n ihn=>
    intro i f hi;subst f;obtain ⟨o,k⟩:=Yj (xs:=ops) (i:=i) (by rw [← h];exact Zq hi);by_cases a : ∀ e∈o.after,Region.binds .any e = true→listed.getD e.on false = true
    · intro c;have : i∈Region.ready .any ops listed:=mem_ready.2 ⟨qd7.2 hi,o,k,a⟩;rw [c] at this;cases this
    · simp only [Classical.not_forall] at a;obtain ⟨e,m,hb,j⟩:=a;have g:=l.edges i o k e m hb;obtain ⟨b,d⟩:=Yj (xs:=listed) (i:=e.on) (by have:=Zq hi;omega)
      cases b with
      | true=>exact absurd (qgm.2 d) j
      | false=>exact ihn e.on g e.on rfl d
theorem qjj {listed : Array Bool} {i : Nat} {o : Oper} (f : Adm ops (fun i=>listed[i]? = some true)) (k : ops[i]? = some o) (l : listed[i]? = some false) (d : ∀ e∈o.after,Region.binds .any e = true→listed[e.on]? = some true) :
    (∀ (j : Nat),(listed.setIfInBounds i true)[j]? = some true↔(j = i∨listed[j]? = some true))∧Adm ops (fun j=>(listed.setIfInBounds i true)[j]? = some true):=by
  have a : ∀ (j : Nat),(listed.setIfInBounds i true)[j]? = some true↔(j = i∨listed[j]? = some true):=by
    intro j;by_cases b : j = i
    · subst b;simp [Zq l]
    · rw [Array.getElem?_setIfInBounds_ne (Ne.symm b)];simp [b]
  refine ⟨a,?_⟩;intro j m g c e h hb;rw [a] at g ⊢;rcases g with rfl | g
  · rw [k] at c;cases c;exact .inr (d e h hb)
  · exact .inr (f j m g c e h hb)
theorem qts {F : List Fp} {S : Nat→AS} {lo hi : Nat} (bj : lo≤hi) (aa : hi≤ops.size) (hD : q9b F ops) (hS : Steps P F ops S lo hi) (bd : ∀ (i j : Nat) (d : Oper),i < hi→hi≤j→ops[j]? = some d→Behind ops d i) (h0 : ∀ q,(S lo).nx≤q→find (S lo).hp q = none)
    {w0 : World} {Z0 : Nat→Prop} {inj0 : Inj} {hp0 : List (Nat × Blk)} {a0 : Act} {Ds0 : List Nat} {ro : Option Nat} {Q : Exit→Act→World→Prop} (bn : base≤(S lo).nx)
    (hd : ∀ (i : Nat) (o : Oper),ops[i]? = some o→Jh a0.tmps.size o.dst = true)
    (hQ : ∀ (fuel : Nat) (listed : Array Bool) (a' : Act) (w' : World),listed.size = ops.size→listed.toList.count false = fuel→Adm ops (fun i=>listed[i]? = some true)→(∀ (i : Nat),listed[i]? = some true↔i < hi)→
      (∃ Z inj Ds,RelS w' Z inj (S hi) a' Ds∧Ext w0 Z0 inj0 hp0 w' Z inj (S hi).hp base∧a'.tmps.size = a0.tmps.size∧base≤(S hi).nx∧(∀ D∈Ds,D∈Ds0∨w0.heap.size≤D))→Yo ro w'→wpAnyIn (Fw ro) 0 P .any ops Q fuel listed a' w') : ∀ (fuel : Nat) (listed : Array Bool) (a : Act) (w : World) (st : AS),
      listed.size = ops.size→listed.toList.count false = fuel→Adm ops (fun i=>listed[i]? = some true)→(∀ (i : Nat),i < lo→listed[i]? = some true)→(∀ (i : Nat),hi≤i→listed[i]?≠some true)→Keep ops S lo hi base w0 Z0 inj0 hp0 a0 Ds0 listed st a w→Yo ro w→Mid F ops S lo hi listed st→
      wpAnyIn (Fw ro) 0 P .any ops Q fuel listed a w:=by
  have fin : ∀ (fuel : Nat) (listed : Array Bool) (a : Act) (w : World) (st : AS),
      listed.size = ops.size→listed.toList.count false = fuel→Adm ops (fun i=>listed[i]? = some true)→(∀ (i : Nat),i < lo→listed[i]? = some true)→(∀ (i : Nat),hi≤i→listed[i]?≠some true)→Keep ops S lo hi base w0 Z0 inj0 hp0 a0 Ds0 listed st a w→Yo ro w→Mid F ops S lo hi listed st→
      (∀ (i : Nat),lo≤i→i < hi→listed[i]? = some true)→wpAnyIn (Fw ro) 0 P .any ops Q fuel listed a w:=by
    intro fuel listed a w st af hc n x aj hp ag g ab
    have aq : ∀ (i : Nat),listed[i]? = some true↔i < hi:=fun i=>⟨fun h=>by
      rcases Nat.lt_or_ge i hi with z | z
      · exact z
      · exact absurd h (aj i z),fun h=>by
      rcases Nat.lt_or_ge i lo with z | z
      · exact x i z
      · exact ab i z h⟩
    refine hQ fuel listed a w af hc n aq ?_ ag
    obtain ⟨Z,inj,Ds,z,h2,h3,h4,_⟩:=hp
    have bz : ∀ q,find (S hi).hp q = find st.hp q:=fun q=>(g.hp q hi bj (Nat.le_refl _) fun i o ho _=>aq i).symm
    refine ⟨Z,inj,Ds,⟨fun t v ht=>?_,?_,z.defs,z.nodup,z.marks⟩,qu6 h2 bz,h3,Nat.le_trans bn (q25 aa hS (Nat.le_refl _) _ bj (Nat.le_refl _)),h4⟩
    · rw [← g.nx]
      refine z.slots t v ?_
      have:=g.sl t hi bj (Nat.le_refl _) fun i o ho _=>aq i
      exact this.trans ht
    · rw [← g.nx];exact qzi z.heap bz
  intro fuel
  induction fuel with
  | zero=>
    intro listed a w st af hc n x aj hp ag g;refine fin 0 listed a w st af hc n x aj hp ag g fun i _ hi=>?_;have h:=List.count_eq_zero.1 hc;obtain ⟨b,hb⟩:=Yj (xs:=listed) (i:=i) q6
    cases b with
    | true=>exact hb
    | false=>exact absurd (by simpa using Array.mem_of_getElem? hb) h
  | succ fuel ih=>
    intro listed a w st af hc n x aj hp ag g;by_cases ab : ∀ (i : Nat),lo≤i→i < hi→listed[i]? = some true
    · exact fin _ listed a w st af hc n x aj hp ag g ab
    have bh : ∃ k : Nat,(lo≤k∧k < hi)∧listed[k]? = some false:=by
      simp only [Classical.not_forall] at ab;obtain ⟨k,z,h2,h3⟩:=ab;obtain ⟨b,hb⟩:=Yj (xs:=listed) (i:=k) q6
      cases b with
      | true=>exact absurd hb h3
      | false=>exact ⟨k,⟨z,h2⟩,hb⟩
    obtain ⟨k0,⟨dl,cj⟩,bs⟩:=bh;refine ⟨fun bw=>?_,fun i ch=>?_⟩
    · exact absurd bw (qo7 hD af k0 k0 rfl bs)
    · obtain ⟨z,o,ho,bf⟩:=mem_ready.1 ch;rw [qd7] at z;have am : ∀ e∈o.after,Region.binds .any e = true→(fun i=>listed[i]? = some true) e.on:=fun e he hb=>qgm.1 (bf e he hb);have ax : ∀ j,Behind ops o j→listed[j]? = some true:=fun j hb=>hb _ n am;have u : lo≤i:=Nat.le_of_not_lt fun h=>by have:=x i h;rw [z] at this;cases this
      have ay : i < hi:=Nat.lt_of_not_le fun h=>by
        have:=ax k0 (bd k0 i o cj h ho);rw [bs] at this;cases this
      have av : ∀ (j : Nat) (d : Oper),ops[j]? = some d→Behind ops d i→listed[j]?≠some true:=by
        intro j d c hb hj;have:=hb (fun i=>listed[i]? = some true) n (fun e he ct=>n j d hj c e he ct);rw [z] at this;cases this
      obtain ⟨l,bi⟩:=qjj n ho z am;have bv : (listed.setIfInBounds i true).size = ops.size:=by simp [af]
      have cc:=qkr z hc;have dh : i < ops.size:=Zq ho;have bc : listed[i]?≠some true:=by rw [z];simp
      have y : ∀ (j : Nat) (d : Oper),ops[j]? = some d→j≠i→(listed[j]? = some true↔j < i)∨(q9a (fpO F ops i) (fpO F ops j)∧(∀ t∈reads ops o,d.dst≠some t)∧∀ t,o.dst = some t→d.dst≠some t):=by
        intro j d c f;rcases Nat.lt_or_gt_of_ne f with h | h
        · rcases hD.pairs j i d o h c ho with hb | ⟨ha,h2,h3,h4⟩
          · exact .inl ⟨fun _=>h,fun _=>ax j hb⟩
          · exact .inr ⟨⟨fun m h5 h6=>ha.ww m h6 h5,ha.wr,ha.rw⟩,h3,fun t h5 h6=>h4 t h6 h5⟩
        · rcases hD.pairs i j o d h ho c with hb | ⟨ha,h2,h3,h4⟩
          · exact .inl ⟨fun p=>absurd p (av j d c hb),fun p=>q6⟩
          · exact .inr ⟨ha,h2,h4⟩
      have an : ∀ m∈(fpO F ops i).2,find st.hp m = find (S i).hp m:=fun m hm=>by
        refine g.hp m i u q6 fun j d c ac=>?_;by_cases f : j = i
        · subst f;exact ⟨fun p=>absurd p bc,fun p=>absurd p (Nat.lt_irrefl _)⟩
        · rcases y j d c f with h | ⟨ha,_⟩
          · exact h
          · exact absurd ac (ha.ww m hm)
      have ci : Uy ops o (fpO F ops i) (S i) st:=by
        refine ⟨⟨an,?_⟩,fun t ht=>?_⟩
        · have key : ∀ m,(∀ (j : Nat) (d : Oper),ops[j]? = some d→j≠i→q9a (fpO F ops i) (fpO F ops j)→m ∉ (fpO F ops j).2)→find st.hp m = find (S i).hp m:=fun m hm=>by
            by_cases bl : m∈(fpO F ops i).2
            · exact an m bl
            refine g.hp m i u q6 fun j d c ac=>?_;by_cases f : j = i
            · subst f;exact absurd ac bl
            · rcases y j d c f with h | ⟨ha,_⟩
              · exact h
              · exact absurd ac (hm j d c f ha)
          cases hR : (fpO F ops i).1 with
          | none=>exact fun m=>key m fun j d _ _ ha ac=>by have:=ha.rw m ac;rw [hR] at this;exact this
          | some r=>exact fun m cf=>key m fun j d _ _ ha ac=>by have:=ha.rw m ac;rw [hR] at this;exact this cf
        · refine g.sl t i u q6 fun j d c ae=>?_;by_cases f : j = i
          · subst f;exact ⟨fun p=>absurd p bc,fun p=>absurd p (Nat.lt_irrefl _)⟩
          · rcases y j d c f with h | ⟨_,hr,_⟩
            · exact h
            · exact absurd ae (hr t ht)
      have ad:=hS i o u ay ho;have be : (S (i + 1)).nx≤st.nx:=by rw [g.nx];exact q25 aa hS q6 _ q6 (Nat.le_refl _)
      have bk : ∀ m,(S i).nx≤m→m < (S (i + 1)).nx→find st.hp m = none:=fun m h2 h3=>by
        rw [an m (ad.fresh m h2 h3)];exact qml aa hS h0 i u q6 m h2
      obtain ⟨cn,bm,bb,cb,co,cg,cp⟩:=ad.other st be ci bk;refine qin ho ?_;obtain ⟨Z,inj,Ds,k1,k2,k3,k4,k5⟩:=hp;have cq : base≤(S i).nx:=Nat.le_trans bn (q25 aa hS (Nat.le_refl _) _ u q6);refine bb base ro Q w Z inj a Ds _ k1 (by rw [k3];exact hd i o ho) cq (by have:=ad.nx;omega) ag (k5 i o u ay ho bc) fun a' w' hp'=>?_;obtain ⟨Z',inj',cr,g1,g2,g3,g4,g5⟩:=hp';refine ih _ a' w' cn bv cc bi (fun j hj=>(l j).2 (.inr (x j hj))) (fun j hj p=>?_) ⟨Z',inj',cr,g1,k2.trans g2 (Nat.le_refl _),g3.trans k3,fun D hD=>?_,fun j d ba ap c bo m h2 h3=>?_⟩ (ag.ext g2) ⟨bm.trans g.nx,fun t m az hm s=>?_,fun q m az hm s=>?_⟩
      · rcases (l j).1 p with rfl | p
        · omega
        · exact aj j hj p
      · rcases g4 D hD with h | h
        · exact k4 D h
        · exact .inr (Nat.le_trans k2.size h)
      · have f : j≠i:=by rintro rfl;exact bo ((l j).2 (.inl rfl))
        have bu : listed[j]?≠some true:=fun e=>bo ((l j).2 (.inr e))
        rw [g5 m (by
          have:=q25 aa hS (j:=j + 1) q6 hi q6 (Nat.le_refl _)
          have:=g.nx;omega) (by
          rcases Nat.lt_or_gt_of_ne f with h | h
          · left;have:=q25 aa hS (j:=j + 1) q6 i q6 q6;omega
          · right;have:=q25 aa hS (j:=i + 1) q6 j q6 q6;omega)]
        exact k5 j d ba ap c bu m h2 h3
      · by_cases ak : o.dst = some t
        · have cs : i < m:=(s i o ho ak).1 ((l i).2 (.inl rfl));rw [co t ak];refine (qfk aa hS q6 m q6 hm fun j d ba ap c ae=>?_).symm;have p:=(l j).1 ((s j d c ae).2 ap);rcases p with p | p
          · omega
          · rcases y j d c q6 with h | ⟨_,_,hw⟩
            · have:=h.1 p;omega
            · exact hw t ak ae
        · rw [cb t ak];refine g.sl t m az hm fun j d c ae=>?_;have f : j≠i:=by rintro rfl;rw [ho] at c;cases c;exact ak ae
          rw [← s j d c ae,l];simp [f]
      · by_cases hq : q∈(fpO F ops i).2
        · have cs : i < m:=(s i o ho hq).1 ((l i).2 (.inl rfl));rw [cg q hq];refine (qfj aa hS q6 m q6 hm fun j d ba ap c al=>?_).symm;have p:=(l j).1 ((s j d c al).2 ap);rcases p with p | p
          · omega
          · rcases y j d c q6 with h | ⟨ha,_⟩
            · have:=h.1 p;omega
            · exact ha.ww q hq al
        · rw [cp q hq];refine g.hp q m az hm fun j d c al=>?_;have f : j≠i:=by rintro rfl;exact hq al
          rw [← s j d c al,l];simp [f]
theorem qzk {w : World} {Z : Nat→Prop} {inj : Inj} {st : AS} {a : Act} {Ds : List Nat} {N : Nat} (h : RelS w Z inj st a Ds) (l : st.nx≤N) : RelS w Z (fun m=>if m < st.nx then inj m else none) {st with nx:=N} a Ds:=by
  have hi : ∀ n,n < st.nx→(fun m=>if m < st.nx then inj m else none) n = inj n:=fun n v=>by simp [v]
  have d : J4 w w:=fun _ c e f h=>⟨c,e,f,h,rfl⟩
  refine ⟨h.slots.mono (fun _ _=>rfl) (fun _ h=>h) d hi l,⟨fun n b hb=>?_,fun n m b c p q g k j u s o=>?_,fun n b p g k j=>?_,h.heap.zs,h.heap.zc⟩,h.defs,h.nodup,h.marks⟩
  · obtain ⟨r,t⟩:=h.heap.blk n b hb;exact ⟨Nat.lt_of_lt_of_le r l,t.mono (fun _ _=>rfl) (fun _ h=>h) d hi l r (fun _ _ _=>rfl)⟩
  · rw [qr (h.heap.blk n b g).1] at s;rw [qr (h.heap.blk m c k).1] at o;exact h.heap.sep n m b c p q g k j u s o
  · rw [qr (h.heap.blk n b g).1] at j;exact h.heap.out n b p g k j
theorem qsu {w0 : World} {Z0 : Nat→Prop} {inj0 : Inj} {d : AS} {g : Act} {Ds0 : List Nat} {l : List Oper} {st st' : AS} (h : Zs P base ops l st st') : l = []→∀ a w,Y3 base w0 Z0 inj0 d g Ds0 st a w→Y3 base w0 Z0 inj0 d g Ds0 st' a w:=by
  induction h with
  | nil=>exact fun _ a w hp=>hp
  | cons _ _ _=>intro h;cases h
  | wk hw _ ih=>
    intro m a w hp;refine ih m a w ?_;obtain ⟨Z',inj',f,o,k,j,p,n⟩:=hp;obtain ⟨b,c⟩:=q2i o hw;exact ⟨_,_,f,b,k.trans c (Nat.le_refl _),j,hw.bs,n⟩
theorem qst {w0 : World} {Z0 : Nat→Prop} {inj0 : Inj} {k : AS} {p : Act} {Ds0 : List Nat} {ro : Option Nat} {Q : Exit→Act→World→Prop} {K : Act→World→Prop} {l : List Oper} {st st' : AS} (h : Zs P base ops l st st') : ∀ o,l = [o]→Jh p.tmps.size o.dst = true→∀ a w,Y3 base w0 Z0 inj0 k p Ds0 st a w→Yo ro w→
    (∀ a' w',Y3 base w0 Z0 inj0 k p Ds0 st' a' w'→Yo ro w'→K a' w')→Ux P (Fw ro) ops Q o K a w:=by
  induction h with
  | nil=>intro o h;cases h
  | cons hs hl _=>
    intro o h hd a w hp c n;simp only [List.cons.injEq] at h;obtain ⟨rfl,rfl⟩:=h;refine hp.bind fun Z' inj' f b d j _ g=>?_;exact hs ro Q w Z' inj' a f _ b (by rw [d];exact hd) j c fun a' w' hp'=>n a' w' (qsu hl rfl _ _ (g _ _ _ hp')) (by obtain ⟨_,_,_,_,q,_⟩:=hp';exact c.ext q)
  | wk hw _ ih=>
    intro o h hd a w hp c n;refine ih o h hd a w ?_ c n;obtain ⟨Z',inj',f,s,r,t,v,u⟩:=hp;obtain ⟨b,m⟩:=q2i s hw;exact ⟨_,_,f,b,r.trans m (Nat.le_refl _),t,hw.bs,u⟩
theorem qry {o p : Oper} {i j : Nat} (f : Behind ops o i) (hp : ops[i]? = some p) (c : Behind ops p j) : Behind ops o j:=fun S a b=>c S a fun e d hb=>a i p (f S a b) hp e d hb
theorem qtr {F : List Fp} (hD : q9b F ops) {w0 : World} {Z0 : Nat→Prop} {inj0 : Inj} {y : AS} {a0 : Act} {Ds0 : List Nat} {ro : Option Nat} {Q : Exit→Act→World→Prop} (hd : ∀ (i : Nat) (o : Oper),ops[i]? = some o→Jh a0.tmps.size o.dst = true) :
    ∀ (n : Nat) (l : List Oper) (lo : Nat) (st st' : AS),l.length = n→ops.toList.drop lo = l→lo≤ops.size→Jw P base ops F l st st'→(∀ a' w',Y3 base w0 Z0 inj0 y a0 Ds0 st' a' w'→Q .normal a' w')→∀ (fuel : Nat) (listed : Array Bool) (a : Act) (w : World),
      listed.size = ops.size→listed.toList.count false = fuel→Adm ops (fun i=>listed[i]? = some true)→(∀ (i : Nat),listed[i]? = some true↔i < lo)→Y3 base w0 Z0 inj0 y a0 Ds0 st a w→Yo ro w→wpAnyIn (Fw ro) 0 P .any ops Q fuel listed a w:=by
  intro n
  induction n using Nat.strongRecOn with
  | _ n ihn=>
  intro l lo st st' cb aq ca hc hQ fuel listed a w bo bj az aj hp br;obtain ⟨k,S,hk,e0,hS,ah⟩:=qk8 hc;have bv : l.length + lo = ops.size:=by rw [← aq];simp;omega
  have ae : ∀ (i : Nat),l[i]? = ops[lo + i]?:=fun i=>by rw [← aq,List.getElem?_drop,Array.getElem?_toList]
  subst e0
  have x : Steps P F ops (fun i=>S (i - lo)) lo (lo + k):=fun i o u h2 ho=>by
    have:=hS (i - lo) o q6 (by rw [ae,show lo + (i - lo) = i by omega];exact ho);rw [show l.length - (i - lo + 1) = ops.size - (i + 1) by omega] at this;show Jz P ops o (fpO F ops i) (S (i - lo)) (S (i + 1 - lo));rw [show i + 1 - lo = i - lo + 1 by omega];exact this
  have an : ∀ (i j : Nat) (oj : Oper),i < lo + k→lo + k≤j→ops[j]? = some oj→Behind ops oj i:=fun i j oj hi hj ag=>by
    rcases ah with ⟨u,_⟩ | ⟨o,st1,u,h2,_,_⟩
    · have:=Zq ag;omega
    · rw [ae] at u;rw [show l.length - (k + 1) = ops.size - (lo + k + 1) by omega] at h2;have bk : i < ops.size:=by have:=Zq u;omega
      obtain ⟨oi,ad⟩:=Yj (xs:=ops) (i:=i) bk;have hb:=hD.pivs i (lo + k) oi o hi ad u (.inr h2);by_cases bi : j = lo + k
      · subst bi;rw [u] at ag;cases ag;exact hb
      · exact qry (hD.pivs (lo + k) j o oj q6 u ag (.inl h2)) u hb
  obtain ⟨Z,inj,Ds,u,h2,h3,h4,h5⟩:=hp
  have hN : (S 0).nx≤(S k).nx:=by
    have:=q25 q6 x (Nat.le_refl _) (lo + k) q6 (Nat.le_refl _);simpa using this
  have h0 : ∀ q,(S 0).nx≤q→find (S 0).hp q = none:=fun q hq=>by
    cases hf : find (S 0).hp q with
    | none=>rfl
    | some b=>have:=(u.heap.blk q b hf).1;omega
  have ay : Ext w0 Z0 inj0 y.hp w Z (fun m=>if m < (S 0).nx then inj m else none) (S 0).hp base:=by
    refine {h2 with imm:=fun b bm=>h2.imm b ?_,pinj:=fun n hn=>(qr (show n < (S 0).nx by omega)).trans (h2.pinj n hn)};obtain ⟨n,c,o,s,g2,g3⟩:=bm;refine ⟨n,c,o,s,g2,?_⟩;have:=(u.heap.blk n c s).1;simpa [this] using g3
  have am : ∀ (i : Nat),lo≤i→listed[i]?≠some true:=fun i hi h=>by have:=(aj i).1 h;omega
  refine qts (lo:=lo) (hi:=lo + k) (S:=fun i=>S (i - lo)) (hp0:=y.hp) (Ds0:=Ds0) q6 q6 hD x an (by simpa using h0) (by simpa using h4) hd ?_ fuel listed a w {S 0 with nx:=(S k).nx} bo bj az (fun i hi=>(aj i).2 hi) (fun i hi=>am i q6) ⟨Z,_,Ds,qzk u hN,ay,h3,h5,fun i o af ap ho _ m g2 g3=>?_⟩ br ⟨qg,fun t m al hm v=>?_,fun q m al hm v=>?_⟩
  · intro r d a' w' ab z ac f hp' ax
    have hp' : Y3 base w0 Z0 inj0 y a0 Ds0 (S k) a' w':=by
      obtain ⟨Z',inj',bq,s,g2,g3,g4,g5⟩:=hp';simp only [Nat.add_sub_cancel_left] at s g2 g4;exact ⟨Z',inj',bq,s,g2,g3,g4,g5⟩
    rcases ah with ⟨e1,e2⟩ | ⟨o,st1,e1,e2,e3,e4⟩
    ·
      subst e2
      have hz : r = 0:=by
        rw [← z,List.count_eq_zero];intro hm;obtain ⟨i,hi⟩:=List.getElem?_of_mem hm;have ap : d[i]? = some false:=by simpa using hi
        have:=(f i).2 (by have:=Zq ap;omega);rw [ap] at this;cases this
      subst hz;refine ⟨?_,hQ _ _ hp'⟩;rw [List.eq_nil_iff_forall_not_mem];intro j hj;obtain ⟨s,o,ho,_⟩:=mem_ready.1 hj;rw [qd7,(f j).2 (by have:=Zq ho;omega)] at s;cases s
    ·
      have p : ops[lo + k]? = some o:=by rw [← ae];exact e1
      rw [show l.length - (k + 1) = ops.size - (lo + k + 1) by omega] at e2
      have g : d[lo + k]? = some false:=by
        obtain ⟨b,hb⟩:=Yj (xs:=d) (i:=lo + k) (by rw [ab];exact Zq p)
        cases b with
        | true=>have:=(f _).1 hb;omega
        | false=>exact hb
      cases r with
      | zero=>
        have:=List.count_eq_zero.1 z;exact absurd (by simpa using Array.mem_of_getElem? g) this
      | succ r=>
        refine ⟨fun aw=>absurd aw (qo7 hD ab _ _ rfl g),fun i hi=>?_⟩;obtain ⟨s,oi,ad,ba⟩:=mem_ready.1 hi;rw [qd7] at s;have aa : ∀ e∈oi.after,Region.binds .any e = true→d[e.on]? = some true:=fun e he hb=>qgm.1 (ba e he hb)
        have bn : i = lo + k:=by
          rcases Nat.lt_trichotomy i (lo + k) with h | h | h
          · have:=(f i).2 h;rw [s] at this;cases this
          · exact h
          · have:=hD.pivs (lo + k) i o oi h p ad (.inl e2) _ ac aa;rw [g] at this;cases this
        subst bn;rw [p] at ad;cases ad;obtain ⟨au,ao⟩:=qjj ac p s aa;refine qin p ?_;refine qst e3 o rfl (hd _ _ p) a' w' hp' ax fun a2 w2 hp2 bb=>?_;refine ihn (l.drop (k + 1)).length (by have:=Zq p;simp;omega) _ (lo + k + 1) st1 st' rfl (by rw [← aq,List.drop_drop,Nat.add_assoc]) (Zq p) e4 hQ _ _ a2 w2 (by simp [ab]) (qkr s z) ao (fun j=>?_) hp2 bb;rw [au,f];omega
  · have this : (S 0).nx≤(S (i - lo)).nx:=by simpa using q25 q6 x (Nat.le_refl lo) i af q6
    have bz : (S (i - lo)).nx≤m:=g2;exact qp q6
  · have:=qfk q6 x (t:=t) (Nat.le_refl lo) m al hm fun i o af hi ho bl=>am i af ((v i o ho bl).2 hi);simp at this ⊢;exact this.symm
  · have:=qfj q6 x (q:=q) (Nat.le_refl lo) m al hm fun i o af hi ho bp=>am i af ((v i o ho bp).2 hi);simp at this ⊢;exact this.symm
theorem qzd {F : List Fp} {id : Nat} {w : World} {Z : Nat→Prop} {inj : Inj} {st st' : AS} {a : Act} {Ds : List Nat} {ro : Option Nat} {Q : Exit→Act→World→Prop} (u : P.follows .mixedOrders = true) (s : q9b F ops) (p : Jw P base ops F ops.toList st st')
    (h : RelS w Z inj st a Ds) (d : codeOk a.tmps.size (.region id ops true) = true) (hb : base≤st.nx) (m : Yo ro w) (t : ∀ a' w',Y3 base w Z inj st a Ds st' a' w'→Q .normal a' w') : (Code.region id ops true).wpIn (Fw ro) 0 P Q a w:=by
  refine wpIn_region_any u ?_;have hs : RelS {w with drawn:=w.drawn + 1} Z inj st a Ds:=⟨h.slots.mono (fun _ _=>rfl) (fun _ h=>h) (fun b c e f hb=>⟨c,e,f,hb,rfl⟩) (fun _ _=>rfl) (Nat.le_refl _),h.heap.same rfl,h.defs,h.nodup,h.marks⟩
  have g : ∀ (i : Nat) (o : Oper),ops[i]? = some o→Jh a.tmps.size o.dst = true:=by
    intro i o r;simp only [codeOk,List.all_eq_true] at d;exact d o (by simpa using Array.mem_of_getElem? r)
  have k : ∀ (i : Nat),(Array.replicate ops.size false)[i]?≠some true:=by
    intro i hi;rw [Array.getElem?_replicate] at hi;split at hi <;> simp at hi
  exact qtr s g ops.toList.length ops.toList 0 st st' rfl qg (Nat.zero_le _) p t ops.size _ a _ qg qg (fun j o q _=>absurd q (k j)) (fun i=>⟨fun hi=>absurd hi (k i),fun hi=>q6⟩) ⟨Z,inj,Ds,hs,.same rfl rfl rfl rfl,rfl,hb,fun _ h=>.inl h⟩ (fun l n=>m l n)
end
end Go.Am
namespace Go.Am
open Go
variable {P : Program} {T : Tab}
section
variable {w w' : World} {Z Z' : Nat→Prop} {inj inj' : Inj} {hp hp' : List (Nat × Blk)} {nx nx' pin : Nat}
theorem RelH.grow (h : RelH w Z inj hp nx) (d : ∀ b,b < w.heap.size→w'.heap[b]? = w.heap[b]?) : RelH w' Z inj hp nx:=by
  have hb : J4 w w':=fun b c e f j=>⟨c,e,f,(d b (Jg j)).trans j,rfl⟩
  refine ⟨fun n b k=>?_,h.sep,h.out,?_,?_⟩
  · obtain ⟨l,m⟩:=h.blk n b k;exact ⟨l,m.mono (fun b a=>d b (h.zs b a)) (fun _ h=>h) hb (fun _ _=>rfl) (Nat.le_refl _) l fun p hp o=>d _ (h.im_lt ⟨n,b,p.2,k,o,hp⟩)⟩
  · intro b a;obtain ⟨c,e,f,g⟩:=h.zc b a;have:=d b (h.zs b a);exact Jg (this.trans g)
  · intro b a;obtain ⟨c,e,f,g⟩:=h.zc b a;exact ⟨c,e,f,(d b (h.zs b a)).trans g⟩
theorem Ext.alloc (o : Obj) (a : Unfr o:=by first | exact rfl | exact trivial) : Ext w Z inj hp (w.alloc o) Z inj hp pin:=
  ⟨qg,fun b hb _=>J5 w o hb,fun _ h=>.inl h,q39 w o,qmh w o,fun _ h=>h,fun _ h=>.inl h,fun _ _=>rfl,rfl,rfl,rfl,qlu w a⟩
theorem qof (h : RelH w Z inj hp nx) {n : Nat} {b0 blk : Blk} (s : find hp n = some b0) (z : live b0 = true) {b off : Nat} (hi : inj n = some (b,off)) {r u : Loop} (hb : w.heap[b]? = some (.loop r)) (hd : u.defers = r.defers)
    (ag : RelB (w.putObj b (.loop u)) Z inj nx n blk) (ah : live blk = true→True) : RelH (w.putObj b (.loop u)) Z inj (repl hp n blk) nx∧Ext w Z inj hp (w.putObj b (.loop u)) Z inj (repl hp n blk) pin:=by
  have a : ∀ k,k≠b→(w.putObj b (.loop u)).heap[k]? = w.heap[k]?:=fun k g=>World.putObj_heap_other g
  have al : ¬ Z b:=fun hz=>by
    obtain ⟨c,e,f,hc⟩:=h.zc b hz;rw [hb] at hc;cases hc
  have j : J4 w (w.putObj b (.loop u)):=fun k c e f g=>by
    by_cases j : k = b
    · subst j;rw [hb] at g;cases g
    · exact ⟨c,e,f,(a k j).trans g,rfl⟩
  have hz : ∀ k,Z k→(w.putObj b (.loop u)).heap[k]? = w.heap[k]?:=fun k g=>a k (fun e=>al (e ▸ g))
  have d : ∀ m c,find (repl hp n blk) m = some c→(m = n∧c = blk)∨(m≠n∧find hp m = some c):=by
    intro m c v;rw [Za] at v;split at v
    · rename_i e;subst e;rw [s] at v;simp at v;exact .inl ⟨rfl,v.symm⟩
    · rename_i e;exact .inr ⟨fun h=>e h.symm,v⟩
  have ac : ∀ k,im (repl hp n blk) inj k→im hp inj k:=by
    rintro k ⟨m,c,o,h1,h2,t⟩;rcases d m c h1 with ⟨rfl,rfl⟩ | ⟨_,y⟩
    · exact ⟨m,b0,o,s,z,t⟩
    · exact ⟨m,c,o,y,h2,t⟩
  refine ⟨⟨?_,?_,?_,?_,?_⟩,⟨qg,?_,fun k g=>.inl (ac k g),j,?_,fun _ h=>h,fun _ h=>.inl h,fun _ _=>rfl,rfl,rfl,rfl,qgj (fun _ _ _=>by rw [hb];simp) (fun _ _ _=>qg)⟩⟩
  · intro m c v;rcases d m c v with ⟨rfl,rfl⟩ | ⟨l,y⟩
    · exact ⟨(h.blk _ _ s).1,ag⟩
    · obtain ⟨h5,h6⟩:=h.blk m c y;exact ⟨h5,h6.mono hz (fun _ h=>h) j (fun _ _=>rfl) (Nat.le_refl _) h5 fun p hp ah=>a _ fun e=>h.sep m n c b0 p (b,off) y s ah z hp hi l e⟩
  · intro m m' c c' p q h1 h2 t y h5 h6 l;rcases d m c h1 with ⟨rfl,rfl⟩ | ⟨e1,k1⟩ <;> rcases d m' c' h2 with ⟨rfl,rfl⟩ | ⟨e2,k2⟩
    · exact absurd rfl l
    · exact h.sep _ _ _ _ p q s k2 z y h5 h6 l
    · exact h.sep _ _ _ _ p q k1 s t z h5 h6 l
    · exact h.sep _ _ _ _ p q k1 k2 t y h5 h6 l
  · intro m c p h1 h2 t;rcases d m c h1 with ⟨rfl,rfl⟩ | ⟨e1,k1⟩
    · exact h.out _ _ p s z t
    · exact h.out _ _ p k1 h2 t
  · intro k g;simpa using h.zs k g
  · intro k g;obtain ⟨c,e,f,hc⟩:=h.zc k g;exact ⟨c,e,f,(hz k g).trans hc⟩
  · intro k _ g;exact a k fun e=>g ⟨n,b0,off,s,z,e ▸ hi⟩
  · intro k x g;by_cases j : k = b
    · subst j;rw [hb] at g;cases g;exact ⟨u,World.putObj_heap_same (Jg hb),hd⟩
    · exact ⟨x,(a k j).trans g,rfl⟩
theorem qi0 (h : RelH w Z inj hp nx) {n : Nat} {s : List (Nat × V)} {j : List Tmp} {as d : Code} {ls ls' : LoopState} {pe pe' : Option Code} (t : find hp n = some (.loop s j as d ls pe)) : ∃ b r,inj n = some (b,0)∧w.heap[b]? = some (.loop r)∧
    r.state = ls∧r.pending = pe∧r.params = j.toArray∧r.assign = as∧r.body = d∧(codeOk r.tmps.size as = true∧codeOk r.tmps.size d = true∧∀ p∈j,p < r.tmps.size)∧Yz w Z inj nx s r.tmps∧
    RelH (w.putObj b (.loop {r with state:=ls',pending:=pe'})) Z inj (repl hp n (.loop s j as d ls' pe')) nx∧Ext w Z inj hp (w.putObj b (.loop {r with state:=ls',pending:=pe'})) Z inj (repl hp n (.loop s j as d ls' pe')) pin:=by
  obtain ⟨y,b,tmps,D,fn,o,g,q,v⟩:=h.blk n _ t;refine ⟨b,_,o,g,rfl,rfl,rfl,rfl,rfl,q,v,?_⟩;refine qof h t rfl o g rfl ?_ (fun _=>trivial);refine ⟨b,tmps,D,fn,o,World.putObj_heap_same (Jg g),q,?_⟩
  have m : ¬ Z b:=fun x=>by
    obtain ⟨c,e,f,u⟩:=h.zc b x;rw [g] at u;cases u
  refine v.mono (fun k a=>World.putObj_heap_other (fun e=>m (e ▸ a))) (fun _ h=>h) ?_ (fun _ _=>rfl) (Nat.le_refl _);intro k c e f a;by_cases l : k = b
  · subst l;rw [g] at a;cases a
  · exact ⟨c,e,f,(World.putObj_heap_other l).trans a,rfl⟩
theorem qzj (h : RelH w Z inj hp nx) {n : Nat} {s : List (Nat × V)} {l : List Tmp} {as k : Code} {ls : LoopState} {pe : Option Code} (d : find hp n = some (.loop s l as k ls pe)) : ∃ b r,inj n = some (b,0)∧w.heap[b]? = some (.loop r)∧
    r.state = ls∧r.pending = pe∧∀ a : Loop,a.defers = r.defers→RelH (w.putObj b (.loop a)) Z inj (repl hp n .dead) nx∧Ext w Z inj hp (w.putObj b (.loop a)) Z inj (repl hp n .dead) pin:=by
  obtain ⟨j,b,tmps,D,fn,f,c,m,o⟩:=h.blk n _ d;exact ⟨b,_,f,c,rfl,rfl,fun a g=>qof h d rfl f c g trivial (fun _=>trivial)⟩
theorem qld : ∀ (b : List V) (k t : Nat) (v : V),find (Yg k b) t = some v→k≤t∧b[t - k]? = some v
  | [],k,t,v,h=>by simp [Yg,find] at h
  | x::r,k,t,v,h=>by
    simp only [Yg,Kz] at h
    split at h
    · rename_i e;subst e;cases h;simp
    · rename_i e
      obtain ⟨d,a⟩:=qld r (k + 1) t v h
      refine ⟨q6,?_⟩
      obtain ⟨m,c⟩ : ∃ m,t - k = m + 1:=⟨t - k - 1,q6⟩
      have : t - (k + 1) = m:=by omega
      rw [this] at a
      rw [c];simpa using a
theorem qzm {c : List V} {xs : Array Value} (n : Nat) (h : LRel w Z inj nx c xs) : Yz w Z inj nx (Yg 0 c) (xs ++ Array.replicate (n - xs.size) undef):=by
  intro t v f;obtain ⟨_,b⟩:=qld c 0 t v f;simp at b;have a : t < xs.size:=by rw [← h.1];exact Kh b
  obtain ⟨x,d⟩:=Yj a;exact ⟨x,by rw [Array.getElem?_append_left a];exact d,h.2 t v x b d⟩
theorem qoh : ∀ (f : List Tmp) (g : List V) (xs : List Value) (s : List (Nat × V)) (tmps : Array Value),g.length = xs.length→(∀ (i : Nat) (d : V) (c : Value),g[i]? = some d→xs[i]? = some c→RelV w Z inj nx d c)→(∀ p∈f,p < tmps.size)→
    Yz w Z inj nx s tmps→Yz w Z inj nx (q28 s f g) ((f.zip xs).foldl (fun tmps (x : Tmp × Value)=>tmps.setIfInBounds x.1 x.2) tmps)∧((f.zip xs).foldl (fun tmps (x : Tmp × Value)=>tmps.setIfInBounds x.1 x.2) tmps).size = tmps.size
  | [],g,xs,s,tmps,hl,hr,hp,h=>by simpa [q28] using h
  | p::f,[],[],s,tmps,hl,hr,hp,h=>by simpa [q28] using h
  | p::f,v::g,x::xs,s,tmps,hl,hr,hp,h=>by
    have k:=hr 0 v x rfl rfl
    have m:=h.put k (hp p qg)
    obtain ⟨a,b⟩:=qoh f g xs _ _ (by simpa using hl) (fun i d c hd l=>hr (i + 1) d c (by simpa using hd) (by simpa using l)) (fun q j=>by simpa using hp q (by simp [j])) m
    refine ⟨by simpa [q28] using a,by simpa using b⟩
  | p::f,[],x::xs,s,tmps,hl,hr,hp,h=>by simp at hl
  | p::f,v::g,[],s,tmps,hl,hr,hp,h=>by simp at hl
theorem qmm {fn : Func} {st : AS} {v : V} (hT : Z8 P T) {w0 : World} {Z0 : Nat→Prop} {inj0 : Inj} {hp0 : List (Nat × Blk)} {R : Ending→World→Prop} (m : resV T st fn.results.toList = some v)
    (hR : ∀ x w' Z' inj',RelH w' Z' inj' st.hp st.nx→Ext w0 Z0 inj0 hp0 w' Z' inj' st.hp pin→RelV w' Z' inj' st.nx v x→R (.returned x) w') : ∀ (Ds : List Nat) (w : World) (Z : Nat→Prop) (inj : Inj) (a : Act),
      Yz w Z inj st.nx st.sl a.tmps→RelH w Z inj st.hp st.nx→Ext w0 Z0 inj0 hp0 w Z inj st.hp pin→Ds.Nodup→(∀ D∈Ds,w.heap[D]? = some (.deferred (some []))∧w0.heap.size≤D)→
      LeavesInM (Fw none) 0 P fn a.tmps R (Ds.map fun D=>{target:=.collected D,args:=#[]}) .returning w
  | [],w,Z,inj,a,hs,hh,he,_,_=>by
    obtain ⟨x,hx,hv⟩:=qzq (a:=a) hT hh hs m
    exact ⟨x,hx,hR x w Z inj hh he hv⟩
  | D::Ds,w,Z,inj,a,hs,hh,he,hnd,hm=>by
    obtain ⟨z,aj⟩:=hm D qg
    have j:=List.nodup_cons.1 hnd
    refine ⟨qg,.inl ⟨D,_,rfl,run_takeDeferred z,?_⟩⟩
    have d : ∀ k,k≠D→(w.putObj D (.deferred none)).heap[k]? = w.heap[k]?:=fun k g=>World.putObj_heap_other g
    have ab : ¬ Z D:=fun u=>by obtain ⟨c,e,f,hc⟩:=hh.zc D u;rw [z] at hc;cases hc
    have q : ¬ im st.hp inj D:=fun hi=>by rcases hh.im_obj hi with ⟨_,_,e⟩ | ⟨_,e⟩ | ⟨_,_,e⟩ <;> rw [z] at e <;> cases e
    have u : ∀ k,Z k→(w.putObj D (.deferred none)).heap[k]? = w.heap[k]?:=fun k g=>d k fun e=>ab (e ▸ g)
    have o : J4 w (w.putObj D (.deferred none)):=fun k c e f g=>by
      by_cases t : k = D
      · subst t;rw [z] at g;cases g
      · exact ⟨c,e,f,(d k t).trans g,rfl⟩
    refine qmm hT m hR Ds _ Z inj a (hs.mono u (fun _ h=>h) o (fun _ _=>rfl) (Nat.le_refl _)) ⟨?_,hh.sep,hh.out,fun k g=>by simpa using hh.zs k g,?_⟩ ?_ j.2 ?_
    · intro n b hn
      obtain ⟨l,s⟩:=hh.blk n b hn
      exact ⟨l,s.mono u (fun _ h=>h) o (fun _ _=>rfl) (Nat.le_refl _) l fun p hp hl=>d _ fun e=>q ⟨n,b,p.2,hn,hl,by rw [← e];exact hp⟩⟩
    · intro k g
      obtain ⟨c,e,f,hc⟩:=hh.zc k g
      exact ⟨c,e,f,(u k g).trans hc⟩
    · refine ⟨by simpa using he.size,fun b hb hi=>(d b q6).trans (he.keep b hb hi),he.imm,?_,?_,he.zin,he.zout,he.pinj,he.tape,he.os,he.output,fun x=>(qgj (fun _ _ _=>by rw [z];simp) (fun _ _ _=>qg) x).trans (he.frz x)⟩
      · intro b c e f hb
        obtain ⟨c1,e1,f1,l,s1⟩:=he.big b c e f hb
        obtain ⟨c2,e2,f2,s,s2⟩:=o b c1 e1 f1 l
        exact ⟨c2,e2,f2,s,s2.trans s1⟩
      · intro b r hb
        obtain ⟨r1,l,s1⟩:=he.loops b r hb
        exact ⟨r1,(d b (by have:=Jg hb;omega)).trans l,s1⟩
    · intro D' y
      obtain ⟨l,s⟩:=hm D' (by simp [y])
      exact ⟨(d D' (fun e=>j.1 (e ▸ y))).trans l,s⟩
end
end Go.Am
