/- Am23 Am24 Am25 -/
import Derived.Test.YtiejlbckgihckaaGreatK4
namespace Go.Am
open Go
variable {P : Program} {T : Tab}
section
variable {base : Nat} {w : World} {Z : Nat→Prop} {inj : Inj} {st st1 st2 : AS} {a : Act} {Ds : List Nat} {ops : Array Oper} {o : Oper}
structure Um (ops : Array Oper) (o : Oper) (x : Fp) (st st2 : AS) : Prop where
  blk : qc3 x st st2
  sl : ∀ t∈reads ops o,st2.get t = st.get t
theorem Um.ev {x : Fp} (h : Um ops o x st st2) {y : Operand} (a : y∈o.op.operands) : st2.ev y = st.ev y:=by
  cases y with
  | tmp t=>exact h.sl t (List.mem_append_left _ (by unfold slotsOf;rw [List.mem_filterMap];exact ⟨.tmp t,by simpa using a,rfl⟩))
  | const v=>rfl
  | func f=>rfl
  | global g=>rfl
theorem Um.guard {x : Fp} (h : Um ops o x st st2) : Qn ops st2 o = Qn ops st o:=by
  have hs:=h.sl;unfold reads at hs;unfold Qn;grind
theorem Um.callee {x : Fp} (h : Um ops o x st st2) {c : Call} (d : o.op = .call c) : callee st2 c = callee st c:=by
  obtain ⟨a,args,argTypes⟩:=c;unfold Am.callee
  cases a with
  | builtin b=>rfl
  | invoke r n=>rfl
  | value f=>
    simp only;rw [h.ev (y:=f) (by rw [d];simp [Op.operands,Call.operands]),q4q (fun x g=>h.ev (y:=x) (by rw [d];simp [Op.operands,Call.operands];exact .inr (by simpa using g)))]
theorem Yz {st : AS} {d : Option Tmp} {v : V} {t : Tmp} : (st.putD d v).get t = if d = some t then some v else st.get t:=by
  cases d with
  | none=>simp [AS.putD]
  | some d=>simp only [AS.putD,AS.put,AS.get,Ks,Option.some.injEq]
theorem qfn {w : World} {Z : Nat→Prop} {inj : Inj} {nx : Nat} {fz : List Nat} {b : AS} {v : V} {x : Value} (h : RelV w Z inj nx v x) : Wv b (fun n=>n) fz [] nx v v:=by
  induction h with
  | d h=>exact .d (.refl _)
  | @agg ds cs hl _ ih=>
    exact .agg rfl fun i c d a hd=>by
      rw [a] at hd;cases hd;obtain ⟨y,g⟩:=Y4 (xs:=cs) (i:=i) (by rw [← hl];exact Kc a);grind
  | @tup ds cs hl _ ih=>
    exact .tup rfl fun i c d a hd=>by
      rw [a] at hd;cases hd;obtain ⟨y,g⟩:=Y4 (xs:=cs) (i:=i) (by rw [← hl];exact Kc a);grind
  | @fn f ds cs hl _ ih=>
    exact .fn rfl fun i c d a hd=>by
      rw [a] at hd;cases hd;obtain ⟨y,g⟩:=Y4 (xs:=cs) (i:=i) (by rw [← hl];exact Kc a);grind
  | ref h1 h2=>exact .ref rfl qc h1
  | @dref cs j _ _ _ _ _=>exact .dref cs j
  | hsnil h1=>exact .hs rfl qc h1
  | hs h1 _ _ _=>exact .hs rfl qc h1
  | yld h1 _=>exact .yld rfl qc h1
  | mp h1 _=>exact .mp rfl qc h1
  | dead v=>exact .dead _
theorem q10u {w : World} {Z : Nat→Prop} {inj : Inj} {nx n : Nat} {fz : List Nat} {f : AS} {b : Blk} (h : RelB w Z inj nx n b) : Wb f (fun n=>n) fz [] nx b b:=by
  cases b with
  | dead=>exact .dead _
  | dat es xs=>exact .dat _ _
  | mp es=>exact .mp _
  | cel es xs=>
    obtain ⟨_,_,z⟩:=h;refine .cel rfl fun i x y a k=>?_;rw [a] at k;cases k;refine ⟨rfl,fun j c d m hd=>?_⟩;rw [m] at hd;cases hd;rcases z with ⟨rfl,_⟩ | ⟨b,o,arr,ty,_,_,r⟩
    · simp at a
    · obtain ⟨q,c',_,p⟩:=r i x j c a m;exact ⟨qfn p,q⟩
  | loop s ps assign body dn pe=>
    obtain ⟨b,tmps,D,fn,_,_,_,u⟩:=h;refine .loop fun t g l=>?_;obtain ⟨x,_,v⟩:=u t g l;exact ⟨g,l,qfn v⟩
theorem qi3 {w' : World} {Z' : Nat→Prop} {inj' : Inj} {a' : Act} {p : List Nat} {dst : Option Tmp} {n es : Nat} {xs : List (List DV)} {hp2 : List (Nat × Blk)} (s : RelS w' Z' inj' (st1.putD dst (.hs n es 0 xs.length)) a' p) (v : st1.hp = (n,.dat es xs)::hp2) (hf : find hp2 n = none) (hn : base≤n) (h4 : base≤st1.nx) :
    Wk base (fun n=>n) [n] [] (st1.putD dst (.hs n es 0 xs.length)) (({sl:=st1.sl,hp:=hp2,nx:=st1.nx} : AS).putD dst (.d (.sl es xs))):=by
  have c : (({sl:=st1.sl,hp:=hp2,nx:=st1.nx} : AS).putD dst (.d (.sl es xs))).nx = st1.nx:=Yg _ _ _;have q : (({sl:=st1.sl,hp:=hp2,nx:=st1.nx} : AS).putD dst (.d (.sl es xs))).hp = hp2:=Yf _ _ _
  have h : ∀ m b,find hp2 m = some b→m≠n∧find (st1.putD dst (.hs n es 0 xs.length)).hp m = some b:=by
    intro m b a;have f : m≠n:=by rintro rfl;rw [hf] at a;cases a
    refine ⟨f,?_⟩;rw [Yf,v,Ks,qn (by intro e;exact f e.symm)];exact a
  refine ⟨?_,?_,?_,?_,fun _ _=>rfl,by rw [c];exact h4,fun m a=>by simp at a;omega,fun m a=>by cases a⟩
  · intro t o g;rw [c];rw [Yz] at g;by_cases l : dst = some t
    · rw [ql l] at g;cases g;refine ⟨_,by rw [Yz,ql l],.frz (k:=es) (xs:=xs) ?_ qc q0 qc rfl⟩;show find (st1.putD dst _).hp n = _;rw [Yf,v,Ks,ql rfl]
    · rw [qn l] at g;have u : (st1.putD dst (.hs n es 0 xs.length)).get t = some o:=by rw [Yz,qn l];exact g
      obtain ⟨x,_,y⟩:=s.slots t o u;rw [Yg] at y;exact ⟨o,u,qfn y⟩
  · intro m r a;rw [c];unfold AS.blk at a;rw [q] at a;obtain ⟨f,j⟩:=h m r a;obtain ⟨z,w⟩:=s.heap.blk m r j;rw [Yg] at z w;exact ⟨z,.inr ⟨qc,r,j,q10u w⟩⟩
  · omega
  · intro m b a _ hc;unfold AS.blk at a;grind
theorem qtq {w : World} {Z : Nat→Prop} {inj : Inj} {a a' : Act} {Ds : List Nat} {w' : World} {dst : Option Tmp} {n es : Nat} {xs : List (List DV)} {hp2 : List (Nat × Blk)}
    (h : Kr base w Z inj st a Ds (st1.putD dst (.hs n es 0 xs.length)) a' w') (m : st1.hp = (n,.dat es xs)::hp2) (q : find hp2 n = none) (l : base≤n) :
    Kr base w Z inj st a Ds (({sl:=st1.sl,hp:=hp2,nx:=st1.nx} : AS).putD dst (.d (.sl es xs))) a' w':=by
  obtain ⟨Z',inj',g,j,k,o,f,p⟩:=h;obtain ⟨c,b⟩:=q26 j (qi3 j m q l (by rw [Yg] at f;exact f));exact ⟨_,_,g,c,k.trans b (Nat.le_refl _),o,by rw [Yg];rw [Yg] at f;exact f,p⟩
theorem qqb {n es : Nat} {xs : List (List DV)} {hp2 : List (Nat × Blk)} (k : Yw P T) (g : Qn ops st o = some true) (l : opFn T st o.op = some (.hs n es 0 xs.length,st1)) (c : st.nx≤n) (j : st1.hp = (n,.dat es xs)::hp2) (m : find hp2 n = none) :
    Jq P base ops o st (({sl:=st1.sl,hp:=hp2,nx:=st1.nx} : AS).putD o.dst (.d (.sl es xs))):=by
  intro ro Q w Z inj a Ds K h hd hb b f;exact qdi k g l ro Q w Z inj a Ds K h hd hb b fun a' w' hp=>f a' w' (qtq hp j m (Nat.le_trans hb c))
theorem q88 {w : World} {Z : Nat→Prop} {inj inj' : Inj} {nx : Nat} {v : V} {x : Value} (h : RelV w Z inj nx v x) (hi : ∀ n p,n < nx→inj n = some p→inj' n = some p) : RelV w Z inj' nx v x:=by
  induction h with
  | d h=>exact .d h
  | agg hl _ ih=>exact .agg hl ih
  | tup hl _ ih=>exact .tup hl ih
  | fn hl _ ih=>exact .fn hl ih
  | ref h1 h2=>exact .ref h1 (hi _ _ h1 h2)
  | dref h1 h2 h3=>exact .dref h1 h2 h3
  | hsnil h1=>exact .hsnil h1
  | hs h1 h2 hsp h3=>
    refine .hs h1 h2 hsp fun a=>?_;grind
  | yld h1 h2=>exact .yld h1 (hi _ _ h1 h2)
  | mp h1 h2=>exact .mp h1 (hi _ _ h1 h2)
  | dead v=>exact .dead v
theorem qkl {w : World} {Z : Nat→Prop} {inj inj' : Inj} {nx n : Nat} {b : Blk} (h : RelB w Z inj nx n b) (hi : ∀ n p,n < nx→inj n = some p→inj' n = some p) (m : n < nx) (r : inj n = none→inj' n = none) : RelB w Z inj' nx n b:=by
  cases b with
  | dead=>trivial
  | dat es xs=>
    obtain ⟨a,g,f⟩:=h;refine ⟨a,g,?_⟩;grind
  | mp es=>
    obtain ⟨b,k,cl,a,g⟩:=h;exact ⟨b,k,cl,hi _ _ m a,g⟩
  | cel es xs=>
    obtain ⟨a,g,f⟩:=h;refine ⟨a,g,?_⟩;rcases f with ⟨f,l⟩ | ⟨b,o,arr,ty,f,l,y⟩
    · grind
    · refine .inr ⟨b,o,arr,ty,hi _ _ m f,l,fun i x j d q hd=>?_⟩;obtain ⟨h6,c,u,z⟩:=y i x j d q hd;exact ⟨h6,c,u,q88 z hi⟩
  | loop s ps assign body dn pe=>
    obtain ⟨b,tmps,D,fn,a,g,f,l⟩:=h;refine ⟨b,tmps,D,fn,hi _ _ m a,g,f,fun t v ht=>?_⟩;obtain ⟨x,q,hr⟩:=l t v ht;exact ⟨x,q,q88 hr hi⟩
def q9w (base lo hi : Nat) (w : World) (Z : Nat→Prop) (inj : Inj) (st : AS) (a : Act) (Ds : List Nat) (st' : AS) (a' : Act) (w' : World) : Prop:=
  ∃ Z' inj' Ds',RelS w' Z' inj' st' a' Ds'∧Ext w Z inj st.hp w' Z' inj' st'.hp base∧a'.tmps.size = a.tmps.size∧(∀ D∈Ds',D∈Ds∨w.heap.size≤D)∧∀ m,m < st.nx→(m < lo∨hi≤m)→inj' m = inj m
def qc5 (P : Program) (base : Nat) (ops : Array Oper) (o : Oper) (st st' : AS) (lo hi : Nat) : Prop:=
  ∀ (ro : Option Nat) (Q : Exit→Act→World→Prop) (w : World) (Z : Nat→Prop) (inj : Inj) (a : Act) (Ds : List Nat) (K : Act→World→Prop),RelS w Z inj st a Ds→J9 a.tmps.size o.dst = true→base≤lo→base≤st.nx→Yb ro w→(∀ m,lo≤m→m < hi→inj m = none)→
    (∀ a' w',q9w base lo hi w Z inj st a Ds st' a' w'→K a' w')→Ul P (Fw ro) ops Q o K a w
theorem qi9 {st' : AS} {lo hi : Nat} (h : Jq P st.nx ops o st st') : qc5 P base ops o st st' lo hi:=by
  intro ro Q w Z inj a Ds K l hd _ hb b _ f;refine h ro Q w Z inj a Ds K l hd (Nat.le_refl _) b fun a' w' hp=>f a' w' ?_;obtain ⟨Z',inj',c,g,d,n,p,k⟩:=hp;exact ⟨Z',inj',c,g,d.pin_le hb,n,k,fun m j _=>d.pinj m j⟩
theorem qkr {w : World} {Z : Nat→Prop} {inj : Inj} {w' : World} {Z' : Nat→Prop} {inj' b : Inj} {N l : Nat} {v : V} {x k : Value} (h : RelV w Z inj N v x) (j : RelV w' Z' inj' l v k) (hi : ∀ m p,m < N→inj' m = some p→b m = some p) : RelV w' Z' b N v k:=by
  induction j generalizing x with
  | d j=>exact .d j
  | @agg ds cs hl _ ih=>
    cases h with | @agg _ cs0 hl0 h0=>
    refine .agg hl fun i d c hd g=>?_;grind
  | @tup ds cs hl _ ih=>
    cases h with | @tup _ cs0 hl0 h0=>
    refine .tup hl fun i d c hd g=>?_;grind
  | @fn f ds cs hl _ ih=>
    cases h with | @fn _ _ cs0 hl0 h0=>
    refine .fn hl fun i d c hd g=>?_;grind
  | ref h1 h2=>
    have a:=by cases h with | ref h1 _=>exact h1
    exact .ref a (hi _ _ a h2)
  | dref h1 h2 h3=>exact .dref h1 h2 h3
  | hsnil h1=>
    have a:=by cases h with
      | hsnil h1=>exact h1
      | hs h1 _ _ _=>exact h1
    exact .hsnil a
  | hs h1 h2 hsp h3=>
    have a:=by cases h with
      | hsnil h1=>exact h1
      | hs h1 _ _ _=>exact h1
    refine .hs a h2 hsp fun g=>?_;grind
  | yld h1 h2=>
    have a:=by cases h with | yld h1 _=>exact h1
    exact .yld a (hi _ _ a h2)
  | mp h1 h2=>
    have a:=by cases h with | mp h1 _=>exact h1
    exact .mp a (hi _ _ a h2)
  | dead v=>exact .dead v
theorem qu9 {w : World} {Z : Nat→Prop} {inj : Inj} {w' : World} {Z' : Nat→Prop} {inj' a : Inj} {N N' n : Nat} {b : Blk} (h : RelB w Z inj N n b) (r : RelB w' Z' inj' N' n b) (hi : ∀ m p,m < N→inj' m = some p→a m = some p) (u : a n = inj' n) : RelB w' Z' a N n b:=by
  cases b with
  | dead=>trivial
  | dat es xs=>
    obtain ⟨f,g,k⟩:=r;refine ⟨f,g,?_⟩;grind
  | mp es=>
    obtain ⟨b,q,cl,f,g⟩:=r;exact ⟨b,q,cl,u.trans f,g⟩
  | cel es xs=>
    obtain ⟨f,g,k⟩:=r;refine ⟨f,g,?_⟩;rw [u];rcases k with k | ⟨b,o,arr,ty,k,y,h5⟩
    · grind
    · refine .inr ⟨b,o,arr,ty,k,y,fun i x j d l hd=>?_⟩;obtain ⟨h6,c,h7,h8⟩:=h5 i x j d l hd;obtain ⟨_,_,k3⟩:=h;rcases k3 with ⟨rfl,_⟩ | ⟨_,_,_,_,_,_,k5⟩
      · simp at l
      · obtain ⟨_,c0,_,k8⟩:=k5 i x j d l hd;exact ⟨h6,c,h7,qkr k8 h8 hi⟩
  | loop s ps assign body dn pe=>
    obtain ⟨b,tmps,D,fn,f,g,k,y⟩:=r;obtain ⟨_,_,_,_,_,_,_,k4⟩:=h;refine ⟨b,tmps,D,fn,u.trans f,g,k,fun t v ht=>?_⟩;obtain ⟨x,l,hr⟩:=y t v ht;obtain ⟨x0,_,z⟩:=k4 t v ht;exact ⟨x,l,qkr z hr hi⟩
theorem qi8 {mk : Nat→V} {es q : Nat} {xs : List (List DV)} {f : List (Nat × Blk)} (hT : Yw P T) (hg : Qn ops st o = some true) (hk : (∃ es,mk = fun n=>.ref n es 0 0)∨(∃ es l,mk = fun n=>.hs n es 0 l)∨(mk = fun n=>.mp n))
    (ho : opFn T st o.op = some (mk st.nx,⟨st.sl,(st.nx,.dat es xs)::f,st.nx + 1⟩)) (hq : q < st.nx) (ar : find st.hp q = none) (hold : ∀ m c,find f m = some c→c = .dead∨find st.hp m = some c) (ab : ∀ m,find st.hp m = none→find f m = none) :
    qc5 P base ops o st (({sl:=st.sl,hp:=(q,.dat es xs)::f,nx:=st.nx} : AS).putD o.dst (mk q)) q (q + 1):=by
  intro ro Q w Z inj a Ds K h hd bt hb _ ak hK;have aw : inj q = none:=ak q (Nat.le_refl _) q0;unfold Ul;rw [q3l h hg];simp only [if_true];refine ⟨fun _ _=>trivial,?_⟩;rw [show (Fw ro).round = ro from rfl,Oper.semAt_eq ro _ o (qjv ho)];obtain ⟨x,w',inj',hr,hv,hh,j,-,-⟩:=qjw hT h ho;simp only at hv hh j;obtain ⟨d,al⟩ : ∃ d : Inj,d = fun m=>if m = q then inj' st.nx else inj' m:=⟨_,rfl⟩
  have ad : d q = inj' st.nx:=by rw [al];simp
  have af : ∀ m,m≠q→d m = inj' m:=fun m g=>by rw [al];simp [g]
  have hi : ∀ m p,m < st.nx→inj' m = some p→d m = some p:=fun m p g hp=>by
    by_cases k : m = q
    · subst k;rw [j.pinj m g,aw] at hp;cases hp
    grind
  have am : ∀ m c,find f m = some c→m < st.nx:=fun m c g=>by
    cases hf : find st.hp m with
    | none=>rw [ab m hf] at g;cases g
    | some b=>exact (h.heap.blk m b hf).1
  have bq : ∀ m c,find f m = some c→m≠q:=fun m c g e=>by grind
  have up : ∀ m c,find f m = some c→find ((st.nx,Blk.dat es xs)::f) m = some c:=fun m c g=>by
    rw [Ks,qn (by have:=am m c g;omega)];exact g
  have ah : find ((st.nx,Blk.dat es xs)::f) st.nx = some (.dat es xs):=by rw [Ks,ql rfl]
  have back : ∀ m c,find ((q,Blk.dat es xs)::f) m = some c→∃ z,find ((st.nx,Blk.dat es xs)::f) z = some c∧d m = inj' z∧((m = q∧z = st.nx)∨(m≠q∧z = m)):=by
    intro m c g;rw [Ks] at g;grind
  have hH : RelH w' Z d ((q,Blk.dat es xs)::f) st.nx:=by
    refine ⟨fun m c g=>?_,fun m n b c p r h1 s h3 h4 h5 h6 ax=>?_,fun m b p h1 s h3=>?_,hh.zs,hh.zc⟩
    · rw [Ks] at g;by_cases k : q = m
      · subst k;rw [ql rfl] at g;cases g;refine ⟨hq,?_⟩;obtain ⟨_,k1,k2,k3⟩:=hh.blk st.nx _ ah;exact ⟨k1,k2,by rw [ad];exact k3⟩
      · rw [qn k] at g;refine ⟨am m c g,?_⟩;rcases hold m c g with rfl | aq
        · trivial
        · exact qu9 (h.heap.blk m c aq).2 (hh.blk m c (up m c g)).2 hi (af m (Ne.symm k))
    · obtain ⟨z,a1,a2,a3⟩:=back m b h1;obtain ⟨n',b1,b2,b3⟩:=back n c s;refine hh.sep z n' b c p r a1 b1 h3 h4 (a2 ▸ h5) (b2 ▸ h6) ?_;rcases a3 with ⟨rfl,rfl⟩ | ⟨a3,rfl⟩ <;> rcases b3 with ⟨rfl,rfl⟩ | ⟨b3,rfl⟩
      · omega
      · intro e;have : find f n' = some c:=by rw [Ks,qn (Ne.symm b3)] at s;exact s
        grind
      · intro e;have : find f z = some b:=by rw [Ks,qn (Ne.symm a3)] at h1;exact h1
        grind
      · exact ax
    · obtain ⟨z,a1,a2,_⟩:=back m b h1;exact hh.out z b p a1 s (a2 ▸ h3)
  have hE : Ext w Z inj st.hp w' Z d ((q,Blk.dat es xs)::f) base:=by
    refine ⟨j.size,j.keep,?_,j.big,j.loops,j.zin,j.zout,fun n hn=>?_,j.tape,j.os,j.output,j.frz⟩
    · rintro b ⟨m,c,off,g1,g2,g3⟩;obtain ⟨z,a1,a2,_⟩:=back m c g1;exact j.imm b ⟨z,c,off,a1,g2,a2 ▸ g3⟩
    · rw [af n q0];exact j.pinj n q0
  have hV : RelV w' Z d st.nx (mk q) x:=by
    rcases hk with ⟨es,rfl⟩ | ⟨es,l,rfl⟩ | rfl
    rotate_right
    · cases hv with | mp h1 s=>exact .mp hq (ad.trans s)
    · cases hv with | ref h1 s=>exact .ref hq (ad.trans s)
    · cases hv with
      | hsnil h1=>exact .hsnil hq
      | hs h1 s hsp h3=>
        refine .hs hq s hsp fun hc=>?_;grind
  have hS : Yo w' Z d st.nx st.sl a.tmps:=fun t v ht=>by
    obtain ⟨y,hy,hr⟩:=h.slots t v ht;exact ⟨y,hy,q88 (hr.mono (j.zkeep h.heap) j.zin j.big j.pinj (Nat.le_refl _)) hi⟩
  have u : q9w base q (q + 1) w Z inj st a Ds (({sl:=st.sl,hp:=(q,.dat es xs)::f,nx:=st.nx} : AS).putD o.dst (mk q)) (a.put o.dst x) w':=by
    refine ⟨Z,d,Ds,?_,by rw [Yf];exact hE,qk7 _ _ _,fun _ h=>.inl h,fun m g k=>?_⟩
    · generalize ba : o.dst = dst at hd
      cases dst with
      | none=>exact ⟨hS,hH,h.defs,h.nodup,fun D hD=>j.marks h.heap (h.marks D hD)⟩
      | some t=>exact ⟨hS.put hV (qh9 hd),hH,h.defs,h.nodup,fun D hD=>j.marks h.heap (h.marks D hD)⟩
    · rw [af m q0];exact j.pinj m g
  rcases hr with hr | ⟨hr,rfl⟩
  · rw [hr];exact hK _ _ u
  · rw [hr];exact hK _ _ u
theorem qtp {w : World} {Z : Nat→Prop} {inj : Inj} {a a' : Act} {Ds : List Nat} {w' : World} {dst : Option Tmp} {n es lo hi : Nat} {xs : List (List DV)} {hp2 : List (Nat × Blk)} (f : base≤st1.nx)
    (h : q9w base lo hi w Z inj st a Ds (st1.putD dst (.hs n es 0 xs.length)) a' w') (r : st1.hp = (n,.dat es xs)::hp2) (u : find hp2 n = none) (q : base≤n) :
    q9w base lo hi w Z inj st a Ds (({sl:=st1.sl,hp:=hp2,nx:=st1.nx} : AS).putD dst (.d (.sl es xs))) a' w':=by
  obtain ⟨Z',inj',b,j,l,o,p,t⟩:=h;have hp : Kr base w Z inj st a Ds (st1.putD dst (.hs n es 0 xs.length)) a' w':=⟨Z',inj',b,j,l,o,by rw [Yg];exact f,p⟩
  obtain ⟨g,c⟩:=q26 j (qi3 j r u q f);refine ⟨_,_,b,g,l.trans c (Nat.le_refl _),o,p,fun m s k=>?_⟩;rw [← t m s k];simp [wkI]
structure Js (P : Program) (ops : Array Oper) (o : Oper) (x : Fp) (st st1 : AS) : Prop where
  nx : st.nx≤st1.nx
  sl : ∀ t,o.dst≠some t→st1.get t = st.get t
  hp : ∀ m,m ∉ x.2→find st1.hp m = find st.hp m
  keys : ∀ m,st1.nx≤m→find st.hp m = none→find st1.hp m = none
  fresh : ∀ m,st.nx≤m→m < st1.nx→m∈x.2
  other : ∀ st2,st1.nx≤st2.nx→Um ops o x st st2→(∀ m,st.nx≤m→m < st1.nx→find st2.hp m = none)→∃ st3,st3.nx = st2.nx∧(∀ base,qc5 P base ops o st2 st3 st.nx st1.nx)∧
    (∀ t,o.dst≠some t→st3.get t = st2.get t)∧(∀ t,o.dst = some t→st3.get t = st1.get t)∧(∀ m∈x.2,find st3.hp m = find st1.hp m)∧(∀ m,m ∉ x.2→find st3.hp m = find st2.hp m)
theorem qfe : ∀ {b : List Nat} {n : Nat},hasN b n = true→n∈b
  | a::r,n,h=>by
    simp only [hasN,Bool.or_eq_true] at h
    rcases h with h | h
    · rw [Nat.eq_of_beq_eq_true h];simp
    · exact List.mem_cons_of_mem _ (qfe h)
theorem qj6 : ∀ {b : List Nat} {n : Nat},n∈b→hasN b n = true
  | a::r,n,h=>by
    simp only [hasN,Bool.or_eq_true]
    rcases List.mem_cons.1 h with rfl | h
    · left;exact Nat.beq_refl _
    · exact .inr (qj6 h)
theorem qhy (y : Fp) : fpLe (some [],[]) y = true:=by
  unfold fpLe;cases y.1 <;> rfl
theorem Js.mono {x y : Fp} (h : Js P ops o x st st1) (l : fpLe x y = true) : Js P ops o y st st1:=by
  simp only [fpLe,Bool.and_eq_true,subN,List.all_eq_true] at l;obtain ⟨n,d⟩:=l;have c : ∀ m∈x.2,m∈y.2:=fun m a=>qfe (n m a);refine ⟨h.nx,h.sl,fun m a=>h.hp m fun e=>a (c m e),h.keys,fun m b hb=>c m (h.fresh m b hb),fun st2 p b u=>?_⟩
  have f : Um ops o x st st2:=by
    refine ⟨⟨fun m a=>b.blk.1 m (c m a),?_⟩,b.sl⟩;have hb:=b.blk.2;revert d hb
    cases y.1 with
    | none=>grind
    | some r=>
      cases x.1 with
      | none=>simp
      | some r'=>
        intro d hb m a;exact hb m (qfe (by simpa using List.all_eq_true.1 d m a))
  obtain ⟨g,v,q,t,s,w,k⟩:=h.other st2 p f u;refine ⟨g,v,q,t,s,fun m a=>?_,fun m a=>k m fun e=>a (c m e)⟩;by_cases j : m∈x.2
  · grind
  · rw [k m j,h.hp m j];exact b.blk.1 m a
theorem qm7 {v : V} {x : Fp} (c : x.2 = []) (a : ∀ st2,Um ops o x st st2→Jq P st2.nx ops o st2 (st2.putD o.dst v)) : Js P ops o x st (st.putD o.dst v):=by
  refine ⟨by rw [Yg];exact Nat.le_refl _,fun t h=>by rw [Yz,qn h],fun m _=>by rw [Yf],fun m _ h=>by rw [Yf];exact h,fun m g a=>by rw [Yg] at a;omega,fun st2 f d _=>?_⟩;refine ⟨st2.putD o.dst v,Yg _ _ _,fun base=>qi9 (a st2 d),fun t h=>by rw [Yz,qn h],fun t h=>by rw [Yz,Yz,ql h,ql h],fun m b=>(by rw [c] at b;cases b),fun m _=>by rw [Yf]⟩
theorem qzt (b : Qn ops st o = some false) : Js P ops o (some [],[]) st (st.putD o.dst (.d (.tup []))):=
  qm7 rfl fun _ a=>qib (a.guard.trans b)
theorem qp7 {b : Blk} {n : Nat} {sl : List (Nat × V)} {hp1 : List (Nat × Blk)} {v : V} {op : Op} (c : opFn T st op = some (v,⟨sl,(st.nx,b)::hp1,n + 1⟩)) (f : st.nx = n) (h : q3g st op ⟨sl,(st.nx,b)::hp1,n + 1⟩ = true) : ∃ es xs,b = .dat es xs:=by
  by_cases d : touch op = 2
  · simp only [q3g,d] at h
    cases b with
    | dat es xs=>exact ⟨es,xs,rfl⟩
    | _=>simp at h
  · have a : touch op≤1:=by
      have : touch op≤2:=by unfold touch;split <;> omega
      omega
    have g:=(qej (st2:=st) c a (fun _=>rfl) (fun _ _=>rfl)).1;grind
theorem qzr {v : V} (y : Yw P T) (w : Qn ops st o = some true) (z : opFn T st o.op = some (v,st1)) (hd : q3g st o.op st1 = true) : Js P ops o (fp st o.op) st (st1.putD o.dst v):=by
  cases qjr z with
  | calm hsl hnx hhp hnone hall=>
    have g : ∀ t,st1.get t = st.get t:=fun t=>by unfold AS.get;rw [hsl]
    refine ⟨by rw [Yg];omega,fun t h=>by rw [Yz,qn h,g],fun m a=>by rw [Yf];exact hhp m a,fun m _ h=>by rw [Yf];exact hnone m h,fun m l j=>by rw [Yg] at j;omega,fun st2 k c _=>?_⟩;obtain ⟨d,r,p,n⟩:=hall st2 (fun x q=>c.ev q) c.blk;refine ⟨(⟨st2.sl,d,st2.nx⟩ : AS).putD o.dst v,Yg _ _ _,fun base=>qi9 (qdi y (c.guard.trans w) r),fun t h=>by rw [Yz,qn h];rfl,fun t h=>by rw [Yz,Yz,ql h,ql h],fun m a=>?_,fun m a=>?_⟩
    · rw [Yf,Yf];exact p m a
    · rw [Yf];exact n m a
  | new mk b hp1 hk hv l hmem hhp hnone hall=>
    subst l;obtain ⟨es,xs,rfl⟩:=qp7 z rfl hd;refine ⟨by rw [Yg];exact Nat.le_succ _,fun t h=>by rw [Yz,qn h];rfl,fun m a=>?_,fun m a h=>?_,fun m l j=>?_,fun st2 k c s=>?_⟩
    · rw [Yf,Ks,qn (by rintro rfl;exact a hmem)];exact hhp m a
    · rw [Yg] at a;rw [Yf,Ks,qn (by simp only at a;omega)];exact hnone m h
    · rw [Yg] at j;grind
    · rw [Yg] at k s ⊢;simp only at k s;obtain ⟨d,r,p,n,k4⟩:=hall st2 (fun x q=>c.ev q) c.blk;have f:=s st.nx (Nat.le_refl _) q0;refine ⟨(⟨st2.sl,(st.nx,.dat es xs)::d,st2.nx⟩ : AS).putD o.dst (mk st.nx),Yg _ _ _,fun base=>qi8 y (c.guard.trans w) hk r q0 f k4 (fun m a=>?_),fun t h=>by rw [Yz,qn h];rfl,fun t h=>by rw [Yz,Yz,ql h,ql h,hv],fun m a=>?_,fun m a=>?_⟩
      · by_cases u : m∈(fp st o.op).2
        · rw [p m u];refine hnone m ?_;rw [← c.blk.1 m u];exact a
        grind
      · rw [Yf,Yf,Ks,Ks];grind
      · rw [Yf,Ks,qn (by rintro rfl;exact a hmem)];exact n m a
theorem qzs {n es : Nat} {xs : List (List DV)} {hp2 : List (Nat × Blk)} (hT : Yw P T) (hg : Qn ops st o = some true) (ho : opFn T st o.op = some (.hs n es 0 xs.length,st1)) (q : n = st.nx∧st1.nx = n + 1) (v : st1.hp = (n,.dat es xs)::hp2) (hf : find hp2 n = none) :
    Js P ops o (fp st o.op) st (({sl:=st1.sl,hp:=hp2,nx:=st1.nx} : AS).putD o.dst (.d (.sl es xs))):=by
  obtain ⟨rfl,aa⟩:=q
  cases qjr ho with
  | calm hsl hnx hhp hnone hall=>omega
  | new mk b hp1 hk hv y hmem hhp hnone hall=>
    subst y;simp only [List.cons.injEq,Prod.mk.injEq,true_and] at v;obtain ⟨rfl,rfl⟩:=v;refine ⟨by rw [Yg];exact Nat.le_succ _,fun t h=>by rw [Yz,qn h];rfl,fun m g=>by rw [Yf];exact hhp m g,fun m g h=>by rw [Yf];exact hnone m h,fun m y h2=>?_,fun st2 q r j=>?_⟩
    · rw [Yg] at h2;grind
    · rw [Yg] at q j ⊢;simp only at q j;obtain ⟨k,k1,z,k3,k4⟩:=hall st2 (fun x hx=>r.ev hx) r.blk;have f:=j st.nx (Nat.le_refl _) q0
      have c : ∀ m,find st2.hp m = none→find k m = none:=fun m g=>by
        by_cases u : m∈(fp st o.op).2
        · rw [z m u];refine hnone m ?_;rw [← r.blk.1 m u];exact g
        grind
      refine ⟨(⟨st2.sl,k,st2.nx⟩ : AS).putD o.dst (.d (.sl es xs)),Yg _ _ _,fun base=>?_,fun t h=>by rw [Yz,qn h];rfl,fun t h=>by rw [Yz,Yz,ql h,ql h],fun m g=>by rw [Yf,Yf];exact z m g,fun m g=>by rw [Yf];exact k3 m g⟩;intro ro Q w Z inj a Ds K h hd l hb s p hK;refine qi8 (base:=base) hT (r.guard.trans hg) hk k1 q0 f k4 c ro Q w Z inj a Ds K h hd l hb s p fun a' w' hp=>hK a' w' ?_;rw [← hv] at hp;exact qtp (st1:=⟨st2.sl,(st.nx,.dat es xs)::k,st2.nx⟩) hb hp rfl (c _ f) l
theorem q10e {hp hp2 : List (Nat × Blk)} (h : ∀ m,find hp2 m = find hp m) : ∀ k,toD hp2 k = toD hp k:=by
  intro k
  induction k with
  | zero=>funext v;cases v <;> rfl
  | succ k ih=>funext v;cases v <;> simp only [toD,ih,h]
theorem qfx {hp hp2 : List (Nat × Blk)} (h : ∀ m,find hp2 m = find hp m) : ∀ {a : List V},Ko hp2 a = Ko hp a
  | []=>rfl
  | v::r=>by simp only [Ko,q10e h,qfx h]
theorem qfy {hp hp2 : List (Nat × Blk)} : ∀ {a : List V},a.all V.isD = true→Ko hp2 a = Ko hp a
  | [],_=>rfl
  | v::r,h=>by
    simp only [List.all_cons,Bool.and_eq_true] at h
    have e : toD hp2 8 v = toD hp 8 v:=by
      cases v <;> first | rfl | (simp [V.isD] at h;done)
    rw [Ko,Ko,e,qfy (hp:=hp) (hp2:=hp2) h.2]
theorem qzq {c : Call} {f : FuncId} {b : List V} {ds : List DV} {v : V} {hp' : List (Nat × Blk)} {nx' : Nat} {n r : DV} (p : Qn ops st o = some true) (m : o.op = .call c) (q : callee st c = some (f,b))
    (j : Ko st.hp b = some ds) (a : Jo P f (ds.map .d) [] 0 v hp' nx') (k : toD hp' 8 v = some n) (g : DLe n r) (hs : b.all V.isD = true∨r.scalar = true) : Js P ops o (fpC b) st (st.putD o.dst (.d r)):=by
  refine qm7 (by unfold fpC;cases b.all V.isD <;> rfl) fun st2 l=>qia (l.guard.trans p) m ((l.callee m).trans q) ?_ a k g hs;rw [← j];by_cases hd : b.all V.isD = true
  · exact qfy hd
  · have h:=l.blk.2;simp only [fpC,hd,Q3] at h;exact qfx h
theorem qq9 {ops : Array Oper} {o : Oper} {c : Call} {f : FuncId} {vs az : List V} {hp0 hp' ao bb : List (Nat × Blk)} {k k' ap : Nat} {v' vN : V} {ρ ρ3 : Nat→Nat} {bs an : List Nat} (hg : Qn ops st o = some true) (ho : o.op = .call c) (hc : callee st c = some (f,vs)) (cf : vs.length = az.length)
    (cj : Wk 0 ρ [] [] {sl:=Ky 0 vs,hp:=st.hp,nx:=st.nx} {sl:=Ky 0 az,hp:=hp0,nx:=k}) (aq : Jo P f az hp0 k v' hp' k') (ce : Wk 0 ρ3 bs an {sl:=[(0,v')],hp:=hp',nx:=k'} {sl:=[(0,vN)],hp:=ao,nx:=ap})
    (hb : Back ρ ρ3 an k k' st.nx ap st.hp ao bb) : Jq P base ops o st ({sl:=st.sl,hp:=bb,nx:=ap : AS}.putD o.dst vN):=by
  intro ro Q w Z inj a Ds K h hd bi _ hK;unfold Ul;rw [q3l h hg];simp only [if_true];refine ⟨fun _ _=>trivial,?_⟩;obtain ⟨xs,hr,hl⟩:=qcj h ho hc aq.1;rw [show (Fw ro).round = ro from rfl,Oper.semAt_eq ro _ o (by rintro c' h';rw [ho] at h';cases h'),hr,Oper.uponIn_enter];refine ⟨fun h=>by simp [Fw] at h,?_⟩
  have bn : RelS w Z inj {sl:=Ky 0 vs,hp:=st.hp,nx:=st.nx} {a with tmps:=xs,defers:=[]} []:=by
    refine ⟨fun t v ht=>?_,h.heap,rfl,List.nodup_nil,qc⟩;rw [qa1] at ht;simp only [Nat.zero_le,if_true,Nat.sub_zero] at ht;obtain ⟨y,hy⟩:=Y4 (xs:=xs) (i:=t) (by rw [← hl.1];exact Kc ht);exact ⟨y,hy,hl.2 t v y ht hy⟩
  obtain ⟨cb,aj⟩:=q26 bn cj
  have cv : LRel w (wkZ Z inj {sl:=Ky 0 vs,hp:=st.hp,nx:=st.nx} []) (wkI inj ρ []) k az xs:=by
    refine ⟨by rw [← cf];exact hl.1,fun i d y cu df=>?_⟩;obtain ⟨y',bv,hr⟩:=cb.slots i d (by rw [qa1];simpa using cu);rw [df] at bv;cases bv;exact hr
  refine CallsIn.mono (aq.2 w _ _ xs cb.heap cv) ?_;rintro e w' ⟨x,Z',inj',rfl,hh,bz,hv,hn⟩;obtain ⟨s,af⟩ : ∃ s : Inj,s = fun n=>if n < k' then inj' n else none:=⟨_,rfl⟩
  have ab : ∀ n,n < k'→s n = inj' n:=fun n hn=>by rw [af];simp [hn]
  have cx : RelH w' Z' s hp' k':=by
    refine ⟨fun n b hb=>?_,fun n m b c p q l j u h4 h5 h6=>?_,fun n b p l j u=>?_,hh.zs,hh.zc⟩
    · obtain ⟨k1,k2⟩:=hh.blk n b hb;exact ⟨k1,qkl k2 (fun m p hm hp=>(ab m hm).trans hp) k1 (fun hp=>(ab n k1).trans hp)⟩
    · rw [ab n (hh.blk n b l).1] at h5;rw [ab m (hh.blk m c j).1] at h6;exact hh.sep n m b c p q l j u h4 h5 h6
    · rw [ab n (hh.blk n b l).1] at u;exact hh.out n b p l j u
  have de : RelV w' Z' s k' v' x:=q88 hv fun n p hn hp=>(ab n hn).trans hp
  have bh : ∀ b,im hp' s b→im hp' inj' b:=by
    rintro b ⟨n,blk,o,l,j,u⟩;exact ⟨n,blk,o,l,j,by rw [← ab n (hh.blk n blk l).1];exact u⟩
  have bg : RelS w' Z' s {sl:=[(0,v')],hp:=hp',nx:=k'} {a with tmps:=#[x],defers:=[]} []:=by
    refine ⟨fun t v ht=>?_,cx,rfl,List.nodup_nil,qc⟩;rw [Ks] at ht;split at ht
    · rename_i e;subst e;cases ht;exact ⟨x,rfl,de⟩
    · simp [find] at ht
  obtain ⟨ac,ai⟩:=q26 bg ce;generalize dt : wkZ Z' s {sl:=[(0,v')],hp:=hp',nx:=k'} bs = Z3 at ac ai;generalize br : wkI s ρ3 an = z at ac ai
  have cy : RelV w' Z3 z ap vN x:=by
    obtain ⟨y,hy,hr⟩:=ac.slots 0 vN (by simp [find]);simp at hy;subst hy;exact hr
  have bf : ∀ i,i < k→inj' i = inj (ρ i):=fun i hi=>by rw [bz.pinj i hi];simp [wkI]
  have cm : ∀ m,m < st.nx→∀ p,z m = some p→inj m = some p:=by
    intro m hm p hp;have ay : m ∉ an:=fun hc=>by have:=hb.phn m hc;omega
    rw [← br] at hp;simp only [wkI,ay,if_false] at hp;rcases hb.snd m hm with ⟨l,j⟩ | l
    · rw [af] at hp;simp only [show ρ3 m < k' by omega,if_true] at hp;rw [bf _ l,j] at hp;exact hp
    · rw [af] at hp;simp [show ¬ ρ3 m < k' by omega] at hp
  obtain ⟨r,ag⟩ : ∃ r : Inj,r = fun m=>if m < st.nx then inj m else z m:=⟨_,rfl⟩
  have aa : ∀ m,m < st.nx→r m = inj m:=fun m hm=>by rw [ag];simp [hm]
  have cd : ∀ m p,z m = some p→r m = some p:=fun m p hp=>by
    by_cases hm : m < st.nx
    · rw [aa m hm];exact cm m hm p hp
    · rw [ag];simp [hm,hp]
  have hR : ∀ m b,find ao m = some b→∀ p,r m = some p→z m = some p:=by
    intro m b bl p hp;by_cases hm : m < st.nx
    · rw [aa m hm] at hp;have ay : m ∉ an:=fun hc=>by have:=hb.phn m hc;omega
      obtain ⟨_,j⟩:=ce.blocks m b bl;rcases j with ⟨j,_⟩ | ⟨_,b0,u,_⟩
      · exact absurd j ay
      · have dd:=(hh.blk _ _ u).1;rcases hb.snd m hm with ⟨k1,k2⟩ | k1
        · rw [← br];simp only [wkI,ay,if_false];rw [ab _ q0,bf _ k1,k2];exact hp
        · omega
    · rw [ag] at hp;simpa [hm] using hp
  have hE : Ext w (wkZ Z inj {sl:=Ky 0 vs,hp:=st.hp,nx:=st.nx} []) (wkI inj ρ []) hp0 w' Z' inj' hp' 0:=bz.pin_le (Nat.zero_le _)
  have dc : ∀ b,im ao z b→im st.hp inj b∨w.heap.size≤b:=by
    intro b cs;rcases ai.imm b cs with l | l
    · rcases hE.imm b (bh b l) with j | j
      · exact aj.imm b j
      · exact .inr j
    · exact .inr (Nat.le_trans hE.size l)
  have keep : ∀ b,b < w.heap.size→¬ im hp0 (wkI inj ρ []) b→w'.heap[b]? = w.heap[b]?:=fun b cq cr=>hE.keep b cq cr
  have ar : ∀ m b p,find st.hp m = some b→live b = true→inj m = some p→(∀ i,i < k→ρ i≠m)→¬ im hp0 (wkI inj ρ []) p.1:=by
    rintro m b p l j u h4 ⟨i,blk,o,g1,g2,g3⟩;obtain ⟨j1,j2⟩:=cj.blocks i blk g1;rcases j2 with ⟨j2,_⟩ | ⟨_,b0,j3,j4⟩
    · cases j2
    · have cz : inj (ρ i) = some (p.1,o):=by simpa [wkI] using g3
      exact h.heap.sep (ρ i) m b0 b _ p j3 l (qmx j4 g2) j cz u (h4 i j1) rfl
  have hZ : ∀ b,Z b→Z3 b:=fun b hz=>ai.zin b (hE.zin b (aj.zin b hz))
  have ch : ∀ b,Z3 b→Z b∨im hp0 (wkI inj ρ []) b∨w.heap.size≤b:=by
    intro b hz;rcases ai.zout b hz with l | l | l
    · rcases hE.zout b l with j | j | j
      · rcases aj.zout b j with u | u | u
        · exact .inl u
        · rcases j with j | ⟨n,hn,_⟩
          · exact .inl j
          · cases hn
        · exact .inr (.inr u)
      · exact .inr (.inl j)
      · exact .inr (.inr j)
    · rcases hE.imm b (bh b l) with j | j
      · exact .inr (.inl j)
      · exact .inr (.inr j)
    · exact .inr (.inr (Nat.le_trans hE.size l))
  have bd : Zv w w':=hE.big;have ax : q9v w w':=hE.loops
  have bw : Ext w Z inj st.hp w' Z3 r bb st.nx:=by
    refine ⟨hE.size,fun b l j=>keep b l (fun u=>(aj.imm b u).elim j (fun h4=>q0)),?_,bd,ax,hZ,?_,aa,hE.tape,hE.os,hE.output,hE.frz⟩
    · rintro b ⟨m,blk,o,g1,g2,g3⟩;rcases hb.old m blk g1 with g4 | ⟨g4,_⟩
      · exact dc b ⟨m,blk,o,g4,g2,hR m blk g4 _ g3⟩
      · exact .inl ⟨m,blk,o,g4,g2,by rw [← aa m (h.heap.blk m blk g4).1];exact g3⟩
    · intro b hz;rcases ch b hz with l | l | l
      · exact .inl l
      · exact .inr ((aj.imm b l).imp (fun x=>x) (fun x=>x))
      · exact .inr (.inr l)
  have hH : RelH w' Z3 r bb ap:=by
    refine ⟨fun m b bl=>?_,fun m n b c p q l j u h4 h5 h6 cc=>?_,fun m b p l j u hz=>?_,ac.heap.zs,ac.heap.zc⟩
    · rcases hb.old m b bl with g | ⟨g,gi⟩
      · obtain ⟨k1,k2⟩:=ac.heap.blk m b g;refine ⟨k1,qkl k2 (fun n p _ hp=>cd n p hp) k1 fun hp=>?_⟩
        cases hq : r m with
        | none=>rfl
        | some p=>rw [hR m b g p hq] at hp;cases hp
      · obtain ⟨k1,k2⟩:=h.heap.blk m b g;refine ⟨Nat.lt_of_lt_of_le k1 hb.nxs,k2.mono (fun b' hz=>?_) hZ bd (fun n hn=>aa n hn) hb.nxs k1 fun p hp bt=>?_⟩
        · refine keep b' (h.heap.zs b' hz) fun hi=>?_;rcases aj.imm b' hi with l | l
          · exact h.heap.z_im hz l
          · have:=h.heap.zs b' hz;omega
        · exact keep _ (h.heap.im_lt ⟨m,b,p.2,g,bt,hp⟩) (ar m b p g bt hp gi)
    · have am : ∀ (m n : Nat) (b c : Blk) (p q : Nat × Nat),find ao m = some b→live b = true→r m = some p→find st.hp n = some c→live c = true→r n = some q→(∀ i,i < k→ρ i≠n)→p.1≠q.1:=by
        intro m n b c p q l u h5 j h4 h6 hn e;have hq : inj n = some q:=by rw [← aa n (h.heap.blk n c j).1];exact h6
        have dd:=h.heap.im_lt (b:=q.1) ⟨n,c,q.2,j,h4,hq⟩;rcases ai.imm p.1 ⟨m,b,p.2,l,u,hR m b l p h5⟩ with g1 | g1
        · rcases hE.imm p.1 (bh _ g1) with g2 | g2
          · exact ar n c q j h4 hq hn (e ▸ g2)
          · omega
        · have:=hE.size;omega
      rcases hb.old m b l with g | ⟨g,gi⟩ <;> rcases hb.old n c j with g' | ⟨g',cw⟩
      · exact ac.heap.sep m n b c p q g g' u h4 (hR m b g p h5) (hR n c g' q h6) cc
      · exact am m n b c p q g u h5 g' h4 h6 cw
      · exact fun e=>am n m c b q p g' h4 h6 g u h5 gi e.symm
      · exact h.heap.sep m n b c p q g g' u h4 (by rw [← aa m (h.heap.blk m b g).1];exact h5) (by rw [← aa n (h.heap.blk n c g').1];exact h6) cc
    · rcases hb.old m b l with g | ⟨g,gi⟩
      · exact ac.heap.out m b p g j (hR m b g p u) hz
      · have hq : inj m = some p:=by rw [← aa m (h.heap.blk m b g).1];exact u
        rcases ch p.1 hz with h4 | h4 | h4
        · exact h.heap.out m b p g j hq h4
        · exact ar m b p g j hq gi h4
        · have:=h.heap.im_lt (b:=p.1) ⟨m,b,p.2,g,j,hq⟩;omega
  exact hK _ _ (q3o h bi bw hH hb.nxs (q88 cy fun n p _ hp=>cd n p hp) hd)
theorem qzu {c : Call} {f : FuncId} {b : List V} {v : V} {hp' : List (Nat × Blk)} {nx' : Nat} (h : Qn ops st o = some true) (d : o.op = .call c) (g : callee st c = some (f,b)) (a : Jo P f b st.hp st.nx v hp' nx') :
    Jq P base ops o st ({sl:=st.sl,hp:=hp',nx:=nx' : AS}.putD o.dst v):=qqa h d g a
inductive Zk (P : Program) (base : Nat) (ops : Array Oper) : List Oper→AS→AS→Prop
  | nil {st : AS} : Zk P base ops [] st st
  | cons {o : Oper} {l : List Oper} {st st1 st2 : AS} : Jq P base ops o st st1→Zk P base ops l st1 st2→Zk P base ops (o::l) st st2
  | wk {ρ : Nat→Nat} {fz ph : List Nat} {l : List Oper} {st st1 st2 : AS} : Wk base ρ fz ph st st1→Zk P base ops l st1 st2→Zk P base ops l st st2
inductive Jp (P : Program) (base : Nat) (ops : Array Oper) (F : List Fp) : List Oper→AS→AS→Prop
  | nil {st : AS} : Jp P base ops F [] st st
  | cons {o : Oper} {l : List Oper} {st st1 st2 : AS} : Js P ops o (fpAt F l.length) st st1→Jp P base ops F l st1 st2→Jp P base ops F (o::l) st st2
  | piv {o : Oper} {l : List Oper} {st st1 st2 : AS} : Ux (fpAt F l.length) = true→Zk P base ops [o] st st1→Jp P base ops F l st1 st2→Jp P base ops F (o::l) st st2
def q14 (P : Program) (base : Nat) (ops : Array Oper) (dr : Dr) (l : List Oper) (st st' : AS) : Prop:=match dr with
  | none=>Zk P base ops l st st'
  | some F=>Jp P base ops F l st st'
theorem qgg {F : List Fp} : ∀ {l : List Oper} {st st' : AS},Jp P base ops F l st st'→∃ (n : Nat) (S : Nat→AS),n≤l.length∧S 0 = st∧(∀ i o,i < n→l[i]? = some o→Js P ops o (fpAt F (l.length - (i + 1))) (S i) (S (i + 1)))∧
    ((n = l.length∧S n = st')∨∃ o st1,l[n]? = some o∧Ux (fpAt F (l.length - (n + 1))) = true∧Zk P base ops [o] (S n) st1∧Jp P base ops F (l.drop (n + 1)) st1 st')
  | [],st,st',h=>by cases h;exact ⟨0,fun _=>st,Nat.le_refl _,rfl,fun i o h=>q0,.inl ⟨rfl,rfl⟩⟩
  | o::l,st,st',h=>by
    cases h with
    | @cons _ _ _ st1 _ h1 h2=>
      obtain ⟨n,S,p,m,hs,a⟩:=qgg h2
      refine ⟨n + 1,fun i=>match i with | 0=>st | i + 1=>S i,by simp;omega,rfl,fun i c hi d=>?_,?_⟩
      · cases i with
        | zero=>simp at d;subst d;simp only [m,List.length_cons,Nat.zero_add,Nat.add_sub_cancel];exact h1
        | succ i=>
          have:=hs i c q0 (by simpa using d)
          simp only [List.length_cons]
          rw [show l.length + 1 - (i + 1 + 1) = l.length - (i + 1) by omega]
          exact this
      · rcases a with ⟨b,f⟩ | ⟨c,g,b,f,k,j⟩
        · exact .inl ⟨by simp [b],f⟩
        · refine .inr ⟨c,g,by simpa using b,?_,k,by simpa using j⟩
          rw [List.length_cons,show l.length + 1 - (n + 1 + 1) = l.length - (n + 1) by omega]
          exact f
    | @piv _ _ _ st1 _ h1 h2 b=>exact ⟨0,fun _=>st,Nat.zero_le _,rfl,fun i o h=>q0,.inr ⟨o,st1,rfl,by simpa using h1,h2,by simpa using b⟩⟩
theorem qo3 {dr : Dr} {l : List Oper} {st2 : AS} (a : Qn ops st o = some false) (h : q14 P base ops dr l (st.putD o.dst (.d (.tup []))) st2) : q14 P base ops dr (o::l) st st2:=by
  cases dr with
  | none=>exact .cons (qib a) h
  | some F=>exact .cons ((qzt a).mono (qhy _)) h
theorem qo1 {dr : Dr} {l : List Oper} {st2 : AS} {v : V} (d : Yw P T) (c : Qn ops st o = some true) (b : opFn T st o.op = some (v,st1)) (a : okO dr l.length st o.op st1 = true) (h : q14 P base ops dr l (st1.putD o.dst v) st2) : q14 P base ops dr (o::l) st st2:=by
  cases dr with
  | none=>exact .cons (qdi d c b) h
  | some F=>
    simp only [okO,Bool.and_eq_true] at a;exact .cons ((qzr d c b a.2).mono a.1) h
theorem qo2 {dr : Dr} {l : List Oper} {st2 : AS} {n es : Nat} {xs : List (List DV)} {hp2 : List (Nat × Blk)} (j : Yw P T) (b : Qn ops st o = some true) (a : opFn T st o.op = some (.hs n es 0 xs.length,st1)) (f : n = st.nx∧st1.nx = n + 1) (c : st1.hp = (n,.dat es xs)::hp2) (g : find hp2 n = none) (k : okF dr l.length (fp st o.op) = true)
    (h : q14 P base ops dr l (({sl:=st1.sl,hp:=hp2,nx:=st1.nx} : AS).putD o.dst (.d (.sl es xs))) st2) : q14 P base ops dr (o::l) st st2:=by
  cases dr with
  | none=>exact .cons (qqb j b a (Nat.le_of_eq f.1.symm) c g) h
  | some F=>exact .cons ((qzs j b a f c g).mono k) h
theorem qo0 {dr : Dr} {l : List Oper} {st2 : AS} {c : Call} {f : FuncId} {k : List V} {ds : List DV} {v : V} {hp' : List (Nat × Blk)} {nx' : Nat} {p r : DV} (m : Qn ops st o = some true) (n : o.op = .call c) (q : callee st c = some (f,k))
    (g : Ko st.hp k = some ds) (a : Jo P f (ds.map .d) [] 0 v hp' nx') (j : toD hp' 8 v = some p) (b : DLe p r) (hs : k.all V.isD = true∨r.scalar = true) (s : okF dr l.length (fpC k) = true) (h : q14 P base ops dr l (st.putD o.dst (.d r)) st2) : q14 P base ops dr (o::l) st st2:=by
  cases dr with
  | none=>exact .cons (qia m n q g a j b hs) h
  | some F=>exact .cons ((qzq m n q g a j b hs).mono s) h
def Adm (ops : Array Oper) (S : Nat→Prop) : Prop:=∀ j o,S j→ops[j]? = some o→∀ e∈o.after,Region.binds .any e = true→S e.on
def Behind (ops : Array Oper) (o : Oper) (j : Nat) : Prop:=∀ S : Nat→Prop,Adm ops S→(∀ e∈o.after,Region.binds .any e = true→S e.on)→S j
theorem qj2 (acc : List Nat) (j : Nat) : ∀ (l : List Edge) (s : Nat),(l.foldl (fun s e=>if Region.binds .any e then s ||| 2 ^ e.on ||| acc.getD e.on 0 else s) s).testBit j = true→
    s.testBit j = true∨∃ e∈l,Region.binds .any e = true∧(e.on = j∨(acc.getD e.on 0).testBit j = true)
  | [],s,h=>.inl h
  | e::l,s,h=>by
    simp only [List.foldl_cons] at h
    rcases qj2 acc j l _ h with h | ⟨a,c,b,d⟩
    · by_cases hb : Region.binds .any e = true
      · simp only [hb,if_true,Nat.testBit_or,Bool.or_eq_true,Nat.testBit_two_pow] at h
        rcases h with (h | h) | h
        · exact .inl h
        · exact .inr ⟨e,qc,hb,.inl (by simpa using h)⟩
        · exact .inr ⟨e,qc,hb,.inr h⟩
      · simp only [hb] at h;exact .inl (by simpa using h)
    · exact .inr ⟨a,List.mem_cons_of_mem _ c,b,d⟩
theorem qj3 : ∀ (r : List Oper) (pre : List Oper) (acc : List Nat),ops.toList = pre ++ r→acc.length = pre.length→
    (∀ (i m : Nat),acc[i]? = some m→∃ o,ops[i]? = some o∧∀ j,m.testBit j = true→Behind ops o j)→
    (masks acc r).length = ops.size∧∀ (i m : Nat),(masks acc r)[i]? = some m→∃ o,ops[i]? = some o∧∀ j,m.testBit j = true→Behind ops o j
  | [],pre,acc,h,hl,ha=>by
    refine ⟨?_,ha⟩
    have:=congrArg List.length h
    simp at this
    simp [masks,hl,this]
  | o::r,pre,acc,h,hl,ha=>by
    refine qj3 r (pre ++ [o]) (acc ++ [qj1 acc o]) (by rw [h];simp) (by simp [hl]) ?_
    intro i m b
    by_cases hi : i < acc.length
    · rw [List.getElem?_append_left hi] at b;exact ha i m b
    · rw [List.getElem?_append_right q0] at b
      have d : i = acc.length:=by
        have:=Kc b;simp at this;omega
      subst d
      simp at b;subst b
      refine ⟨o,by rw [← Array.getElem?_toList,h,hl];simp,fun j u S n t=>?_⟩
      rcases qj2 acc j _ _ u with v | ⟨e,s,q,a⟩
      · simp at v
      · have c:=t e (by simpa using s) q
        rcases a with a | a
        · exact a ▸ c
        · rw [List.getD_eq_getElem?_getD] at a
          cases k : acc[e.on]? with
          | none=>rw [k] at a;simp at a
          | some m'=>
            rw [k] at a;obtain ⟨w,g,hb⟩:=ha _ _ k;exact hb j a S n (fun p f l=>n _ _ c g p f l)
theorem qha : ∀ (l : List Oper) (n : Nat),qab n l = true→∀ i o,l[i]? = some o→∀ e∈o.after,Region.binds .any e = true→e.on < n + i
  | [],_,_,i,o,h=>by simp at h
  | x::l,n,h,i,o,ho=>by
    simp only [qab,Bool.and_eq_true,List.all_eq_true] at h
    cases i with
    | zero=>
      simp at ho;subst ho
      intro e a hb
      have:=h.1 e (by simpa using a)
      simp [hb] at this
      exact this
    | succ i=>
      intro e a hb
      have:=qha l (n + 1) h.2 i o (by simpa using ho) e a hb
      omega
structure q76 (x y : Fp) : Prop where
  ww : ∀ m∈x.2,m ∉ y.2
  rw : ∀ m∈y.2,match x.1 with | none=>False | some r=>m ∉ r
  wr : ∀ m∈x.2,match y.1 with | none=>False | some r=>m ∉ r
theorem qcb {a b : List Nat} (h : q7b a b = true) : ∀ m∈a,m ∉ b:=fun m c hb=>by
  simp only [q7b,List.all_eq_true] at h
  have:=h m c
  rw [qj6 hb] at this;cases this
theorem qnb {x y : Fp} (h : qca x y = true) : q76 x y:=by
  simp only [qca,Bool.and_eq_true] at h;obtain ⟨⟨f,b⟩,c⟩:=h;refine ⟨qcb f,fun m a=>?_,fun m a=>?_⟩
  · revert b
    cases x.1 with
    | none=>intro b;rw [List.isEmpty_iff] at b;rw [b] at a;cases a
    | some r=>intro b d;exact qcb b m d a
  · revert c
    cases y.1 with
    | none=>intro c;rw [List.isEmpty_iff] at c;rw [c] at a;cases a
    | some r=>intro c d;exact qcb c m d a
structure q77 (F : List Fp) (ops : Array Oper) : Prop where
  edges : ∀ j o,ops[j]? = some o→∀ e∈o.after,Region.binds .any e = true→e.on < j
  pairs : ∀ i j a b,i < j→ops[i]? = some a→ops[j]? = some b→Behind ops b i∨(q76 (fpAt F (ops.size - (i + 1))) (fpAt F (ops.size - (j + 1)))∧(∀ t∈reads ops a,b.dst≠some t)∧(∀ t∈reads ops b,a.dst≠some t)∧∀ t,a.dst = some t→b.dst≠some t)
  pivs : ∀ i j a b,i < j→ops[i]? = some a→ops[j]? = some b→(Ux (fpAt F (ops.size - (i + 1))) = true∨Ux (fpAt F (ops.size - (j + 1))) = true)→Behind ops b i
theorem qn2 {α : Type} {l : List α} {i : Nat} {x : α} (h : l[i]? = some x) : (x,i)∈l.zipIdx:=by grind
theorem qd0 {o : Oper} {t : Tmp} : q7j o t = true↔o.dst = some t:=by
  unfold q7j
  cases o.dst with
  | none=>simp
  | some d=>simp
theorem qp9 {F : List Fp} (h : q7i F ops = true) : q77 F ops:=by
  simp only [q7i,Bool.and_eq_true,List.all_eq_true] at h;obtain ⟨m,r⟩:=h;obtain ⟨w,v⟩:=qj3 (ops:=ops) ops.toList [] [] rfl rfl qc;have d : ∀ (i : Nat) (o : Oper),ops[i]? = some o→ops.toList[i]? = some o:=fun i o l=>by rw [Array.getElem?_toList];exact l
  have main : ∀ i j a b,i < j→ops[i]? = some a→ops[j]? = some b→Behind ops b i∨((Ux (fpAt F (ops.size - (i + 1))) = false∧Ux (fpAt F (ops.size - (j + 1))) = false)∧(q76 (fpAt F (ops.size - (i + 1))) (fpAt F (ops.size - (j + 1)))∧(∀ t∈reads ops a,b.dst≠some t)∧(∀ t∈reads ops b,a.dst≠some t)∧∀ t,a.dst = some t→b.dst≠some t)):=fun i j a b c k hb=>by
    have:=r _ (qn2 (d j b hb)) _ (qn2 (d i a k));simp only [Bool.or_eq_true] at this;rcases this with (h | h) | h
    · have u : Nat.blt i j = true:=by rw [Nat.blt_eq];exact c
      grind
    · grind
    · right;simp only [Bool.and_eq_true,Bool.not_eq_true'] at h;obtain ⟨⟨⟨hp1,hp2⟩,h⟩,q⟩:=h;simp only [qg0,Bool.and_eq_true,List.all_eq_true,Bool.not_eq_true'] at h;obtain ⟨⟨s,n⟩,g⟩:=h;refine ⟨⟨hp1,hp2⟩,qnb q,fun t f hd=>?_,fun t f hd=>?_,fun t f hd=>?_⟩
      · have:=s t f;rw [qd0.2 hd] at this;cases this
      · have:=n t f;rw [qd0.2 hd] at this;cases this
      · rw [f] at g;simp only at g;rw [qd0.2 hd] at g;simp at g
  refine ⟨fun j o l e p hb=>?_,fun i j a b c k hb=>(main i j a b c k hb).imp id And.right,fun i j a b c k hb hp=>?_⟩
  · have:=qha _ 0 m j o (d j o l) e p hb;omega
  grind
end
end Go.Am
namespace Go.Am
open Go
variable {P : Program}
section
variable {base : Nat} {ops : Array Oper}
theorem qdh {l : Array Bool} {i : Nat} : l.getD i false = true↔l[i]? = some true:=by
  rw [Array.getD_eq_getD_getElem?];cases l[i]? <;> simp
theorem qaf {l : Array Bool} {i : Nat} : l.getD i true = false↔l[i]? = some false:=by
  rw [Array.getD_eq_getD_getElem?];cases l[i]? <;> simp
theorem qua {w : World} {Z : Nat→Prop} {inj : Inj} {hp hp2 : List (Nat × Blk)} {nx : Nat} (h : RelH w Z inj hp nx) (hs : ∀ m,find hp2 m = find hp m) : RelH w Z inj hp2 nx:=by
  refine ⟨fun n b hb=>h.blk n b (by rw [← hs];exact hb),fun n m b c p q a d=>h.sep n m b c p q (by rw [← hs];exact a) (by rw [← hs];exact d),fun n b p a=>h.out n b p (by rw [← hs];exact a),h.zs,h.zc⟩
theorem qpp {w w' : World} {Z Z' : Nat→Prop} {inj inj' : Inj} {hp hp' hp2 : List (Nat × Blk)} {pin : Nat} (h : Ext w Z inj hp w' Z' inj' hp' pin) (hs : ∀ m,find hp2 m = find hp' m) : Ext w Z inj hp w' Z' inj' hp2 pin:=
  {h with imm:=fun b hb=>h.imm b (by
      obtain ⟨n,c,o,d,a,f⟩:=hb
      exact ⟨n,c,o,by rw [← hs];exact d,a,f⟩)}
abbrev fpO (F : List Fp) (ops : Array Oper) (i : Nat) : Fp:=fpAt F (ops.size - (i + 1))
def CutS (ops : Array Oper) (listed : Array Bool) (t : Tmp) (m : Nat) : Prop:=∀ (i : Nat) (o : Oper),ops[i]? = some o→o.dst = some t→(listed[i]? = some true↔i < m)
def CutB (F : List Fp) (ops : Array Oper) (listed : Array Bool) (q m : Nat) : Prop:=∀ (i : Nat) (o : Oper),ops[i]? = some o→q∈(fpO F ops i).2→(listed[i]? = some true↔i < m)
structure Mid (F : List Fp) (ops : Array Oper) (S : Nat→AS) (lo hi : Nat) (listed : Array Bool) (st : AS) : Prop where
  nx : st.nx = (S hi).nx
  sl : ∀ t m,lo≤m→m≤hi→CutS ops listed t m→st.get t = (S m).get t
  hp : ∀ q m,lo≤m→m≤hi→CutB F ops listed q m→find st.hp q = find (S m).hp q
abbrev Steps (P : Program) (F : List Fp) (ops : Array Oper) (S : Nat→AS) (lo hi : Nat) : Prop:=∀ (i : Nat) (o : Oper),lo≤i→i < hi→ops[i]? = some o→Js P ops o (fpO F ops i) (S i) (S (i + 1))
theorem qch {F : List Fp} {S : Nat→AS} {lo hi : Nat} (b : hi≤ops.size) (d : Steps P F ops S lo hi) {t : Tmp} {j : Nat} (a : lo≤j) : ∀ m,j≤m→m≤hi→(∀ (i : Nat) (o : Oper),j≤i→i < m→ops[i]? = some o→o.dst≠some t)→(S m).get t = (S j).get t
  | 0,h,_,_=>by have : j = 0:=q0;subst this;rfl
  | m + 1,h,hm,hno=>by
    by_cases f : j = m + 1
    · subst f;rfl
    · obtain ⟨o,c⟩:=Y4 (xs:=ops) (i:=m) q0
      rw [(d m o q0 q0 c).sl t (hno m o q0 q0 c)]
      exact qch b d a m q0 q0 fun i o g k=>hno i o g q0
theorem qcg {F : List Fp} {S : Nat→AS} {lo hi : Nat} (b : hi≤ops.size) (d : Steps P F ops S lo hi) {q j : Nat} (a : lo≤j) : ∀ m,j≤m→m≤hi→(∀ (i : Nat) (o : Oper),j≤i→i < m→ops[i]? = some o→q ∉ (fpO F ops i).2)→find (S m).hp q = find (S j).hp q
  | 0,h,_,_=>by have : j = 0:=q0;subst this;rfl
  | m + 1,h,hm,hno=>by
    by_cases f : j = m + 1
    · subst f;rfl
    · obtain ⟨o,c⟩:=Y4 (xs:=ops) (i:=m) q0
      rw [(d m o q0 q0 c).hp q (hno m o q0 q0 c)]
      exact qcg b d a m q0 q0 fun i o g k=>hno i o g q0
theorem q1o {F : List Fp} {S : Nat→AS} {lo hi : Nat} (b : hi≤ops.size) (c : Steps P F ops S lo hi) {j : Nat} (a : lo≤j) : ∀ m,j≤m→m≤hi→(S j).nx≤(S m).nx
  | 0,h,_=>by have : j = 0:=q0;subst this;exact Nat.le_refl _
  | m + 1,h,hm=>by
    by_cases f : j = m + 1
    · subst f;exact Nat.le_refl _
    · obtain ⟨o,d⟩:=Y4 (xs:=ops) (i:=m) q0
      exact Nat.le_trans (q1o b c a m q0 q0) (c m o q0 q0 d).nx
theorem qis {F : List Fp} {S : Nat→AS} {lo hi : Nat} (a : hi≤ops.size) (c : Steps P F ops S lo hi) (b : ∀ q,(S lo).nx≤q→find (S lo).hp q = none) : ∀ m,lo≤m→m≤hi→∀ q,(S m).nx≤q→find (S m).hp q = none
  | 0,hl,_,q,hq=>by have : lo = 0:=q0;subst this;exact b q hq
  | m + 1,hl,hm,q,hq=>by
    by_cases f : lo = m + 1
    · subst f;exact b q hq
    obtain ⟨o,d⟩:=Y4 (xs:=ops) (i:=m) q0
    have hs:=c m o q0 q0 d
    exact hs.keys q hq (qis a c b m q0 q0 q (Nat.le_trans hs.nx hq))
def Keep (ops : Array Oper) (S : Nat→AS) (lo hi : Nat) (base : Nat) (w0 : World) (Z0 : Nat→Prop) (inj0 : Inj) (hp0 : List (Nat × Blk)) (a0 : Act) (Ds0 : List Nat) (listed : Array Bool) (st : AS) (a : Act) (w : World) : Prop:=
  ∃ Z inj Ds,RelS w Z inj st a Ds∧Ext w0 Z0 inj0 hp0 w Z inj st.hp base∧a.tmps.size = a0.tmps.size∧(∀ D∈Ds,D∈Ds0∨w0.heap.size≤D)∧
    ∀ (i : Nat) (o : Oper),lo≤i→i < hi→ops[i]? = some o→listed[i]?≠some true→∀ m,(S i).nx≤m→m < (S (i + 1)).nx→inj m = none
theorem qh0 {l : Array Bool} {i : Nat} {n : Nat} (hi : l[i]? = some false) (b : l.toList.count false = n + 1) : (l.setIfInBounds i true).toList.count false = n:=by
  have a : i < l.toList.length:=by simpa using Zd hi
  rw [Array.toList_setIfInBounds,List.count_set a]
  have : l.toList[i] = false:=by
    have:=hi;rw [← Array.getElem?_toList,List.getElem?_eq_getElem a] at this;simpa using this
  simp [this,b]
theorem qkd {F : List Fp} (m : q77 F ops) {listed : Array Bool} (f : listed.size = ops.size) : ∀ (n i : Nat),i = n→listed[i]? = some false→Region.ready .any ops listed≠[]:=by
  intro n
  induction n using Nat.strongRecOn with
  | _ n ihn=>
    intro i j hi;subst j;obtain ⟨o,k⟩:=Y4 (xs:=ops) (i:=i) (by rw [← f];exact Zd hi);by_cases a : ∀ e∈o.after,Region.binds .any e = true→listed.getD e.on false = true
    · intro c;have : i∈Region.ready .any ops listed:=mem_ready.2 ⟨qaf.2 hi,o,k,a⟩;rw [c] at this;cases this
    · simp only [Classical.not_forall] at a;obtain ⟨e,l,hb,g⟩:=a;have h:=m.edges i o k e l hb;obtain ⟨b,d⟩:=Y4 (xs:=listed) (i:=e.on) (by have:=Zd hi;omega)
      cases b with
      | true=>exact absurd (qdh.2 d) g
      | false=>exact ihn e.on h e.on rfl d
theorem qfv {listed : Array Bool} {i : Nat} {o : Oper} (f : Adm ops (fun i=>listed[i]? = some true)) (k : ops[i]? = some o) (m : listed[i]? = some false) (b : ∀ e∈o.after,Region.binds .any e = true→listed[e.on]? = some true) :
    (∀ (j : Nat),(listed.setIfInBounds i true)[j]? = some true↔(j = i∨listed[j]? = some true))∧Adm ops (fun j=>(listed.setIfInBounds i true)[j]? = some true):=by
  have a : ∀ (j : Nat),(listed.setIfInBounds i true)[j]? = some true↔(j = i∨listed[j]? = some true):=by
    intro j;by_cases c : j = i
    · subst c;simp [Zd m]
    · rw [Array.getElem?_setIfInBounds_ne (Ne.symm c)];simp [c]
  refine ⟨a,?_⟩;intro j l g d e h hb;rw [a] at g ⊢;rcases g with rfl | g
  · rw [k] at d;cases d;exact .inr (b e h hb)
  · exact .inr (f j l g d e h hb)
theorem qpb {F : List Fp} {S : Nat→AS} {lo hi : Nat} (bf : lo≤hi) (aa : hi≤ops.size) (hD : q77 F ops) (hS : Steps P F ops S lo hi) (ba : ∀ (i j : Nat) (d : Oper),i < hi→hi≤j→ops[j]? = some d→Behind ops d i) (h0 : ∀ q,(S lo).nx≤q→find (S lo).hp q = none)
    {w0 : World} {Z0 : Nat→Prop} {inj0 : Inj} {hp0 : List (Nat × Blk)} {a0 : Act} {Ds0 : List Nat} {ro : Option Nat} {Q : Exit→Act→World→Prop} (bw : base≤(S lo).nx)
    (hd : ∀ (i : Nat) (o : Oper),ops[i]? = some o→J9 a0.tmps.size o.dst = true)
    (hQ : ∀ (fuel : Nat) (listed : Array Bool) (a' : Act) (w' : World),listed.size = ops.size→listed.toList.count false = fuel→Adm ops (fun i=>listed[i]? = some true)→(∀ (i : Nat),listed[i]? = some true↔i < hi)→
      (∃ Z inj Ds,RelS w' Z inj (S hi) a' Ds∧Ext w0 Z0 inj0 hp0 w' Z inj (S hi).hp base∧a'.tmps.size = a0.tmps.size∧base≤(S hi).nx∧(∀ D∈Ds,D∈Ds0∨w0.heap.size≤D))→Yb ro w'→wpAnyIn (Fw ro) 0 P .any ops Q fuel listed a' w') : ∀ (fuel : Nat) (listed : Array Bool) (a : Act) (w : World) (st : AS),
      listed.size = ops.size→listed.toList.count false = fuel→Adm ops (fun i=>listed[i]? = some true)→(∀ (i : Nat),i < lo→listed[i]? = some true)→(∀ (i : Nat),hi≤i→listed[i]?≠some true)→Keep ops S lo hi base w0 Z0 inj0 hp0 a0 Ds0 listed st a w→Yb ro w→Mid F ops S lo hi listed st→
      wpAnyIn (Fw ro) 0 P .any ops Q fuel listed a w:=by
  have fin : ∀ (fuel : Nat) (listed : Array Bool) (a : Act) (w : World) (st : AS),
      listed.size = ops.size→listed.toList.count false = fuel→Adm ops (fun i=>listed[i]? = some true)→(∀ (i : Nat),i < lo→listed[i]? = some true)→(∀ (i : Nat),hi≤i→listed[i]?≠some true)→Keep ops S lo hi base w0 Z0 inj0 hp0 a0 Ds0 listed st a w→Yb ro w→Mid F ops S lo hi listed st→
      (∀ (i : Nat),lo≤i→i < hi→listed[i]? = some true)→wpAnyIn (Fw ro) 0 P .any ops Q fuel listed a w:=by
    intro fuel listed a w st ad hc n y aj hp ag g ab
    have ak : ∀ (i : Nat),listed[i]? = some true↔i < hi:=fun i=>⟨fun h=>by
      rcases Nat.lt_or_ge i hi with z | z
      · exact z
      · exact absurd h (aj i z),fun h=>by
      rcases Nat.lt_or_ge i lo with z | z
      · exact y i z
      · exact ab i z h⟩
    refine hQ fuel listed a w ad hc n ak ?_ ag
    obtain ⟨Z,inj,Ds,z,h2,h3,h4,_⟩:=hp
    have bs : ∀ q,find (S hi).hp q = find st.hp q:=fun q=>(g.hp q hi bf (Nat.le_refl _) fun i o ho _=>ak i).symm
    refine ⟨Z,inj,Ds,⟨fun t v ht=>?_,?_,z.defs,z.nodup,z.marks⟩,qpp h2 bs,h3,Nat.le_trans bw (q1o aa hS (Nat.le_refl _) _ bf (Nat.le_refl _)),h4⟩
    · rw [← g.nx]
      refine z.slots t v ?_
      have:=g.sl t hi bf (Nat.le_refl _) fun i o ho _=>ak i
      exact this.trans ht
    · rw [← g.nx];exact qua z.heap bs
  intro fuel
  induction fuel with
  | zero=>
    intro listed a w st ad hc n y aj hp ag g;refine fin 0 listed a w st ad hc n y aj hp ag g fun i _ hi=>?_;have h:=List.count_eq_zero.1 hc;obtain ⟨b,hb⟩:=Y4 (xs:=listed) (i:=i) q0
    cases b with
    | true=>exact hb
    | false=>exact absurd (by simpa using Array.mem_of_getElem? hb) h
  | succ fuel ih=>
    intro listed a w st ad hc n y aj hp ag g;by_cases ab : ∀ (i : Nat),lo≤i→i < hi→listed[i]? = some true
    · exact fin _ listed a w st ad hc n y aj hp ag g ab
    have bh : ∃ k : Nat,(lo≤k∧k < hi)∧listed[k]? = some false:=by
      simp only [Classical.not_forall] at ab;obtain ⟨k,z,h2,h3⟩:=ab;obtain ⟨b,hb⟩:=Y4 (xs:=listed) (i:=k) q0
      cases b with
      | true=>exact absurd hb h3
      | false=>exact ⟨k,⟨z,h2⟩,hb⟩
    obtain ⟨k0,⟨dd,ck⟩,bm⟩:=bh;refine ⟨fun bo=>?_,fun i co=>?_⟩
    · exact absurd bo (qkd hD ad k0 k0 rfl bm)
    · obtain ⟨z,o,ho,bk⟩:=mem_ready.1 co;rw [qaf] at z;have am : ∀ e∈o.after,Region.binds .any e = true→(fun i=>listed[i]? = some true) e.on:=fun e he hb=>qdh.1 (bk e he hb);have ax : ∀ j,Behind ops o j→listed[j]? = some true:=fun j hb=>hb _ n am;have u : lo≤i:=Nat.le_of_not_lt fun h=>by have:=y i h;rw [z] at this;cases this
      have ay : i < hi:=Nat.lt_of_not_le fun h=>by
        have:=ax k0 (ba k0 i o ck h ho);rw [bm] at this;cases this
      have aw : ∀ (j : Nat) (d : Oper),ops[j]? = some d→Behind ops d i→listed[j]?≠some true:=by
        intro j d c hb hj;have:=hb (fun i=>listed[i]? = some true) n (fun e he cc=>n j d hj c e he cc);rw [z] at this;cases this
      obtain ⟨l,bj⟩:=qfv n ho z am;have bv : (listed.setIfInBounds i true).size = ops.size:=by simp [ad]
      have cd:=qh0 z hc;have dl : i < ops.size:=Zd ho;have az : listed[i]?≠some true:=by rw [z];simp
      have s : ∀ (j : Nat) (d : Oper),ops[j]? = some d→j≠i→(listed[j]? = some true↔j < i)∨(q76 (fpO F ops i) (fpO F ops j)∧(∀ t∈reads ops o,d.dst≠some t)∧∀ t,o.dst = some t→d.dst≠some t):=by
        intro j d c f;rcases Nat.lt_or_gt_of_ne f with h | h
        · rcases hD.pairs j i d o h c ho with hb | ⟨ha,h2,h3,h4⟩
          · exact .inl ⟨fun _=>h,fun _=>ax j hb⟩
          · exact .inr ⟨⟨fun m h5 h6=>ha.ww m h6 h5,ha.wr,ha.rw⟩,h3,fun t h5 h6=>h4 t h6 h5⟩
        · rcases hD.pairs i j o d h ho c with hb | ⟨ha,h2,h3,h4⟩
          · exact .inl ⟨fun p=>absurd p (aw j d c hb),fun p=>q0⟩
          · exact .inr ⟨ha,h2,h4⟩
      have ap : ∀ m∈(fpO F ops i).2,find st.hp m = find (S i).hp m:=fun m hm=>by
        refine g.hp m i u q0 fun j d c ac=>?_;by_cases f : j = i
        · subst f;exact ⟨fun p=>absurd p az,fun p=>absurd p (Nat.lt_irrefl _)⟩
        · rcases s j d c f with h | ⟨ha,_⟩
          · exact h
          · exact absurd ac (ha.ww m hm)
      have ci : Um ops o (fpO F ops i) (S i) st:=by
        refine ⟨⟨ap,?_⟩,fun t ht=>?_⟩
        · have key : ∀ m,(∀ (j : Nat) (d : Oper),ops[j]? = some d→j≠i→q76 (fpO F ops i) (fpO F ops j)→m ∉ (fpO F ops j).2)→find st.hp m = find (S i).hp m:=fun m hm=>by
            by_cases br : m∈(fpO F ops i).2
            · exact ap m br
            refine g.hp m i u q0 fun j d c ac=>?_;by_cases f : j = i
            · subst f;exact absurd ac br
            · rcases s j d c f with h | ⟨ha,_⟩
              · exact h
              · exact absurd ac (hm j d c f ha)
          cases hR : (fpO F ops i).1 with
          | none=>exact fun m=>key m fun j d _ _ ha ac=>by have:=ha.rw m ac;rw [hR] at this;exact this
          | some r=>exact fun m cj=>key m fun j d _ _ ha ac=>by have:=ha.rw m ac;rw [hR] at this;exact this cj
        · refine g.sl t i u q0 fun j d c af=>?_;by_cases f : j = i
          · subst f;exact ⟨fun p=>absurd p az,fun p=>absurd p (Nat.lt_irrefl _)⟩
          · rcases s j d c f with h | ⟨_,hr,_⟩
            · exact h
            · exact absurd af (hr t ht)
      have ae:=hS i o u ay ho;have bb : (S (i + 1)).nx≤st.nx:=by rw [g.nx];exact q1o aa hS q0 _ q0 (Nat.le_refl _)
      have be : ∀ m,(S i).nx≤m→m < (S (i + 1)).nx→find st.hp m = none:=fun m h2 h3=>by
        rw [ap m (ae.fresh m h2 h3)];exact qis aa hS h0 i u q0 m h2
      obtain ⟨cn,bz,bg,cr,cf,cp,cl⟩:=ae.other st bb ci be;refine qfa ho ?_;obtain ⟨Z,inj,Ds,k1,k2,k3,k4,k5⟩:=hp;have ch : base≤(S i).nx:=Nat.le_trans bw (q1o aa hS (Nat.le_refl _) _ u q0);refine bg base ro Q w Z inj a Ds _ k1 (by rw [k3];exact hd i o ho) ch (by have:=ae.nx;omega) ag (k5 i o u ay ho az) fun a' w' hp'=>?_;obtain ⟨Z',inj',cb,g1,g2,g3,g4,g5⟩:=hp';refine ih _ a' w' cn bv cd bj (fun j hj=>(l j).2 (.inr (y j hj))) (fun j hj p=>?_) ⟨Z',inj',cb,g1,k2.trans g2 (Nat.le_refl _),g3.trans k3,fun D hD=>?_,fun j d bc an c bl m h2 h3=>?_⟩ (ag.ext g2) ⟨bz.trans g.nx,fun t m bd hm x=>?_,fun q m bd hm x=>?_⟩
      · rcases (l j).1 p with rfl | p
        · omega
        · exact aj j hj p
      · rcases g4 D hD with h | h
        · exact k4 D h
        · exact .inr (Nat.le_trans k2.size h)
      · have f : j≠i:=by rintro rfl;exact bl ((l j).2 (.inl rfl))
        have bn : listed[j]?≠some true:=fun e=>bl ((l j).2 (.inr e))
        rw [g5 m (by
          have:=q1o aa hS (j:=j + 1) q0 hi q0 (Nat.le_refl _)
          have:=g.nx;omega) (by
          rcases Nat.lt_or_gt_of_ne f with h | h
          · left;have:=q1o aa hS (j:=j + 1) q0 i q0 q0;omega
          · right;have:=q1o aa hS (j:=i + 1) q0 j q0 q0;omega)]
        exact k5 j d bc an c bn m h2 h3
      · by_cases ao : o.dst = some t
        · have cg : i < m:=(x i o ho ao).1 ((l i).2 (.inl rfl));rw [cf t ao];refine (qch aa hS q0 m q0 hm fun j d bc an c af=>?_).symm;have p:=(l j).1 ((x j d c af).2 an);rcases p with p | p
          · omega
          · rcases s j d c q0 with h | ⟨_,_,hw⟩
            · have:=h.1 p;omega
            · exact hw t ao af
        · rw [cr t ao];refine g.sl t m bd hm fun j d c af=>?_;have f : j≠i:=by rintro rfl;rw [ho] at c;cases c;exact ao af
          rw [← x j d c af,l];simp [f]
      · by_cases hq : q∈(fpO F ops i).2
        · have cg : i < m:=(x i o ho hq).1 ((l i).2 (.inl rfl));rw [cp q hq];refine (qcg aa hS q0 m q0 hm fun j d bc an c aq=>?_).symm;have p:=(l j).1 ((x j d c aq).2 an);rcases p with p | p
          · omega
          · rcases s j d c q0 with h | ⟨ha,_⟩
            · have:=h.1 p;omega
            · exact ha.ww q hq aq
        · rw [cl q hq];refine g.hp q m bd hm fun j d c aq=>?_;have f : j≠i:=by rintro rfl;exact hq aq
          rw [← x j d c aq,l];simp [f]
theorem quc {w : World} {Z : Nat→Prop} {inj : Inj} {st : AS} {a : Act} {Ds : List Nat} {N : Nat} (h : RelS w Z inj st a Ds) (l : st.nx≤N) : RelS w Z (fun m=>if m < st.nx then inj m else none) {st with nx:=N} a Ds:=by
  have hi : ∀ n,n < st.nx→(fun m=>if m < st.nx then inj m else none) n = inj n:=fun n t=>by simp [t]
  have g : Zv w w:=fun _ c e f h=>⟨c,e,f,h,rfl⟩
  refine ⟨h.slots.mono (fun _ _=>rfl) (fun _ h=>h) g hi l,⟨fun n b hb=>?_,fun n m b c p q d j k v r o=>?_,fun n b p d j k=>?_,h.heap.zs,h.heap.zc⟩,h.defs,h.nodup,h.marks⟩
  · obtain ⟨s,u⟩:=h.heap.blk n b hb;exact ⟨Nat.lt_of_lt_of_le s l,u.mono (fun _ _=>rfl) (fun _ h=>h) g hi l s (fun _ _ _=>rfl)⟩
  · rw [ql (h.heap.blk n b d).1] at r;rw [ql (h.heap.blk m c j).1] at o;exact h.heap.sep n m b c p q d j k v r o
  · rw [ql (h.heap.blk n b d).1] at k;exact h.heap.out n b p d j k
theorem qom {w0 : World} {Z0 : Nat→Prop} {inj0 : Inj} {c : AS} {g : Act} {Ds0 : List Nat} {l : List Oper} {st st' : AS} (h : Zk P base ops l st st') : l = []→∀ a w,Kr base w0 Z0 inj0 c g Ds0 st a w→Kr base w0 Z0 inj0 c g Ds0 st' a w:=by
  induction h with
  | nil=>exact fun _ a w hp=>hp
  | cons _ _ _=>intro h;cases h
  | wk hw _ ih=>
    intro n a w hp;refine ih n a w ?_;obtain ⟨Z',inj',f,k,j,m,p,o⟩:=hp;obtain ⟨d,b⟩:=q26 k hw;exact ⟨_,_,f,d,j.trans b (Nat.le_refl _),m,hw.bs,o⟩
theorem qol {w0 : World} {Z0 : Nat→Prop} {inj0 : Inj} {m : AS} {p : Act} {Ds0 : List Nat} {ro : Option Nat} {Q : Exit→Act→World→Prop} {K : Act→World→Prop} {l : List Oper} {st st' : AS} (h : Zk P base ops l st st') : ∀ o,l = [o]→J9 p.tmps.size o.dst = true→∀ a w,Kr base w0 Z0 inj0 m p Ds0 st a w→Yb ro w→
    (∀ a' w',Kr base w0 Z0 inj0 m p Ds0 st' a' w'→Yb ro w'→K a' w')→Ul P (Fw ro) ops Q o K a w:=by
  induction h with
  | nil=>intro o h;cases h
  | cons hs hl _=>
    intro o h hd a w hp c n;simp only [List.cons.injEq] at h;obtain ⟨rfl,rfl⟩:=h;refine hp.bind fun Z' inj' f b g d _ j=>?_;exact hs ro Q w Z' inj' a f _ b (by rw [g];exact hd) d c fun a' w' hp'=>n a' w' (qom hl rfl _ _ (j _ _ _ hp')) (by obtain ⟨_,_,_,_,u,_⟩:=hp';exact c.ext u)
  | wk hw _ ih=>
    intro o h hd a w hp c n;refine ih o h hd a w ?_ c n;obtain ⟨Z',inj',f,q,t,r,v,s⟩:=hp;obtain ⟨b,k⟩:=q26 q hw;exact ⟨_,_,f,b,t.trans k (Nat.le_refl _),r,hw.bs,s⟩
theorem qnm {o p : Oper} {i j : Nat} (d : Behind ops o i) (hp : ops[i]? = some p) (c : Behind ops p j) : Behind ops o j:=fun S a f=>c S a fun e b hb=>a i p (d S a f) hp e b hb
theorem qpa {F : List Fp} (hD : q77 F ops) {w0 : World} {Z0 : Nat→Prop} {inj0 : Inj} {ab : AS} {a0 : Act} {Ds0 : List Nat} {ro : Option Nat} {Q : Exit→Act→World→Prop} (hd : ∀ (i : Nat) (o : Oper),ops[i]? = some o→J9 a0.tmps.size o.dst = true) :
    ∀ (n : Nat) (l : List Oper) (lo : Nat) (st st' : AS),l.length = n→ops.toList.drop lo = l→lo≤ops.size→Jp P base ops F l st st'→(∀ a' w',Kr base w0 Z0 inj0 ab a0 Ds0 st' a' w'→Q .normal a' w')→∀ (fuel : Nat) (listed : Array Bool) (a : Act) (w : World),
      listed.size = ops.size→listed.toList.count false = fuel→Adm ops (fun i=>listed[i]? = some true)→(∀ (i : Nat),listed[i]? = some true↔i < lo)→Kr base w0 Z0 inj0 ab a0 Ds0 st a w→Yb ro w→wpAnyIn (Fw ro) 0 P .any ops Q fuel listed a w:=by
  intro n
  induction n using Nat.strongRecOn with
  | _ n ihn=>
  intro l lo st st' cc al cl hc hQ fuel listed a w bj br bb ah hp bn;obtain ⟨k,S,hk,e0,hS,ak⟩:=qgg hc;have bv : l.length + lo = ops.size:=by rw [← al];simp;omega
  have ad : ∀ (i : Nat),l[i]? = ops[lo + i]?:=fun i=>by rw [← al,List.getElem?_drop,Array.getElem?_toList]
  subst e0
  have y : Steps P F ops (fun i=>S (i - lo)) lo (lo + k):=fun i o u h2 ho=>by
    have:=hS (i - lo) o q0 (by rw [ad,show lo + (i - lo) = i by omega];exact ho);rw [show l.length - (i - lo + 1) = ops.size - (i + 1) by omega] at this;show Js P ops o (fpO F ops i) (S (i - lo)) (S (i + 1 - lo));rw [show i + 1 - lo = i - lo + 1 by omega];exact this
  have am : ∀ (i j : Nat) (oj : Oper),i < lo + k→lo + k≤j→ops[j]? = some oj→Behind ops oj i:=fun i j oj hi hj ag=>by
    rcases ak with ⟨u,_⟩ | ⟨o,st1,u,h2,_,_⟩
    · have:=Zd ag;omega
    · rw [ad] at u;rw [show l.length - (k + 1) = ops.size - (lo + k + 1) by omega] at h2;have bp : i < ops.size:=by have:=Zd u;omega
      obtain ⟨oi,z⟩:=Y4 (xs:=ops) (i:=i) bp;have hb:=hD.pivs i (lo + k) oi o hi z u (.inr h2);by_cases bm : j = lo + k
      · subst bm;rw [u] at ag;cases ag;exact hb
      · exact qnm (hD.pivs (lo + k) j o oj q0 u ag (.inl h2)) u hb
  obtain ⟨Z,inj,Ds,u,h2,h3,h4,h5⟩:=hp
  have hN : (S 0).nx≤(S k).nx:=by
    have:=q1o q0 y (Nat.le_refl _) (lo + k) q0 (Nat.le_refl _);simpa using this
  have h0 : ∀ q,(S 0).nx≤q→find (S 0).hp q = none:=fun q hq=>by
    cases hf : find (S 0).hp q with
    | none=>rfl
    | some b=>have:=(u.heap.blk q b hf).1;omega
  have az : Ext w0 Z0 inj0 ab.hp w Z (fun m=>if m < (S 0).nx then inj m else none) (S 0).hp base:=by
    refine {h2 with imm:=fun b bl=>h2.imm b ?_,pinj:=fun n hn=>(ql (show n < (S 0).nx by omega)).trans (h2.pinj n hn)};obtain ⟨n,c,o,s,g2,g3⟩:=bl;refine ⟨n,c,o,s,g2,?_⟩;have:=(u.heap.blk n c s).1;simpa [this] using g3
  have ap : ∀ (i : Nat),lo≤i→listed[i]?≠some true:=fun i hi h=>by have:=(ah i).1 h;omega
  refine qpb (lo:=lo) (hi:=lo + k) (S:=fun i=>S (i - lo)) (hp0:=ab.hp) (Ds0:=Ds0) q0 q0 hD y am (by simpa using h0) (by simpa using h4) hd ?_ fuel listed a w {S 0 with nx:=(S k).nx} bj br bb (fun i hi=>(ah i).2 hi) (fun i hi=>ap i q0) ⟨Z,_,Ds,quc u hN,az,h3,h5,fun i o v aq ho _ m g2 g3=>?_⟩ bn ⟨qc,fun t m an hm aa=>?_,fun q m an hm aa=>?_⟩
  · intro r d a' w' ae x af f hp' aw
    have hp' : Kr base w0 Z0 inj0 ab a0 Ds0 (S k) a' w':=by
      obtain ⟨Z',inj',bi,s,g2,g3,g4,g5⟩:=hp';simp only [Nat.add_sub_cancel_left] at s g2 g4;exact ⟨Z',inj',bi,s,g2,g3,g4,g5⟩
    rcases ak with ⟨e1,e2⟩ | ⟨o,st1,e1,e2,e3,e4⟩
    ·
      subst e2
      have hz : r = 0:=by
        rw [← x,List.count_eq_zero];intro hm;obtain ⟨i,hi⟩:=List.getElem?_of_mem hm;have aq : d[i]? = some false:=by simpa using hi
        have:=(f i).2 (by have:=Zd aq;omega);rw [aq] at this;cases this
      subst hz;refine ⟨?_,hQ _ _ hp'⟩;rw [List.eq_nil_iff_forall_not_mem];intro j hj;obtain ⟨s,o,ho,_⟩:=mem_ready.1 hj;rw [qaf,(f j).2 (by have:=Zd ho;omega)] at s;cases s
    ·
      have p : ops[lo + k]? = some o:=by rw [← ad];exact e1
      rw [show l.length - (k + 1) = ops.size - (lo + k + 1) by omega] at e2
      have g : d[lo + k]? = some false:=by
        obtain ⟨b,hb⟩:=Y4 (xs:=d) (i:=lo + k) (by rw [ae];exact Zd p)
        cases b with
        | true=>have:=(f _).1 hb;omega
        | false=>exact hb
      cases r with
      | zero=>
        have:=List.count_eq_zero.1 x;exact absurd (by simpa using Array.mem_of_getElem? g) this
      | succ r=>
        refine ⟨fun ax=>absurd ax (qkd hD ae _ _ rfl g),fun i hi=>?_⟩;obtain ⟨s,oi,z,ay⟩:=mem_ready.1 hi;rw [qaf] at s;have ac : ∀ e∈oi.after,Region.binds .any e = true→d[e.on]? = some true:=fun e he hb=>qdh.1 (ay e he hb)
        have bq : i = lo + k:=by
          rcases Nat.lt_trichotomy i (lo + k) with h | h | h
          · have:=(f i).2 h;rw [s] at this;cases this
          · exact h
          · have:=hD.pivs (lo + k) i o oi h p z (.inl e2) _ af ac;rw [g] at this;cases this
        subst bq;rw [p] at z;cases z;obtain ⟨au,ao⟩:=qfv af p s ac;refine qfa p ?_;refine qol e3 o rfl (hd _ _ p) a' w' hp' aw fun a2 w2 hp2 bc=>?_;refine ihn (l.drop (k + 1)).length (by have:=Zd p;simp;omega) _ (lo + k + 1) st1 st' rfl (by rw [← al,List.drop_drop,Nat.add_assoc]) (Zd p) e4 hQ _ _ a2 w2 (by simp [ae]) (qh0 s x) ao (fun j=>?_) hp2 bc;rw [au,f];omega
  · have this : (S 0).nx≤(S (i - lo)).nx:=by simpa using q1o q0 y (Nat.le_refl lo) i v q0
    have ce : (S (i - lo)).nx≤m:=g2;exact qn q0
  · have:=qch q0 y (t:=t) (Nat.le_refl lo) m an hm fun i o v hi ho bk=>ap i v ((aa i o ho bk).2 hi);simp at this ⊢;exact this.symm
  · have:=qcg q0 y (q:=q) (Nat.le_refl lo) m an hm fun i o v hi ho bo=>ap i v ((aa i o ho bo).2 hi);simp at this ⊢;exact this.symm
theorem qu7 {F : List Fp} {id : Nat} {w : World} {Z : Nat→Prop} {inj : Inj} {st st' : AS} {a : Act} {Ds : List Nat} {ro : Option Nat} {Q : Exit→Act→World→Prop} (p : P.follows .mixedOrders = true) (r : q77 F ops) (t : Jp P base ops F ops.toList st st')
    (h : RelS w Z inj st a Ds) (k : codeOk a.tmps.size (.region id ops true) = true) (hb : base≤st.nx) (m : Yb ro w) (n : ∀ a' w',Kr base w Z inj st a Ds st' a' w'→Q .normal a' w') : (Code.region id ops true).wpIn (Fw ro) 0 P Q a w:=by
  refine wpIn_region_any p ?_;have hs : RelS {w with drawn:=w.drawn + 1} Z inj st a Ds:=⟨h.slots.mono (fun _ _=>rfl) (fun _ h=>h) (fun b c e f hb=>⟨c,e,f,hb,rfl⟩) (fun _ _=>rfl) (Nat.le_refl _),h.heap.same rfl,h.defs,h.nodup,h.marks⟩
  have g : ∀ (i : Nat) (o : Oper),ops[i]? = some o→J9 a.tmps.size o.dst = true:=by
    intro i o s;simp only [codeOk,List.all_eq_true] at k;exact k o (by simpa using Array.mem_of_getElem? s)
  have d : ∀ (i : Nat),(Array.replicate ops.size false)[i]?≠some true:=by
    intro i hi;rw [Array.getElem?_replicate] at hi;split at hi <;> simp at hi
  exact qpa r g ops.toList.length ops.toList 0 st st' rfl qc (Nat.zero_le _) t n ops.size _ a _ qc qc (fun j o u _=>absurd u (d j)) (fun i=>⟨fun hi=>absurd hi (d i),fun hi=>q0⟩) ⟨Z,inj,Ds,hs,.same rfl rfl rfl rfl,rfl,hb,fun _ h=>.inl h⟩ (fun l q=>m l q)
end
end Go.Am
namespace Go.Am
open Go
variable {P : Program} {T : Tab}
section
variable {w w' : World} {Z Z' : Nat→Prop} {inj inj' : Inj} {hp hp' : List (Nat × Blk)} {nx nx' pin : Nat}
theorem RelH.grow (h : RelH w Z inj hp nx) (d : ∀ b,b < w.heap.size→w'.heap[b]? = w.heap[b]?) : RelH w' Z inj hp nx:=by
  have hb : Zv w w':=fun b c e f l=>⟨c,e,f,(d b (J5 l)).trans l,rfl⟩
  refine ⟨fun n b j=>?_,h.sep,h.out,?_,?_⟩
  · obtain ⟨k,m⟩:=h.blk n b j;exact ⟨k,m.mono (fun b a=>d b (h.zs b a)) (fun _ h=>h) hb (fun _ _=>rfl) (Nat.le_refl _) k fun p hp o=>d _ (h.im_lt ⟨n,b,p.2,j,o,hp⟩)⟩
  · intro b a;obtain ⟨c,e,f,g⟩:=h.zc b a;have:=d b (h.zs b a);exact J5 (this.trans g)
  · intro b a;obtain ⟨c,e,f,g⟩:=h.zc b a;exact ⟨c,e,f,(d b (h.zs b a)).trans g⟩
theorem Ext.alloc (o : Obj) (a : Unfr o:=by first | exact rfl | exact trivial) : Ext w Z inj hp (w.alloc o) Z inj hp pin:=
  ⟨qc,fun b hb _=>Zx w o hb,fun _ h=>.inl h,q2s w o,qip w o,fun _ h=>h,fun _ h=>.inl h,fun _ _=>rfl,rfl,rfl,rfl,qi4 w a⟩
theorem qkn (h : RelH w Z inj hp nx) {n : Nat} {b0 blk : Blk} (s : find hp n = some b0) (hl : live b0 = true) {b off : Nat} (hi : inj n = some (b,off)) {r u : Loop} (hb : w.heap[b]? = some (.loop r)) (hd : u.defers = r.defers)
    (ah : RelB (w.putObj b (.loop u)) Z inj nx n blk) (ac : live blk = true→True) : RelH (w.putObj b (.loop u)) Z inj (repl hp n blk) nx∧Ext w Z inj hp (w.putObj b (.loop u)) Z inj (repl hp n blk) pin:=by
  have a : ∀ k,k≠b→(w.putObj b (.loop u)).heap[k]? = w.heap[k]?:=fun k g=>World.putObj_heap_other g
  have al : ¬ Z b:=fun hz=>by
    obtain ⟨c,e,f,hc⟩:=h.zc b hz;rw [hb] at hc;cases hc
  have j : Zv w (w.putObj b (.loop u)):=fun k c e f g=>by
    by_cases j : k = b
    · subst j;rw [hb] at g;cases g
    · exact ⟨c,e,f,(a k j).trans g,rfl⟩
  have hz : ∀ k,Z k→(w.putObj b (.loop u)).heap[k]? = w.heap[k]?:=fun k g=>a k (fun e=>al (e ▸ g))
  have d : ∀ m c,find (repl hp n blk) m = some c→(m = n∧c = blk)∨(m≠n∧find hp m = some c):=by
    intro m c t;rw [Yy] at t;split at t
    · rename_i e;subst e;rw [s] at t;simp at t;exact .inl ⟨rfl,t.symm⟩
    · rename_i e;exact .inr ⟨fun h=>e h.symm,t⟩
  have af : ∀ k,im (repl hp n blk) inj k→im hp inj k:=by
    rintro k ⟨m,c,o,h1,h2,v⟩;rcases d m c h1 with ⟨rfl,rfl⟩ | ⟨_,y⟩
    · exact ⟨m,b0,o,s,hl,v⟩
    · exact ⟨m,c,o,y,h2,v⟩
  refine ⟨⟨?_,?_,?_,?_,?_⟩,⟨qc,?_,fun k g=>.inl (af k g),j,?_,fun _ h=>h,fun _ h=>.inl h,fun _ _=>rfl,rfl,rfl,rfl,qdg (fun _ _ _=>by rw [hb];simp) (fun _ _ _=>qc)⟩⟩
  · intro m c t;rcases d m c t with ⟨rfl,rfl⟩ | ⟨l,y⟩
    · exact ⟨(h.blk _ _ s).1,ah⟩
    · obtain ⟨z,h6⟩:=h.blk m c y;exact ⟨z,h6.mono hz (fun _ h=>h) j (fun _ _=>rfl) (Nat.le_refl _) z fun p hp ac=>a _ fun e=>h.sep m n c b0 p (b,off) y s ac hl hp hi l e⟩
  · intro m m' c c' p q h1 h2 v y z h6 l;rcases d m c h1 with ⟨rfl,rfl⟩ | ⟨e1,k1⟩ <;> rcases d m' c' h2 with ⟨rfl,rfl⟩ | ⟨e2,k2⟩
    · exact absurd rfl l
    · exact h.sep _ _ _ _ p q s k2 hl y z h6 l
    · exact h.sep _ _ _ _ p q k1 s v hl z h6 l
    · exact h.sep _ _ _ _ p q k1 k2 v y z h6 l
  · intro m c p h1 h2 v;rcases d m c h1 with ⟨rfl,rfl⟩ | ⟨e1,k1⟩
    · exact h.out _ _ p s hl v
    · exact h.out _ _ p k1 h2 v
  · intro k g;simpa using h.zs k g
  · intro k g;obtain ⟨c,e,f,hc⟩:=h.zc k g;exact ⟨c,e,f,(hz k g).trans hc⟩
  · intro k _ g;exact a k fun e=>g ⟨n,b0,off,s,hl,e ▸ hi⟩
  · intro k x g;by_cases j : k = b
    · subst j;rw [hb] at g;cases g;exact ⟨u,World.putObj_heap_same (J5 hb),hd⟩
    · exact ⟨x,(a k j).trans g,rfl⟩
theorem qes (h : RelH w Z inj hp nx) {n : Nat} {s : List (Nat × V)} {j : List Tmp} {as l : Code} {t ls' : LoopState} {pe pe' : Option Code} (q : find hp n = some (.loop s j as l t pe)) : ∃ b r,inj n = some (b,0)∧w.heap[b]? = some (.loop r)∧
    r.state = t∧r.pending = pe∧r.params = j.toArray∧r.assign = as∧r.body = l∧(codeOk r.tmps.size as = true∧codeOk r.tmps.size l = true∧∀ p∈j,p < r.tmps.size)∧Yo w Z inj nx s r.tmps∧
    RelH (w.putObj b (.loop {r with state:=ls',pending:=pe'})) Z inj (repl hp n (.loop s j as l ls' pe')) nx∧Ext w Z inj hp (w.putObj b (.loop {r with state:=ls',pending:=pe'})) Z inj (repl hp n (.loop s j as l ls' pe')) pin:=by
  obtain ⟨z,b,tmps,D,fn,m,a,x,v⟩:=h.blk n _ q;refine ⟨b,_,m,a,rfl,rfl,rfl,rfl,rfl,x,v,?_⟩;refine qkn h q rfl m a rfl ?_ (fun _=>trivial);refine ⟨b,tmps,D,fn,m,World.putObj_heap_same (J5 a),x,?_⟩
  have o : ¬ Z b:=fun y=>by
    obtain ⟨c,e,f,u⟩:=h.zc b y;rw [a] at u;cases u
  refine v.mono (fun k d=>World.putObj_heap_other (fun e=>o (e ▸ d))) (fun _ h=>h) ?_ (fun _ _=>rfl) (Nat.le_refl _);intro k c e f d;by_cases g : k = b
  · subst g;rw [a] at d;cases d
  · exact ⟨c,e,f,(World.putObj_heap_other g).trans d,rfl⟩
theorem qub (h : RelH w Z inj hp nx) {n : Nat} {s : List (Nat × V)} {k : List Tmp} {as m : Code} {g : LoopState} {pe : Option Code} (d : find hp n = some (.loop s k as m g pe)) : ∃ b r,inj n = some (b,0)∧w.heap[b]? = some (.loop r)∧
    r.state = g∧r.pending = pe∧∀ a : Loop,a.defers = r.defers→RelH (w.putObj b (.loop a)) Z inj (repl hp n .dead) nx∧Ext w Z inj hp (w.putObj b (.loop a)) Z inj (repl hp n .dead) pin:=by
  obtain ⟨j,b,tmps,D,fn,f,c,p,o⟩:=h.blk n _ d;exact ⟨b,_,f,c,rfl,rfl,fun a l=>qkn h d rfl f c l trivial (fun _=>trivial)⟩
theorem qhp : ∀ (b : List V) (k t : Nat) (v : V),find (Ky k b) t = some v→k≤t∧b[t - k]? = some v
  | [],k,t,v,h=>by simp [Ky,find] at h
  | x::r,k,t,v,h=>by
    simp only [Ky,Ks] at h
    split at h
    · rename_i e;subst e;cases h;simp
    · rename_i e
      obtain ⟨d,a⟩:=qhp r (k + 1) t v h
      refine ⟨q0,?_⟩
      obtain ⟨m,c⟩ : ∃ m,t - k = m + 1:=⟨t - k - 1,q0⟩
      have : t - (k + 1) = m:=by omega
      rw [this] at a
      rw [c];simpa using a
theorem que {c : List V} {xs : Array Value} (n : Nat) (h : LRel w Z inj nx c xs) : Yo w Z inj nx (Ky 0 c) (xs ++ Array.replicate (n - xs.size) undef):=by
  intro t v f;obtain ⟨_,b⟩:=qhp c 0 t v f;simp at b;have a : t < xs.size:=by rw [← h.1];exact Kc b
  obtain ⟨x,d⟩:=Y4 a;exact ⟨x,by rw [Array.getElem?_append_left a];exact d,h.2 t v x b d⟩
theorem qkp : ∀ (f : List Tmp) (g : List V) (xs : List Value) (s : List (Nat × V)) (tmps : Array Value),g.length = xs.length→(∀ (i : Nat) (d : V) (c : Value),g[i]? = some d→xs[i]? = some c→RelV w Z inj nx d c)→(∀ p∈f,p < tmps.size)→
    Yo w Z inj nx s tmps→Yo w Z inj nx (q1t s f g) ((f.zip xs).foldl (fun tmps (x : Tmp × Value)=>tmps.setIfInBounds x.1 x.2) tmps)∧((f.zip xs).foldl (fun tmps (x : Tmp × Value)=>tmps.setIfInBounds x.1 x.2) tmps).size = tmps.size
  | [],g,xs,s,tmps,hl,hr,hp,h=>by simpa [q1t] using h
  | p::f,[],[],s,tmps,hl,hr,hp,h=>by simpa [q1t] using h
  | p::f,v::g,x::xs,s,tmps,hl,hr,hp,h=>by
    have l:=hr 0 v x rfl rfl
    have k:=h.put l (hp p qc)
    obtain ⟨a,b⟩:=qkp f g xs _ _ (by simpa using hl) (fun i d c hd m=>hr (i + 1) d c (by simpa using hd) (by simpa using m)) (fun q j=>by simpa using hp q (by simp [j])) k
    refine ⟨by simpa [q1t] using a,by simpa using b⟩
  | p::f,[],x::xs,s,tmps,hl,hr,hp,h=>by simp at hl
  | p::f,v::g,[],s,tmps,hl,hr,hp,h=>by simp at hl
theorem qit {fn : Func} {st : AS} {v : V} (hT : Yw P T) {w0 : World} {Z0 : Nat→Prop} {inj0 : Inj} {hp0 : List (Nat × Blk)} {R : Ending→World→Prop} (l : resV T st fn.results.toList = some v)
    (hR : ∀ x w' Z' inj',RelH w' Z' inj' st.hp st.nx→Ext w0 Z0 inj0 hp0 w' Z' inj' st.hp pin→RelV w' Z' inj' st.nx v x→R (.returned x) w') : ∀ (Ds : List Nat) (w : World) (Z : Nat→Prop) (inj : Inj) (a : Act),
      Yo w Z inj st.nx st.sl a.tmps→RelH w Z inj st.hp st.nx→Ext w0 Z0 inj0 hp0 w Z inj st.hp pin→Ds.Nodup→(∀ D∈Ds,w.heap[D]? = some (.deferred (some []))∧w0.heap.size≤D)→
      LeavesInM (Fw none) 0 P fn a.tmps R (Ds.map fun D=>{target:=.collected D,args:=#[]}) .returning w
  | [],w,Z,inj,a,hs,hh,he,_,_=>by
    obtain ⟨x,hx,hv⟩:=qui (a:=a) hT hh hs l
    exact ⟨x,hx,hR x w Z inj hh he hv⟩
  | D::Ds,w,Z,inj,a,hs,hh,he,hnd,hm=>by
    obtain ⟨s,am⟩:=hm D qc
    have m:=List.nodup_cons.1 hnd
    refine ⟨qc,.inl ⟨D,_,rfl,run_takeDeferred s,?_⟩⟩
    have d : ∀ k,k≠D→(w.putObj D (.deferred none)).heap[k]? = w.heap[k]?:=fun k g=>World.putObj_heap_other g
    have ac : ¬ Z D:=fun q=>by obtain ⟨c,e,f,hc⟩:=hh.zc D q;rw [s] at hc;cases hc
    have u : ¬ im st.hp inj D:=fun hi=>by rcases hh.im_obj hi with ⟨_,_,e⟩ | ⟨_,e⟩ | ⟨_,_,e⟩ <;> rw [s] at e <;> cases e
    have q : ∀ k,Z k→(w.putObj D (.deferred none)).heap[k]? = w.heap[k]?:=fun k g=>d k fun e=>ac (e ▸ g)
    have o : Zv w (w.putObj D (.deferred none)):=fun k c e f g=>by
      by_cases y : k = D
      · subst y;rw [s] at g;cases g
      · exact ⟨c,e,f,(d k y).trans g,rfl⟩
    refine qit hT l hR Ds _ Z inj a (hs.mono q (fun _ h=>h) o (fun _ _=>rfl) (Nat.le_refl _)) ⟨?_,hh.sep,hh.out,fun k g=>by simpa using hh.zs k g,?_⟩ ?_ m.2 ?_
    · intro n b hn
      obtain ⟨j,t⟩:=hh.blk n b hn
      exact ⟨j,t.mono q (fun _ h=>h) o (fun _ _=>rfl) (Nat.le_refl _) j fun p hp hl=>d _ fun e=>u ⟨n,b,p.2,hn,hl,by rw [← e];exact hp⟩⟩
    · intro k g
      obtain ⟨c,e,f,hc⟩:=hh.zc k g
      exact ⟨c,e,f,(q k g).trans hc⟩
    · refine ⟨by simpa using he.size,fun b hb hi=>(d b q0).trans (he.keep b hb hi),he.imm,?_,?_,he.zin,he.zout,he.pinj,he.tape,he.os,he.output,fun x=>(qdg (fun _ _ _=>by rw [s];simp) (fun _ _ _=>qc) x).trans (he.frz x)⟩
      · intro b c e f hb
        obtain ⟨c1,e1,f1,j,s1⟩:=he.big b c e f hb
        obtain ⟨c2,e2,f2,t,s2⟩:=o b c1 e1 f1 j
        exact ⟨c2,e2,f2,t,s2.trans s1⟩
      · intro b r hb
        obtain ⟨r1,j,s1⟩:=he.loops b r hb
        exact ⟨r1,(d b (by have:=J5 hb;omega)).trans j,s1⟩
    · intro D' z
      obtain ⟨j,t⟩:=hm D' (by simp [z])
      exact ⟨(d D' (fun e=>m.1 (e ▸ z))).trans j,t⟩
end
end Go.Am
