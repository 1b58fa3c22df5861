/- Qa1 Qa2 Qa3 Rs1 Rh2 Rs2 Rs3 Qb1 -/
import Derived.Test.YtmekakoiicomaaaGreatK11
namespace Go.Sh
open Go Go.Am
structure Grp (σ : Type) where
  lo : Int
  hi : Int
  sec : List σ
section
variable {σ β : Type}
def CanG (gs : List (Grp σ)) : Prop:=(∀ g∈gs,g.lo < g.hi∧g.sec≠[])∧gs.Pairwise (fun g h=>g.hi≤h.lo∧(g.hi = h.lo→g.sec≠h.sec))
def secG : List (Grp σ)→Int→List σ
  | [],_=>[]
  | g::r,x=>if g.lo≤x∧x < g.hi then g.sec else secG r x
def K7 (put : Int→Int→σ→β) (gs : List (Grp σ)) : List β:=gs.flatMap fun g=>g.sec.map (put g.lo g.hi)
theorem q6i (put : Int→Int→σ→β) (a b : List (Grp σ)) : K7 put (a ++ b) = K7 put a ++ K7 put b:=by simp [K7]
theorem q2x {y x : Int} : ∀ {r : List (Grp σ)},(∀ h∈r,y≤h.lo)→x < y→secG r x = []
  | [],_,_=>rfl
  | g::r,h,hx=>by
    have:=h g qg
    rw [secG,Q2 q6]
    exact q2x (fun k a=>h k (by simp [a])) hx
theorem q3p {y x : Int} : ∀ {r : List (Grp σ)},(∀ h∈r,h.hi≤y)→y≤x→secG r x = []
  | [],_,_=>rfl
  | g::r,h,hx=>by
    have:=h g qg
    rw [secG,Q2 q6]
    exact q3p (fun k a=>h k (by simp [a])) hx
theorem qau {x : Int} : ∀ {a b : List (Grp σ)},secG a x = []→(∀ g∈a,g.sec≠[])→secG (a ++ b) x = secG b x
  | [],_,_,_=>rfl
  | g::a,b,h,hne=>by
    rw [secG] at h
    split at h
    · exact absurd h (hne g qg)
    · rename_i d
      rw [List.cons_append,secG,Q2 d]
      exact qau h fun k c=>hne k (by simp [c])
theorem qia {y x : Int} {a b : List (Grp σ)} (hb : ∀ h∈b,y≤h.lo) (c : x < y) : secG (a ++ b) x = secG a x:=by
  induction a with
  | nil=>exact q2x hb c
  | cons g a ih=>simp only [List.cons_append,secG,ih]
theorem CanG.tail {g : Grp σ} {r : List (Grp σ)} (h : CanG (g::r)) : CanG r:=⟨fun k a=>h.1 k (by simp [a]),(List.pairwise_cons.1 h.2).2⟩
theorem CanG.nxt {g : Grp σ} {r : List (Grp σ)} (h : CanG (g::r)) : ∀ k∈r,g.hi≤k.lo∧(g.hi = k.lo→g.sec≠k.sec):=(List.pairwise_cons.1 h.2).1
theorem q3o {g : Grp σ} {r : List (Grp σ)} {x : Int} (a : g.lo≤x) (b : x < g.hi) : secG (g::r) x = g.sec:=by rw [secG,Q1 ⟨a,b⟩]
theorem q11o {g : Grp σ} {r : List (Grp σ)} (h : CanG (g::r)) : secG (g::r) g.hi≠g.sec:=by
  rw [secG,Q2 q6]
  cases r with
  | nil=>exact fun e=>(h.1 g qg).2 e.symm
  | cons k r=>
    have b:=h.nxt k qg;have c:=h.tail.1 k qg;by_cases d : g.hi = k.lo
    · rw [q3o q6 q6];exact fun e=>b.2 d e.symm
    · rw [secG,Q2 q6,q2x (y:=k.hi) (fun m a=>(h.tail.nxt m a).1) q6];exact fun e=>(h.1 g qg).2 e.symm
theorem qg2 : ∀ {a b : List (Grp σ)},CanG a→CanG b→(∀ x,secG a x = secG b x)→a = b
  | [],[],_,_,_=>rfl
  | [],g::r,_,hb,h=>by
    have:=h g.lo
    rw [q3o (Int.le_refl _) (hb.1 g qg).1] at this
    exact absurd this.symm (hb.1 g qg).2
  | g::r,[],c,_,h=>by
    have:=h g.lo
    rw [q3o (Int.le_refl _) (c.1 g qg).1] at this
    exact absurd this (c.1 g qg).2
  | g::r,k::s,c,hb,h=>by
    have q:=c.1 g qg
    have t:=hb.1 k qg
    have low : ∀ {g k : Grp σ} {r s : List (Grp σ)},CanG (g::r)→CanG (k::s)→(∀ x,secG (g::r) x = secG (k::s) x)→k.lo≤g.lo:=by
      intro g k r s c hb h;refine Int.not_lt.1 fun f=>?_;have d:=h g.lo;rw [q3o (Int.le_refl _) (c.1 g qg).1,q2x (y:=k.lo) (fun m j=>?_) f] at d
      · exact (c.1 g qg).2 d
      · rcases List.mem_cons.1 j with rfl | j
        · exact Int.le_refl _
        · have:=(hb.nxt m j).1;have:=(hb.1 k qg).1;omega
    have n : g.lo = k.lo:=Int.le_antisymm (low hb c fun x=>(h x).symm) (low c hb h)
    have l : g.sec = k.sec:=by
      have d:=h g.lo
      rwa [q3o (Int.le_refl _) q.1,q3o q6 q6] at d
    have hi : ∀ {g k : Grp σ} {r s : List (Grp σ)},CanG (g::r)→CanG (k::s)→(∀ x,secG (g::r) x = secG (k::s) x)→g.lo = k.lo→g.sec = k.sec→k.hi≤g.hi:=by
      intro g k r s c hb h n l;refine Int.not_lt.1 fun f=>?_;have d:=h g.hi;have:=(c.1 g qg).1;rw [q3o (g:=k) q6 f,← l] at d;exact q11o c d
    have p : g.hi = k.hi:=Int.le_antisymm (hi hb c (fun x=>(h x).symm) n.symm l.symm) (hi c hb h n l)
    have e : g = k:=by cases g;cases k;simp at n l p;simp [n,l,p]
    subst e
    have : r = s:=qg2 c.tail hb.tail fun x=>by
      by_cases o : x < g.hi
      · rw [q2x (y:=g.hi) (fun m j=>(c.nxt m j).1) o,q2x (y:=g.hi) (fun m j=>(hb.nxt m j).1) o]
      · have d:=h x
        rwa [secG,secG,Q2 q6,Q2 q6] at d
    rw [this]
def curG (s : Mg σ β) : List (Grp σ):=if s.sec = [] then [] else [⟨s.lo,s.hi,s.sec⟩]
def secC (sec : Int→List σ) : List Int→Int→List σ
  | a::b::r,x=>if a≤x∧x < b then sec a else secC sec (b::r) x
  | _,_=>[]
theorem qgo (put : Int→Int→σ→β) (s : Mg σ β) (a : List (Grp σ)) (h : s.done = K7 put a) : s.flat put = K7 put (a ++ curG s):=by
  rw [q6i,Mg.flat,h];unfold curG;split
  · rename_i b;simp [b,K7]
  · simp [K7]
theorem qe8 {s : Mg σ β} {g : Grp σ} (h : g∈curG s) : s.sec≠[]∧g = ⟨s.lo,s.hi,s.sec⟩:=by
  unfold curG at h;split at h
  · cases h
  · rename_i a;exact ⟨a,by simpa using h⟩
theorem qex (sec : Int→List σ) {x : Int} : ∀ {d : List Int},d.Pairwise (· < ·)→
    (∀ a∈d,a≤x→(∀ c∈d,c≤a∨x < c)→sec a = sec x)→((∀ c∈d,x < c)→sec x = [])→((∀ c∈d,c≤x)→sec x = [])→secC sec d x = sec x
  | [],_,_,h2,_=>(h2 qg).symm
  | [a],_,_,h2,h3=>by
    rw [secC]
    · by_cases k : x < a
      · exact (h2 (by simpa using k)).symm
      · exact (h3 (by simpa using k)).symm
    · intro a b r h;simp at h
  | a::b::r,hp,h1,h2,h3=>by
    have o : a < b:=(List.pairwise_cons.1 hp).1 b qg
    have m:=(List.pairwise_cons.1 (List.pairwise_cons.1 hp).2).1
    rw [secC]
    split
    · rename_i k
      refine h1 a qg k.1 fun c f=>?_
      rcases List.mem_cons.1 f with rfl | f
      · exact .inl (Int.le_refl _)
      · rcases List.mem_cons.1 f with rfl | f
        · exact .inr k.2
        · have:=m c f;exact .inr q6
    · rename_i k
      by_cases n : x < a
      · have e : sec x = []:=h2 fun c f=>by
          rcases List.mem_cons.1 f with rfl | f
          · exact n
          · have:=(List.pairwise_cons.1 hp).1 c f;omega
        have:=qex sec (x:=x) (List.pairwise_cons.1 hp).2 (fun a' j l _=>by
          exfalso;have:=(List.pairwise_cons.1 hp).1 a' j;omega) (fun _=>e) (fun _=>e)
        exact this
      · have p : b≤x:=by omega
        exact qex sec (List.pairwise_cons.1 hp).2 (fun a' j l g=>h1 a' (by simp [j]) l fun c f=>by
          rcases List.mem_cons.1 f with rfl | f
          · have:=(List.pairwise_cons.1 hp).1 a' j;exact .inl q6
          · exact g c f) (fun g=>by have:=g b qg;omega) (fun g=>h3 fun c f=>by
          rcases List.mem_cons.1 f with rfl | f
          · omega
          · exact g c f)
variable [DecidableEq σ] (put : Int→Int→σ→β)
structure InvG (s : Mg σ β) (gs : List (Grp σ)) (c : Int) : Prop where
  done : s.done = K7 put gs
  can : CanG (gs ++ curG s)
  le : ∀ g∈gs ++ curG s,g.hi≤c
  gap : s.sec = []→∀ g∈gs,g.hi = c→False
theorem qme {s : Mg σ β} {l : List (Grp σ)} {a b : Int} {c : List σ} (v : a < b) (hi : InvG put s l a) :
    ∃ p,InvG put (addM put s a b c) p b∧∀ x,secG (p ++ curG (addM put s a b c)) x = if a≤x∧x < b then c else secG (l ++ curG s) x:=by
  rcases q15 put s a b c with ⟨h1,h2,h3,z⟩ | ⟨h1,z⟩
  · rw [z];have hs : s.sec≠[]:=h2 ▸ h1;have c1 : curG s = [⟨s.lo,s.hi,s.sec⟩]:=by unfold curG;rw [Q2 hs]
    have c2 : curG (⟨s.done,s.sec,s.lo,b⟩ : Mg σ β) = [⟨s.lo,b,s.sec⟩]:=by unfold curG;rw [Q2 hs]
    have f:=hi.can;rw [c1] at f;have ai : s.lo < s.hi:=(f.1 ⟨s.lo,s.hi,s.sec⟩ qg).1;refine ⟨l,⟨hi.done,?_,?_,fun h=>absurd h hs⟩,?_⟩
    · rw [c2];refine ⟨fun g d=>?_,?_⟩
      · rcases List.mem_append.1 d with d | d
        · exact f.1 g (by simp [d])
        · obtain rfl:=List.mem_singleton.1 d;exact ⟨by simp only;omega,hs⟩
      · have:=List.pairwise_append.1 f.2;refine List.pairwise_append.2 ⟨this.1,qg,fun g d k w=>?_⟩;obtain rfl:=List.mem_singleton.1 w;exact this.2.2 g d ⟨s.lo,s.hi,s.sec⟩ qg
    · rw [c2];intro g d;rcases List.mem_append.1 d with d | d
      · have:=hi.le g (by simp [d]);omega
      · obtain rfl:=List.mem_singleton.1 d;exact Int.le_refl _
    · intro x;rw [c1,c2];have ad : ∀ g∈l,g.hi≤s.lo:=fun g d=>((List.pairwise_append.1 f.2).2.2 g d ⟨s.lo,s.hi,s.sec⟩ qg).1;have r : ∀ g∈l,g.sec≠[]:=fun g d=>(f.1 g (by simp [d])).2;by_cases n : x < s.lo
      · rw [Q2 q6,qia (y:=s.lo) qg n,qia (y:=s.lo) qg n]
      · have e : secG l x = []:=q3p ad q6;rw [qau e r,qau e r];simp only [secG];by_cases u : x < s.hi
        · rw [Q1 ⟨q6,q6⟩,Q2 q6,Q1 ⟨q6,u⟩]
        · by_cases o : x < b
          · rw [Q1 ⟨q6,o⟩,Q1 ⟨q6,o⟩,h2]
          · rw [Q2 q6,Q2 q6,Q2 q6]
  · rw [z];have hd : s.flat put = K7 put (l ++ curG s):=qgo put s l hi.done;refine ⟨l ++ curG s,⟨hd,?_,?_,?_⟩,?_⟩
    · by_cases m : c = []
      · have : curG (⟨s.flat put,c,a,b⟩ : Mg σ β) = []:=by unfold curG;rw [Q1 m]
        rw [this,List.append_nil];exact hi.can
      · have : curG (⟨s.flat put,c,a,b⟩ : Mg σ β) = [⟨a,b,c⟩]:=by unfold curG;rw [Q2 m]
        rw [this];refine ⟨fun g d=>?_,List.pairwise_append.2 ⟨hi.can.2,qg,fun g d k w=>?_⟩⟩
        · rcases List.mem_append.1 d with d | d
          · exact hi.can.1 g d
          · obtain rfl:=List.mem_singleton.1 d;exact ⟨v,m⟩
        · obtain rfl:=List.mem_singleton.1 w;refine ⟨hi.le g d,fun t q=>?_⟩;rcases List.mem_append.1 d with j | j
          · by_cases hs : s.sec = []
            · exact hi.gap hs g j t
            · have h5 : (⟨s.lo,s.hi,s.sec⟩ : Grp σ)∈curG s:=by unfold curG;rw [Q2 hs];simp
              have h6:=((List.pairwise_append.1 hi.can.2).2.2 g j _ h5).1;have h7:=(hi.can.1 _ (List.mem_append.2 (.inr h5))).1;have h8:=hi.le _ (List.mem_append.2 (.inr h5));simp only at t h6 h7 h8;omega
          · obtain ⟨hs,rfl⟩:=qe8 j;exact h1 ⟨m,q.symm,t⟩
    · intro g d;rcases List.mem_append.1 d with d | d
      · have:=hi.le g d;omega
      · obtain ⟨_,rfl⟩:=qe8 d;exact Int.le_refl _
    · intro m g d t;have:=hi.le g d;omega
    · intro x;by_cases n : a≤x∧x < b
      · rw [Q1 n,qau (q3p hi.le n.1) fun g d=>(hi.can.1 g d).2];unfold curG;split
        · rename_i m;simp only at m;rw [m];rfl
        · simp only [secG];rw [Q1 n]
      · rw [Q2 n];by_cases ac : x < a
        · exact qia (y:=a) (fun g d=>by obtain ⟨_,rfl⟩:=qe8 d;exact Int.le_refl _) ac
        · have e:=q3p (x:=x) hi.le q6;rw [qau e fun g d=>(hi.can.1 g d).2,e];exact q3p (y:=b) (fun g d=>by obtain ⟨_,rfl⟩:=qe8 d;exact Int.le_refl _) q6
theorem qoo (sec : Int→List σ) : ∀ (d : List Int) (c : Int) (s : Mg σ β) (h : List (Grp σ)),(c::d).Pairwise (· < ·)→InvG put s h c→
    ∃ f,(runM put sec s (c::d)).flat put = K7 put f∧CanG f∧∀ x,secG f x = if x < c then secG (h ++ curG s) x else secC sec (c::d) x
  | [],c,s,h,_,hi=>by
    refine ⟨h ++ curG s,qgo put s h hi.done,hi.can,fun x=>?_⟩
    by_cases k : x < c
    · rw [Q1 k]
    · rw [Q2 k];exact q3p hi.le q6
  | b::d,a,s,h,hp,hi=>by
    have n : a < b:=(List.pairwise_cons.1 hp).1 b qg
    obtain ⟨f,l,j⟩:=qme (b:=b) (c:=sec a) put n hi
    obtain ⟨m,o,q,p⟩:=qoo sec d b _ f (List.pairwise_cons.1 hp).2 l
    refine ⟨m,o,q,fun x=>?_⟩
    rw [p x]
    by_cases k : x < a
    · rw [Q1 q6,Q1 k,j,Q2 q6]
    · rw [Q2 k]
      simp only [secC]
      by_cases g : x < b
      · rw [Q1 g,j,Q1 ⟨q6,g⟩,Q1 ⟨q6,g⟩]
      · rw [Q2 g,Q2 q6]
theorem qmz (sec : Int→List σ) {a : List Int} (f : a.Pairwise (· < ·)) :
    ∃ d,(Qv put Qt (Yt a sec)).flat put = K7 put d∧CanG d∧∀ x,secG d x = secC sec a x:=by
  rw [ql9]
  cases a with
  | nil=>exact ⟨[],rfl,⟨qg,qg⟩,fun x=>rfl⟩
  | cons c a=>
    obtain ⟨d,h,k,j⟩:=qoo put sec a c (Qt : Mg σ β) [] f ⟨rfl,⟨by simp [curG,Qt],by simp [curG,Qt]⟩,by simp [curG,Qt],qg⟩;refine ⟨d,h,k,fun x=>?_⟩;rw [j x];split
    · rename_i g
      have : ∀ (a : List Int) (c : Int),(c::a).Pairwise (· < ·)→x < c→secC sec (c::a) x = []:=by
        intro a
        induction a with
        | nil=>intros;rfl
        | cons b r ih=>
          intro c hp g;rw [secC,Q2 q6];exact ih b (List.pairwise_cons.1 hp).2 (by have:=(List.pairwise_cons.1 hp).1 b qg;omega)
      rw [this a c f g];rfl
    · rfl
end
end Go.Sh
namespace Go.Sh
open Go Go.Am
section
variable {σ : Type}
theorem qav {x : Int} : ∀ (b : List (Grp σ)),secG b x = []∨∃ g∈b,g.lo≤x∧x < g.hi∧secG b x = g.sec
  | []=>.inl rfl
  | g::r=>by
    by_cases a : g.lo≤x∧x < g.hi
    · exact .inr ⟨g,qg,a.1,a.2,by rw [secG,Q1 a]⟩
    · rw [secG,Q2 a]
      rcases qav r with h | ⟨k,c,h⟩
      · exact .inl h
      · exact .inr ⟨k,by simp [c],h⟩
theorem q7n : ∀ {b : List (Grp σ)},CanG b→∀ g∈b,∀ x,g.lo≤x→x < g.hi→secG b x = g.sec
  | k::r,h,g,a,x,h1,h2=>by
    rcases List.mem_cons.1 a with rfl | a
    · exact q3o h1 h2
    · have:=(h.nxt g a).1
      rw [secG,Q2 q6]
      exact q7n h.tail g a x h1 h2
end
theorem qmg (kind : Int) : Zw kind [] [] = []:=by
  have a:=(q4h kind [] [] qg qg).2;refine q35 a.can ⟨qg,qg⟩ fun x=>?_;rw [a.pts];have:=q2p x;unfold Y9;simp [this]
theorem qsv (a b : List qf) (x : Int) : covS (a ++ b) x = covS a x ++ covS b x:=by simp [covS]
theorem qsw (s : List ql) (lo hi x : Int) : covS (s.map (putR lo hi)) x = if lo≤x∧x < hi then s else []:=by
  induction s with
  | nil=>simp [covS]
  | cons t s ih=>
    have e : covS (List.map (putR lo hi) (t::s)) x = (if covR x (putR lo hi t) = true then [t] else []) ++ covS (s.map (putR lo hi)) x:=rfl;rw [e,ih];have : covR x (putR lo hi t) = (decide (lo≤x) && decide (x < hi)):=rfl;rw [this];by_cases a : lo≤x <;> by_cases b : x < hi <;> simp [a,b]
theorem q9c : ∀ {b : List (Grp ql)},CanG b→∀ x,covS (K7 putR b) x = secG b x
  | [],_,x=>rfl
  | g::r,h,x=>by
    have e : K7 putR (g::r) = g.sec.map (putR g.lo g.hi) ++ K7 putR r:=rfl
    rw [e,qsv,qsw,q9c h.tail x]
    by_cases a : g.lo≤x∧x < g.hi
    · rw [Q1 a,secG,Q1 a,q2x (y:=g.hi) (fun m c=>(h.nxt m c).1) a.2,List.append_nil]
    · rw [Q2 a,secG,Q2 a,List.nil_append]
theorem qkj {l : List qf} {a x : Int} (h : ∀ r∈l,covR a r = covR x r) : covS l a = covS l x:=by
  induction l with
  | nil=>rfl
  | cons r l ih=>
    have e : ∀ y,covS (r::l) y = (if covR y r = true then [ysp r] else []) ++ covS l y:=fun _=>rfl;rw [e,e,h r qg,ih fun k b=>h k (by simp [b])]
theorem qdl {l : List qf} {x : Int} (h : ∀ r∈l,covR x r = false) : covS l x = []:=by
  induction l with
  | nil=>rfl
  | cons r l ih=>
    have e : covS (r::l) x = (if covR x r = true then [ysp r] else []) ++ covS l x:=rfl;rw [e,h r qg,ih fun k a=>h k (by simp [a])];rfl
theorem q6d {x : Int} {r : qf} : covR x r = true↔r.X0≤x∧x < r.X1:=by simp [covR]
theorem qmx {p q : List qf} {r : qf} (h : r∈p∨r∈q) : r.X0∈xsOf p ++ xsOf q∧r.X1∈xsOf p ++ xsOf q:=by
  unfold xsOf;simp only [List.mem_append,List.mem_flatMap];rcases h with h | h
  · exact ⟨.inl ⟨r,h,qg⟩,.inl ⟨r,h,qg⟩⟩
  · exact ⟨.inr ⟨r,h,qg⟩,.inr ⟨r,h,qg⟩⟩
theorem qn2 (kind : Int) {p q : List qf} (h : p.length + q.length≤100000) :
    ∃ f,mrgR kind p q = K7 putR f∧CanG f∧∀ x,secG f x = secJ kind p q x:=by
  have t:=J7 p;have u:=J7 q;have hs:=(Ui (l:=xsOf p ++ xsOf q) (by simp;omega)).2.1;obtain ⟨f,k,n,m⟩:=qmz putR (secJ kind p q) hs.1;refine ⟨f,k,n,fun x=>?_⟩;rw [m]
  have g : ∀ r,(r∈p∨r∈q)→r.X0∈K6 (xsOf p ++ xsOf q)∧r.X1∈K6 (xsOf p ++ xsOf q):=fun r b=>
    ⟨(hs.2 _).2 (qmx b).1,(hs.2 _).2 (qmx b).2⟩
  refine qex _ hs.1 (fun a _ o c=>?_) (fun c=>?_) (fun c=>?_)
  · have d : ∀ r,(r∈p∨r∈q)→covR a r = covR x r:=fun r b=>by
      have j:=c _ (g r b).1;have s:=c _ (g r b).2;rw [Bool.eq_iff_iff,q6d,q6d];omega
    unfold secJ;rw [qkj fun r b=>d r (.inl b),qkj fun r b=>d r (.inr b)]
  · have d : ∀ r,(r∈p∨r∈q)→covR x r = false:=fun r b=>by
      have j:=c _ (g r b).1;rw [← Bool.not_eq_true,q6d];omega
    unfold secJ;rw [qdl fun r b=>d r (.inl b),qdl fun r b=>d r (.inr b),qmg]
  · have d : ∀ r,(r∈p∨r∈q)→covR x r = false:=fun r b=>by
      have j:=c _ (g r b).2;rw [← Bool.not_eq_true,q6d];omega
    unfold secJ;rw [qdl fun r b=>d r (.inl b),qdl fun r b=>d r (.inr b),qmg]
def CanR (l : List qf) : Prop:=∃ gs : List (Grp ql),l = K7 putR gs∧CanG gs∧∀ g∈gs,Can g.sec
theorem qrg : Can []:=⟨qg,qg⟩
theorem CanR.nil : CanR []:=⟨[],rfl,⟨qg,qg⟩,qg⟩
theorem CanR.cov {l : List qf} (h : CanR l) (x : Int) : Can (covS l x):=by
  obtain ⟨b,rfl,c,a⟩:=h;rw [q9c c];rcases qav (x:=x) b with e | ⟨g,d,_,_,e⟩
  · rw [e];exact qrg
  · rw [e];exact a g d
theorem qg3 {a b : List qf} (c : CanR a) (hb : CanR b) (h : ∀ x y,hasR a x y↔hasR b x y) : a = b:=by
  have g : ∀ x,covS a x = covS b x:=fun x=>q35 (c.cov x) (hb.cov x) fun y=>by rw [q24,q24];exact h x y
  obtain ⟨j,rfl,f,_⟩:=c;obtain ⟨k,rfl,d,_⟩:=hb;rw [qg2 f d fun x=>by rw [← q9c f,← q9c d];exact g x]
theorem qib (kind : Int) {p q : List qf} (h : p.length + q.length≤100000) (x : Int) : qfo kind (covS p x) (covS q x) (secJ kind p q x):=by
  have a:=Jf p x;have b:=Jf q x;exact (q4h kind (covS p x) (covS q x) q6 q6).2
theorem qa3 (kind : Int) {p q : List qf} (h : p.length + q.length≤100000) : CanR (mrgR kind p q):=by
  obtain ⟨f,c,a,d⟩:=qn2 kind h;refine ⟨f,c,a,fun g b=>?_⟩;have:=d g.lo;rw [q7n a g b _ (Int.le_refl _) (a.1 g b).1] at this;rw [this];exact (qib kind h _).can
theorem qkk (kind : Int) {p q : List qf} (h : p.length + q.length≤100000) (x : Int) : covS (mrgR kind p q) x = secJ kind p q x:=by
  obtain ⟨d,a,c,b⟩:=qn2 kind h;rw [a,q9c c,b]
theorem q9t (kind : Int) {p q : List qf} (h : p.length + q.length≤100000) (x y : Int) : hasR (mrgR kind p q) x y↔Y9 kind (hasR p x y) (hasR q x y):=by
  rw [← q24,qkk kind h,(qib kind h x).pts,q24,q24]
theorem q4f (x y : Int) : ¬ hasR [] x y:=by rintro ⟨r,h,_⟩;cases h
theorem qh0 {a b : Prop} : Y9 2 a b↔a∨b:=by unfold Y9;simp
theorem qh2 {a b : Prop} : Y9 3 a b↔a∧¬ b:=by unfold Y9;simp
theorem qu9 {l : List qf} (h : l.length≤100000) (x y : Int) : hasR (mrgR 2 l []) x y↔hasR l x y:=by
  rw [q9t 2 (by simpa using h),qh0];simp [q4f]
theorem qn3 {l : List qf} (a : l.length≤100000) (h : CanR l) : mrgR 2 l [] = l:=
  qg3 (qa3 2 (by simpa using a)) h fun x y=>qu9 a x y
theorem qeb {σ β : Type} {put : Int→Int→σ→β} {a : List (Grp σ)} {r : β} : r∈K7 put a↔∃ g∈a,∃ t∈g.sec,r = put g.lo g.hi t:=by
  unfold K7;simp only [List.mem_flatMap,List.mem_map];exact ⟨fun ⟨g,hg,t,ht,e⟩=>⟨g,hg,t,ht,e.symm⟩,fun ⟨g,hg,t,ht,e⟩=>⟨g,hg,t,ht,e.symm⟩⟩
theorem CanR.lt {l : List qf} (h : CanR l) : ∀ r∈l,r.X0 < r.X1∧r.Y0 < r.Y1:=by
  obtain ⟨j,rfl,d,b⟩:=h;intro r c;obtain ⟨g,a,t,f,rfl⟩:=qeb.1 c;exact ⟨(d.1 g a).1,(b g a).1 t f⟩
def InR (l : List qf) : Prop:=∀ x y,hasR l x y→(-1000000≤x∧x < 1000000)∧(-1000000≤y∧y < 1000000)
theorem CanR.vR {l : List qf} (h : CanR l) (hi : InR l) : ∀ r∈l,vR r:=by
  intro r a;have c:=h.lt r a;have b:=hi r.X0 r.Y0 ⟨r,a,q6⟩;have d:=hi (r.X1 - 1) (r.Y1 - 1) ⟨r,a,q6⟩;unfold Go.Sh.vR;omega
theorem InR.mrg {kind : Int} {p q : List qf} (h : p.length + q.length≤100000) (hp : InR p) (b : InR q) : InR (mrgR kind p q):=fun x y c=>by
  rcases qh1 ((q9t kind h x y).1 c) with a | a
  · exact hp x y a
  · exact b x y a
theorem InR.nil : InR []:=fun x y h=>absurd h (q4f x y)
theorem q2j {l : List qf} : Kr l = 0↔l.length≤400∧(∀ r∈l,vR r)∧CanR l:=by
  constructor
  · intro h;obtain ⟨c,b,a⟩:=qk0 h;exact ⟨c,b,a ▸ qa3 2 (by simp;omega)⟩
  · rintro ⟨c,b,a⟩;unfold Kr;rw [Q2 q6,Q1 b,Q1 (qn3 q6 a)]
end Go.Sh
namespace Go.Sh
open Go Go.Am
def hasB (l : List qk) (x y z : Int) : Prop:=∃ b∈l,(b.Lo.X≤x∧x < b.Hi.X)∧(b.Lo.Y≤y∧y < b.Hi.Y)∧(b.Lo.Z≤z∧z < b.Hi.Z)
theorem q37 {z : Int} {b : qk} : covB z b = true↔b.Lo.Z≤z∧z < b.Hi.Z:=by simp [covB]
theorem qhe {l : List qk} {z : Int} {r : qf} : r∈atB l z↔∃ b∈l,(b.Lo.Z≤z∧z < b.Hi.Z)∧r = U8 b:=by
  unfold atB;rw [List.mem_flatMap];constructor
  · rintro ⟨b,hb,h⟩;split at h
    · rename_i a;exact ⟨b,hb,q37.1 a,by simpa using h⟩
    · cases h
  · rintro ⟨b,hb,a,rfl⟩;exact ⟨b,hb,by rw [Q1 (q37.2 a)];simp⟩
theorem q23 {l : List qk} {x y z : Int} : hasR (atB l z) x y↔hasB l x y z:=by
  constructor
  · rintro ⟨r,h,d,a,f,c⟩;obtain ⟨b,hb,g,rfl⟩:=qhe.1 h;exact ⟨b,hb,⟨d,a⟩,⟨f,c⟩,g⟩
  · rintro ⟨b,hb,⟨d,a⟩,⟨f,c⟩,g⟩;exact ⟨U8 b,qhe.2 ⟨b,hb,g,rfl⟩,d,a,f,c⟩
theorem qdy (x y z : Int) : ¬ hasB [] x y z:=by rintro ⟨r,h,_⟩;cases h
theorem qqz (a b : List qk) (z : Int) : atB (a ++ b) z = atB a z ++ atB b z:=by simp [atB]
theorem qr0 (s : List qf) (lo hi z : Int) : atB (s.map (putB lo hi)) z = if lo≤z∧z < hi then s else []:=by
  induction s with
  | nil=>simp [atB]
  | cons t s ih=>
    have e : atB (List.map (putB lo hi) (t::s)) z = (if covB z (putB lo hi t) = true then [t] else []) ++ atB (s.map (putB lo hi)) z:=rfl;rw [e,ih];have : covB z (putB lo hi t) = (decide (lo≤z) && decide (z < hi)):=rfl;rw [this];by_cases a : lo≤z <;> by_cases b : z < hi <;> simp [a,b]
theorem q43 : ∀ {b : List (Grp qf)},CanG b→∀ z,atB (K7 putB b) z = secG b z
  | [],_,z=>rfl
  | g::r,h,z=>by
    have e : K7 putB (g::r) = g.sec.map (putB g.lo g.hi) ++ K7 putB r:=rfl
    rw [e,qqz,qr0,q43 h.tail z]
    by_cases a : g.lo≤z∧z < g.hi
    · rw [Q1 a,secG,Q1 a,q2x (y:=g.hi) (fun m c=>(h.nxt m c).1) a.2,List.append_nil]
    · rw [Q2 a,secG,Q2 a,List.nil_append]
theorem qjm {l : List qk} {a x : Int} (h : ∀ r∈l,covB a r = covB x r) : atB l a = atB l x:=by
  induction l with
  | nil=>rfl
  | cons r l ih=>
    have e : ∀ y,atB (r::l) y = (if covB y r = true then [U8 r] else []) ++ atB l y:=fun _=>rfl;rw [e,e,h r qg,ih fun k b=>h k (by simp [b])]
theorem qde {l : List qk} {x : Int} (h : ∀ r∈l,covB x r = false) : atB l x = []:=by
  induction l with
  | nil=>rfl
  | cons r l ih=>
    have e : atB (r::l) x = (if covB x r = true then [U8 r] else []) ++ atB l x:=rfl;rw [e,h r qg,ih fun k a=>h k (by simp [a])];rfl
theorem qmy {p q : List qk} {r : qk} (h : r∈p∨r∈q) : r.Lo.Z∈zsOf p ++ zsOf q∧r.Hi.Z∈zsOf p ++ zsOf q:=by
  unfold zsOf;simp only [List.mem_append,List.mem_flatMap];rcases h with h | h
  · exact ⟨.inl ⟨r,h,qg⟩,.inl ⟨r,h,qg⟩⟩
  · exact ⟨.inr ⟨r,h,qg⟩,.inr ⟨r,h,qg⟩⟩
theorem qhl (kind : Int) : mrgR kind [] [] = []:=by
  refine qg3 (qa3 kind qg) .nil fun x y=>?_;rw [q9t kind qg];have:=q4f x y;unfold Y9;simp [this]
theorem qn1 (kind : Int) {p q : List qk} (h : p.length + q.length≤100000) :
    ∃ f,mrgB kind p q = K7 putB f∧CanG f∧∀ z,secG f z = secB kind p q z:=by
  have t:=J8 p;have u:=J8 q;have hs:=(Ui (l:=zsOf p ++ zsOf q) (by simp;omega)).2.1;obtain ⟨f,m,k,n⟩:=qmz putB (secB kind p q) hs.1;refine ⟨f,m,k,fun x=>?_⟩;rw [n]
  have g : ∀ r,(r∈p∨r∈q)→r.Lo.Z∈K6 (zsOf p ++ zsOf q)∧r.Hi.Z∈K6 (zsOf p ++ zsOf q):=fun r b=>
    ⟨(hs.2 _).2 (qmy b).1,(hs.2 _).2 (qmy b).2⟩
  refine qex _ hs.1 (fun a _ o c=>?_) (fun c=>?_) (fun c=>?_)
  · have d : ∀ r,(r∈p∨r∈q)→covB a r = covB x r:=fun r b=>by
      have j:=c _ (g r b).1;have s:=c _ (g r b).2;rw [Bool.eq_iff_iff,q37,q37];omega
    unfold secB;rw [qjm fun r b=>d r (.inl b),qjm fun r b=>d r (.inr b)]
  · have d : ∀ r,(r∈p∨r∈q)→covB x r = false:=fun r b=>by
      have j:=c _ (g r b).1;rw [← Bool.not_eq_true,q37];omega
    unfold secB;rw [qde fun r b=>d r (.inl b),qde fun r b=>d r (.inr b),qhl]
  · have d : ∀ r,(r∈p∨r∈q)→covB x r = false:=fun r b=>by
      have j:=c _ (g r b).2;rw [← Bool.not_eq_true,q37];omega
    unfold secB;rw [qde fun r b=>d r (.inl b),qde fun r b=>d r (.inr b),qhl]
def CanB (l : List qk) : Prop:=∃ gs : List (Grp qf),l = K7 putB gs∧CanG gs∧∀ g∈gs,CanR g.sec
theorem CanB.nil : CanB []:=⟨[],rfl,⟨qg,qg⟩,qg⟩
theorem CanB.at {l : List qk} (h : CanB l) (z : Int) : CanR (atB l z):=by
  obtain ⟨b,rfl,c,a⟩:=h;rw [q43 c];rcases qav (x:=z) b with e | ⟨g,d,_,_,e⟩
  · rw [e];exact .nil
  · rw [e];exact a g d
theorem qjs {a b : List qk} (c : CanB a) (hb : CanB b) (h : ∀ x y z,hasB a x y z↔hasB b x y z) : a = b:=by
  have g : ∀ z,atB a z = atB b z:=fun z=>qg3 (c.at z) (hb.at z) fun x y=>by rw [q23,q23];exact h x y z
  obtain ⟨j,rfl,f,_⟩:=c;obtain ⟨k,rfl,d,_⟩:=hb;rw [qg2 f d fun x=>by rw [← q43 f,← q43 d];exact g x]
theorem qjo {p q : List qk} (h : p.length + q.length≤100000) (z : Int) : (atB p z).length + (atB q z).length≤100000:=by
  have:=Jb p z;have:=Jb q z;omega
theorem qhk (kind : Int) {p q : List qk} (h : p.length + q.length≤100000) : CanB (mrgB kind p q):=by
  obtain ⟨f,c,a,d⟩:=qn1 kind h;refine ⟨f,c,a,fun g b=>?_⟩;have:=d g.lo;rw [q7n a g b _ (Int.le_refl _) (a.1 g b).1] at this;rw [this];exact qa3 kind (qjo h _)
theorem qjn (kind : Int) {p q : List qk} (h : p.length + q.length≤100000) (z : Int) : atB (mrgB kind p q) z = secB kind p q z:=by
  obtain ⟨d,a,c,b⟩:=qn1 kind h;rw [a,q43 c,b]
theorem qgw (kind : Int) {p q : List qk} (h : p.length + q.length≤100000) (x y z : Int) : hasB (mrgB kind p q) x y z↔Y9 kind (hasB p x y z) (hasB q x y z):=by
  rw [← q23,qjn kind h,secB,q9t kind (qjo h z),q23,q23]
theorem qu7 {l : List qk} (h : l.length≤100000) (x y z : Int) : hasB (mrgB 2 l []) x y z↔hasB l x y z:=by
  rw [qgw 2 (by simpa using h),qh0];simp [qdy]
theorem qvj {l : List qk} (a : l.length≤100000) (h : CanB l) : mrgB 2 l [] = l:=
  qjs (qhk 2 (by simpa using a)) h fun x y z=>qu7 a x y z
theorem CanB.lt {l : List qk} (h : CanB l) : ∀ b∈l,b.Lo.X < b.Hi.X∧b.Lo.Y < b.Hi.Y∧b.Lo.Z < b.Hi.Z:=by
  obtain ⟨k,rfl,f,c⟩:=h;intro r d;obtain ⟨g,a,t,j,rfl⟩:=qeb.1 d;have:=(c g a).lt t j;exact ⟨this.1,this.2,(f.1 g a).1⟩
def vB (b : qk) : Prop:=(b.Lo.X < b.Hi.X∧b.Lo.Y < b.Hi.Y∧b.Lo.Z < b.Hi.Z)∧(-1000000≤b.Lo.X∧-1000000≤b.Lo.Y∧-1000000≤b.Lo.Z)∧b.Hi.X≤1000000∧b.Hi.Y≤1000000∧b.Hi.Z≤1000000
instance (b : qk) : Decidable (vB b):=by unfold vB;infer_instance
def InB (l : List qk) : Prop:=∀ x y z,hasB l x y z→(-1000000≤x∧x < 1000000)∧(-1000000≤y∧y < 1000000)∧(-1000000≤z∧z < 1000000)
theorem q16r {l : List qk} (h : ∀ r∈l,vB r) : InB l:=by
  rintro x y z ⟨r,a,b⟩;have:=h r a;unfold vB at this;omega
theorem CanB.vB {l : List qk} (h : CanB l) (hi : InB l) : ∀ r∈l,vB r:=by
  intro r a;have c:=h.lt r a;have b:=hi r.Lo.X r.Lo.Y r.Lo.Z ⟨r,a,q6⟩;have d:=hi (r.Hi.X - 1) (r.Hi.Y - 1) (r.Hi.Z - 1) ⟨r,a,q6⟩;unfold Go.Sh.vB;omega
theorem InB.mrg {kind : Int} {p q : List qk} (h : p.length + q.length≤100000) (hp : InB p) (b : InB q) : InB (mrgB kind p q):=fun x y z c=>by
  rcases qh1 ((qgw kind h x y z).1 c) with a | a
  · exact hp x y z a
  · exact b x y z a
theorem InB.nil : InB []:=fun x y z h=>absurd h (qdy x y z)
theorem qqa {l : List qk} (h : ∀ b∈l,vB b) (z : Int) : ∀ r∈atB l z,vR r:=by
  intro r a;obtain ⟨b,hb,_,rfl⟩:=qhe.1 a;have:=h b hb;unfold vB at this;unfold vR U8;simp only;omega
theorem InB.at {l : List qk} (h : InB l) (z : Int) : InR (atB l z):=fun x y a=>by
  have:=h x y z (q23.1 a);exact ⟨this.1,this.2.1⟩
noncomputable def Kh (l : List qk) : Int:=if 400 < l.length then 4 else if ∀ b∈l,vB b then (if mrgB 2 l [] = l then 0 else 8) else 8
theorem J1 {l : List qk} : Kh l = 0↔l.length≤400∧(∀ b∈l,vB b)∧CanB l:=by
  unfold Kh;constructor
  · intro h;split at h
    · exact absurd h qy
    · rename_i d;split at h
      · rename_i c;split at h
        · rename_i a;exact ⟨q6,c,a ▸ qhk 2 (by simp;omega)⟩
        · exact absurd h qy
      · exact absurd h qy
  · rintro ⟨d,c,a⟩;rw [Q2 q6,Q1 c,Q1 (qvj q6 a)]
theorem qov (kind : Int) {p q : List qk} (h : p.length + q.length≤100000) (z : Int) : (secB kind p q z).length≤(mrgB kind p q).length:=by
  rw [← qjn kind h];exact Jb _ _
theorem q11p (kind : Int) {p q : List qf} (h : p.length + q.length≤100000) (x : Int) : (secJ kind p q x).length≤(mrgR kind p q).length:=by
  rw [← qkk kind h];exact Jf _ _
noncomputable def mkB (l : List qk) : List qk × Int:=if 400 < l.length then ([],4) else if ∀ b∈l,vB b then (if 400 < (mrgB 2 l []).length then ([],4) else (mrgB 2 l [],0)) else ([],8)
noncomputable def jB (kind : Int) (p q : List qk) : List qk × Int:=
  if Kh p≠0 then ([],Kh p) else if Kh q≠0 then ([],Kh q) else if 400 < (mrgB kind p q).length then ([],4) else (mrgB kind p q,0)
noncomputable def mkR (l : List qf) : List qf × Int:=if 400 < l.length then ([],4) else if ∀ b∈l,vR b then (if 400 < (mrgR 2 l []).length then ([],4) else (mrgR 2 l [],0)) else ([],8)
noncomputable def jR (kind : Int) (p q : List qf) : List qf × Int:=
  if Kr p≠0 then ([],Kr p) else if Kr q≠0 then ([],Kr q) else if 400 < (mrgR kind p q).length then ([],4) else (mrgR kind p q,0)
end Go.Sh
namespace Go.Sh
open Go Go.Am
theorem qh9 {α β : Type} {f : α→Option (α ⊕ β)} (st : Nat→α) (n : Nat) (ok : Nat→Prop) (b e : β)
    (step : ∀ k,k < n→(∀ j,j≤k→ok j)→f (st k) = some (.inl (st (k + 1))))
    (bad : ∀ k,k < n→(∀ j,j < k→ok j)→¬ ok k→f (st k) = some (.inr e))
    (done : (∀ j,j < n→ok j)→f (st n) = some (.inr b)) :
    ((∀ j,j < n→ok j)∧loop f (st 0) = some b)∨(∃ j,j < n∧¬ ok j∧loop f (st 0) = some e):=by
  by_cases h : ∀ j,j < n→ok j
  · exact .inl ⟨h,Z6 st n b (fun k c=>step k c fun j d=>h j q6) (done h) (Nat.zero_le _)⟩
  · refine .inr ?_
    have g : ∃ k,(k < n∧¬ ok k)∧∀ j,j < k→ok j:=by
      have : ∃ k,k < n∧¬ ok k:=by
        refine Classical.byContradiction fun o=>h fun k c=>?_;exact Classical.byContradiction fun h=>o ⟨k,c,h⟩
      obtain ⟨k,c⟩:=this
      induction k using Nat.strongRecOn with
      | _ k ih=>
        by_cases d : ∃ j,j < k∧(j < n∧¬ ok j)
        · obtain ⟨j,l,g⟩:=d;exact ih j l g
        · exact ⟨k,c,fun j l=>Classical.byContradiction fun h=>d ⟨j,l,q6,h⟩⟩
    obtain ⟨K,⟨m,hb⟩,a⟩:=g;exact ⟨K,m,hb,Z6 st K e (fun k c=>step k q6 fun j d=>a j q6) (bad K m a hb) (Nat.zero_le _)⟩
theorem qfd (xs : List Int) (h : xs.length≤1000000) :
    ((Jm xs).bind fun c=>(K5 c.length xs.length).bind fun _=>(Uz c).bind fun b=>(K5 b.2.length c.length).bind fun _=>(Jn b.2.length b.1).bind fun _=>some ((b.2.drop b.1.1).take b.1.2)) = some (K6 xs):=by
  obtain ⟨ys,k,g,m⟩:=qpn xs h;have f : ys.length = xs.length:=g.length_eq;obtain ⟨w,a,c1,c2,c3,c4⟩:=qkf m q6;obtain ⟨_,j,_⟩:=Ui h
  have d : a.take w = K6 xs:=by
    refine qpo (l:=xs) ⟨c4.1,fun x=>?_⟩ j;rw [c4.2 x];exact g.mem_iff
  simp only [qn,k,K5,f,if_true,c1,c2,Jn];rw [Q1 q6];simp only [qn,List.drop_zero,d]
theorem qqh (l : List qf) (o : List Int) (g : l.length≤400) (d : o.length≤10000) : loop (Jk l) (0,o) = some (o ++ xsOf l):=
  J0 l q6 (fun r=>[r.X0,r.X1]) o (fun o=>o) (Jk l) (fun k a c b=>by
    have f : c.length = o.length + 2 * k:=by
      rw [b,List.length_append];have:=J7 (l.take k);rw [List.length_take,Nat.min_eq_left q6] at this;unfold xsOf at this;omega
    simp only [Jk,dlt a,Q5,K3 a,qn,w64s a q6]
    rw [Y3 (by simp;omega)]
    rfl) (fun o=>by simp only [Jk,dnl,Q4])
theorem q100 (l : List qf) (f : l.length≤1000000) : qay l (fun a=>q3l a) = some (decide (¬ ∀ r∈l,vR r)):=by
  have hs : ∀ (k : Nat) (h : k < l.length),q1p l (fun a=>q3l a) (k : Int) = some (if (fun r=>!decide (vR r)) l[k] = true then .inr (.inr (k : Int)) else .inl ((k + 1 : Nat) : Int)):=by
    intro k h;simp only [q1p,dlt h,Q5,K3 h,qn,w64s h f,q3l,qqb];by_cases d : vR l[k] <;> simp [d]
  have hd : q1p l (fun a=>q3l a) (l.length : Int) = some (.inr (.inl ())):=by simp only [q1p,dnl,Q4]
  unfold qay q5m;rcases q1u l (fun r=>!decide (vR r)) (fun k _=>(k : Int)) () _ hs hd with ⟨j,b⟩ | ⟨k,c,m,_,b⟩
  · rw [b];have : ∀ r∈l,vR r:=fun r g=>by simpa using j r g
    simp [];omega
  · rw [b];have : ¬ ∀ r∈l,vR r:=fun h=>by simp [h _ (Kf c)] at m
    simp only [qn];rw [Qr this,Qr q6]
theorem qod (l : List qf) : q2w l = some (mkR l):=by
  unfold q2w mkR;by_cases b : 400 < l.length
  · rw [Qr (by omega : (l.length : Int) > 400),Q5,Q1 b]
  rw [Qs (by omega : ¬ (l.length : Int) > 400),Q4,Q2 b,q100 l q6,qn];by_cases a : ∀ r∈l,vR r
  · rw [Qs (fun h=>h a),Q4,qmr l q6 a,Q1 a];rfl
  · rw [Qr a,Q5,Q2 a]
theorem qzx (p q : List qf) : qar p q = some (if Kr p≠0 then Kr p else Kr q):=by
  unfold qar;simp only [qao,qn];by_cases h : Kr p = 0
  · simp [h]
  · have : (Kr p != 0) = true:=by simpa using h
    simp [h,this]
theorem rj1 : qes = Jk:=rfl
theorem rj2 : qet = Jk:=rfl
theorem rj4 : qeu = q1o:=rfl
theorem rj5 : qev = q1o:=rfl
theorem qk1 {p : List qf} (h : Kr p = 0) (x : Int) : Yu (covS p x) = 0∧Good (covS p x):=by
  obtain ⟨d,c,b⟩:=q2j.1 h;have a : Good (covS p x):=⟨qkl c x,(b.cov x).2⟩
  have:=Jf p x;refine ⟨?_,a⟩;unfold Yu;rw [Q2 q6,Q1 a]
theorem qnl (kind : Int) {p q : List qf} (hp : Kr p = 0) (a : Kr q = 0) (x : Int) : opS kind (covS p x) (covS q x) = if 400 < (secJ kind p q x).length then ([],4) else (secJ kind p q x,0):=by
  unfold opS;rw [Q2 (by simp [(qk1 hp x).1]),Q2 (by simp [(qk1 a x).1])];rfl
theorem q102 (kind : Int) (f : List ql→List ql→Option (List ql × Int)) (hf : ∀ a b,f a b = some (opS kind a b)) (p q : List qf) : qas p q f = some (jR kind p q):=by
  unfold qas jR;rw [qzx,qn];by_cases hp : ¬ Kr p = 0
  · rw [Q1 hp,Q1 hp];have : (Kr p != 0) = true:=by simpa using hp
    rw [this,Q5]
  replace hp:=Classical.not_not.1 hp;by_cases n : ¬ Kr q = 0
  · rw [Q2 (by simp [hp]),Q2 (by simp [hp]),Q1 n];have : (Kr q != 0) = true:=by simpa using n
    rw [this,Q5]
  replace n:=Classical.not_not.1 n;rw [Q2 (by simp [hp]),Q2 (by simp [hp]),Q2 (by simp [n]),n];obtain ⟨lp,vp,cp⟩:=q2j.1 hp;obtain ⟨lq,vq,cq⟩:=q2j.1 n;have ar:=J7 p;have am:=J7 q;rw [show ((0 : Int) != 0) = false from rfl,Q4];simp only [show idx [p,q] 0 = some p from rfl,show idx [p,q] 1 = some q from rfl,qn,rj1,rj2,qqh p [] lp qg,List.nil_append,qqh q (xsOf p) lq q6];rw [qfd _ (by simp;omega)];simp only [qn];obtain ⟨_,ad,d⟩:=Ui (l:=xsOf p ++ xsOf q) (by simp;omega);have d : (K6 (xsOf p ++ xsOf q)).length≤1600:=by simp at d;omega
  have o : ∀ x,(secJ kind p q x).length≤(mrgR kind p q).length:=fun x=>q11p kind q6 x;have ai : mrgR kind p q = (Qv putR Qt (Yt (K6 (xsOf p ++ xsOf q)) (secJ kind p q))).flat putR:=rfl;rw [ai] at o ⊢;generalize K6 (xsOf p ++ xsOf q) = xs at ad d o ⊢;generalize aa : Yt xs (secJ kind p q) = steps at o ⊢;have ap : steps.length = xs.length - 1:=by rw [← aa];exact q64 _ _
  have w : ∀ k (m : k < steps.length),steps[k] = (xs[k]'(q6),xs[k + 1]'(q6),secJ kind p q (xs[k]'(q6))):=fun k m=>by subst aa;exact q63 m q6
  have ah : ∀ k,k≤steps.length→(∀ j,j < k→∀ t,steps[j]? = some t→t.2.2.length≤400)→((Qv putR Qt (steps.take k)).flat putR).length≤1600 * 400:=fun k m s=>by
    have h1:=q9l putR (s0:=Qt) (M:=400) (steps:=steps.take k) (fun t v=>by
      obtain ⟨i,hi,rfl⟩:=List.getElem_of_mem v;rw [List.length_take] at hi;rw [List.getElem_take]
      exact s i q6 _ (List.getElem?_eq_getElem q6))
    have y : (steps.take k).length≤1600:=by rw [List.length_take];omega
    have h3 : (Qt.flat putR : List qf).length = 0:=rfl;have z : (steps.take k).length * 400≤1600 * 400:=Nat.mul_le_mul_right _ y;omega
  have r : ∀ x,loop (q1o p x) (0,[]) = some (covS p x):=fun x=>qhb p lp x;have u : ∀ x,loop (q1o q x) (0,[]) = some (covS q x):=fun x=>qhb q lq x
  have main:=qh9 (f:=q5h xs p q f) (fun k=>(((k + 1 : Nat) : Int),(Qv putR Qt (steps.take k)).sec,((Qv putR Qt (steps.take k)).done.length : Int),(Qv putR Qt (steps.take k)).hi,(Qv putR Qt (steps.take k)).flat putR))
    steps.length (fun j=>∀ t,steps[j]? = some t→t.2.2.length≤400) (.inl ((Qv putR Qt steps).sec,((Qv putR Qt steps).done.length : Int),(Qv putR Qt steps).hi,(Qv putR Qt steps).flat putR)) (.inr ([],4))
    (fun k m s=>by
      have c : k + 1 < xs.length:=by omega
      have af : k < xs.length:=by omega
      have i1 : idx xs (w64 (((k + 1 : Nat) : Int) - 1)) = some xs[k]:=by rw [Qm q6];exact Zu q6 q6
      have hc:=s k (Nat.le_refl _) _ (List.getElem?_eq_getElem m);have hm:=ah k q6 fun j ao=>s j q6;rw [q2m putR m,w k m] at *;simp only at hc;have hb:=qjp (Qv putR Qt (steps.take k)) xs[k] xs[k + 1] (secJ kind p q xs[k]) q6;have ho : f (covS p xs[k]) (covS q xs[k]) = some (secJ kind p q xs[k],0):=by rw [hf,qnl kind hp n,Q2 q6]
      simp only [q5h,dlt c,Q5,i1,K3 c,qn,show idx [p,q] 0 = some p from rfl,show idx [p,q] 1 = some q from rfl,rj4,rj5,r,u,ho,show ((0 : Int) != 0) = false from rfl,Q4,hb]
      rw [w64s c q6])
    (fun k m s g=>by
      have c : k + 1 < xs.length:=by omega
      have af : k < xs.length:=by omega
      have i1 : idx xs (w64 (((k + 1 : Nat) : Int) - 1)) = some xs[k]:=by rw [Qm q6];exact Zu q6 q6
      have hc : 400 < (secJ kind p q xs[k]).length:=by
        refine Nat.lt_of_not_le fun h=>g fun t v=>?_;rw [List.getElem?_eq_getElem m,w k m] at v;cases v;exact h
      have ho : f (covS p xs[k]) (covS q xs[k]) = some ([],4):=by rw [hf,qnl kind hp n,Q1 hc]
      simp only [q5h,dlt c,Q5,i1,K3 c,qn,show idx [p,q] 0 = some p from rfl,show idx [p,q] 1 = some q from rfl,rj4,rj5,r,u,ho,show ((4 : Int) != 0) = true from rfl,Q5])
    (fun _=>by
      have : decide (((steps.length + 1 : Nat) : Int) < (xs.length : Int)) = false:=Qs q6
      simp only [List.take_length,q5h,this,Q4])
  have ag : ((((0 + 1 : Nat) : Int),(Qv putR Qt (steps.take 0)).sec,((Qv putR Qt (steps.take 0)).done.length : Int),(Qv putR Qt (steps.take 0)).hi,(Qv putR Qt (steps.take 0)).flat putR) : Int × List ql × Int × Int × List qf) = (1,[],0,0,[]):=rfl;rw [ag] at main;rcases main with ⟨_,y⟩ | ⟨j,s,g,y⟩
  · rw [y];simp only [qn];by_cases z : 400 < ((Qv putR Qt steps).flat putR).length
    · rw [Qr (by omega : (((Qv putR Qt steps).flat putR).length : Int) > 400),Q1 z];rfl
    · rw [Qs (by omega : ¬ (((Qv putR Qt steps).flat putR).length : Int) > 400),Q2 z];rfl
  · rw [y];have an : j < xs.length:=by omega
    have h5 : 400 < (secJ kind p q xs[j]).length:=by
      refine Nat.lt_of_not_le fun h=>g fun t v=>?_;rw [List.getElem?_eq_getElem s,w j s] at v;cases v;exact h
    have h6:=o xs[j];have z : 400 < ((Qv putR Qt steps).flat putR).length:=Nat.lt_of_lt_of_le h5 h6;rw [Q1 z];rfl
theorem qzv (p q : List qf) : q7f p q = some (jR 3 p q):=by
  unfold q7f;rw [q102 3 _ (fun a b=>qvb a b)];rfl
end Go.Sh
namespace Go.Sh
open Go Go.Am
theorem qkm {l : List qf} (h : ∀ r∈l,vlo (ysp r)) (x : Int) : ∀ t∈covS l x,vlo t:=by
  intro t b;obtain ⟨r,a,_,rfl⟩:=q9y.1 b;exact h r a
theorem ql2 (l : List qf) (x c : Int) : evo (covS l x) c = l.flatMap fun r=>if covR x r = true then [({at_:=r.Y0,kind_:=c,by_:=1} : qu),{at_:=r.Y1,kind_:=c,by_:=-1}] else []:=by
  induction l with
  | nil=>rfl
  | cons r l ih=>
    have e : covS (r::l) x = (if covR x r = true then [ysp r] else []) ++ covS l x:=rfl;have d : ∀ a b : List ql,evo (a ++ b) c = evo a c ++ evo b c:=fun a b=>by unfold evo;rw [List.flatMap_append]
    rw [e,d,ih,List.flatMap_cons];congr 1;split <;> rfl
theorem qju {l : List qf} (n : l.length≤1000) {b : List Int} {a : Int × Int × Int × List ql × Int × List qf} {x : Int} (j : idx b (w64 (a.1 - 1)) = some x) (c : Int) (base : List qu) (hb : base.length≤10000) :
    loop (q4m l b a (c,base)) (0,base) = some (base ++ evo (covS l x) c):=by
  rw [ql2];refine J0 l q6 (fun r=>if covR x r = true then [({at_:=r.Y0,kind_:=c,by_:=1} : qu),{at_:=r.Y1,kind_:=c,by_:=-1}] else []) base (fun o=>o) (q4m l b a (c,base)) (fun k g o h=>?_) (fun o=>by simp only [q4m,dnl,Q4])
  have m : o.length≤base.length + 2 * k:=by
    rw [h,List.length_append];have d:=qdq (covS (l.take k) x) c;rw [ql2] at d;have f:=Jf (l.take k) x;rw [List.length_take,Nat.min_eq_left q6] at f;omega
  simp only [q4m,dlt g,Q5,K3 g,qn,w64s g q6,j];by_cases d : l[k].X0≤x
  · by_cases f : x < l[k].X1
    · simp only [d,f,decide_true,Q5,qn,covR,Bool.and_self,if_true];rw [Y3 (by simp;omega)];rfl
    · simp only [d,f,decide_true,decide_false,Q5,Q4,qn,covR,Bool.and_false,if_false,Bool.false_eq_true,List.append_nil]
  · simp only [d,decide_false,Q4,qn,covR,Bool.false_and,if_false,Bool.false_eq_true,List.append_nil]
theorem qrk {p q : List qf} (h : p.length + q.length≤490) {b : List Int} {a : Int × Int × Int × List ql × Int × List qf} {x : Int} (c : idx b (w64 (a.1 - 1)) = some x) :
    loop (q2a p q b a) (0,[]) = some (evo (covS p x) 0 ++ evo (covS q x) 1):=by
  have k:=qdq (covS p x) 0;have m:=Jf p x;have j : idxA 2 [p,q] 0 = some p:=rfl;have d : idxA 2 [p,q] 1 = some q:=rfl
  have s0 : q2a p q b a (0,[]) = some (.inl (1,evo (covS p x) 0)):=by
    have t : decide ((0 : Int) < 2) = true:=rfl;simp only [q2a,t,Q5,j,qn,qju (l:=p) q6 c 0 [] qg,List.nil_append];rfl
  have g : q2a p q b a (1,evo (covS p x) 0) = some (.inl (2,evo (covS p x) 0 ++ evo (covS q x) 1)):=by
    have t : decide ((1 : Int) < 2) = true:=rfl;simp only [q2a,t,Q5,d,qn,qju (l:=q) q6 c 1 (evo (covS p x) 0) q6];rfl
  have f : q2a p q b a (2,evo (covS p x) 0 ++ evo (covS q x) 1) = some (.inr (evo (covS p x) 0 ++ evo (covS q x) 1)):=by
    have t : decide ((2 : Int) < 2) = false:=rfl;simp only [q2a,t,Q4]
  rw [Kn s0,Kn g,Km f]
theorem qrl {p q : List qf} (h : p.length + q.length≤490) (b : ∀ r∈p,vlo (ysp r)) (c : ∀ r∈q,vlo (ysp r)) (x : Int) :
    ∃ ys,q6t (evo (covS p x) 0 ++ evo (covS q x) 1) = some (ys,secJ 3 p q x):=by
  have g:=Jf p x;have f:=Jf q x;obtain ⟨ys,out,e,d,hp,_⟩:=qy8 (p:=covS p x) (q:=covS q x) q6 q6 (qkm b x) (qkm c x);refine ⟨ys,?_⟩;rw [e];have a:=qib 3 (p:=p) (q:=q) q6 x;rw [q35 d a.can fun y=>by rw [hp,a.pts,qh2]]
theorem qri {p q : List qf} (h : p.length + q.length≤490) :
    ((loop (q29 p q) (0,[])).bind fun c=>(Jm c).bind fun b=>(K5 b.length c.length).bind fun m=>(Uz b).bind fun a=>(K5 a.2.length b.length).bind fun n=>(Jn a.2.length a.1).bind fun g=>some ((a.2.drop a.1.1).take a.1.2)) = some (K6 (xsOf p ++ xsOf q)):=by
  have j : ∀ (l : List qf) (o : List Int),l.length≤490→o.length≤10000→loop (q4k l) (0,o) = some (o ++ xsOf l):=fun l o hl y=>
    J0 l q6 (fun r=>[r.X0,r.X1]) o (fun o=>o) (q4k l) (fun k d x f=>by
      have z : x.length = o.length + 2 * k:=by
        rw [f,List.length_append];have:=J7 (l.take k);rw [List.length_take,Nat.min_eq_left q6] at this;unfold xsOf at this;omega
      simp only [q4k,dlt d,Q5,K3 d,qn,w64s d q6];rw [Y3 (by simp;omega)]
      rfl) (fun o=>by simp only [q4k,dnl,Q4])
  have l1:=J7 p;have l2:=J7 q;have u : idxA 2 [p,q] 0 = some p:=rfl;have v : idxA 2 [p,q] 1 = some q:=rfl
  have s0 : q29 p q (0,[]) = some (.inl (1,xsOf p)):=by
    have t : decide ((0 : Int) < 2) = true:=rfl;simp only [q29,t,Q5,u,qn,j p [] q6 qg,List.nil_append];rfl
  have w : q29 p q (1,xsOf p) = some (.inl (2,xsOf p ++ xsOf q)):=by
    have t : decide ((1 : Int) < 2) = true:=rfl;simp only [q29,t,Q5,v,qn,j q (xsOf p) q6 q6];rfl
  have s : q29 p q (2,xsOf p ++ xsOf q) = some (.inr (xsOf p ++ xsOf q)):=by
    have t : decide ((2 : Int) < 2) = false:=rfl;simp only [q29,t,Q4]
  rw [Kn s0,Kn w,Km s];exact qfd _ (by simp;omega)
theorem qr9 (s : Mg ql qf) (i a b : Int) (ys : List qu) (c : List ql) (hl : (s.flat putR).length + c.length≤1000000) :
    ((cond (s.hi == a) (some (decide ((c.length : Int) > 0))) (some false)).bind fun m=>(cond m ((q3r s.sec c).bind fun l=>some l) (some false)).bind fun f=>cond f ((loop (q4n b) ((s.done.length : Int),s.flat putR)).bind fun g=>some (s.lo,s.sec,(s.done.length : Int),g)) ((loop (q4o (ys,c) a b (i,s.lo,s.hi,s.sec,(s.done.length : Int),s.flat putR)) (0,s.flat putR)).bind fun y=>some y)) =
      some ((addM putR s a b c).lo,(addM putR s a b c).sec,((addM putR s a b c).done.length : Int),(addM putR s a b c).flat putR):=by
  have d : s.sec.length≤1000000:=by have : (s.flat putR).length = s.done.length + s.sec.length:=(by simp [Mg.flat]);omega
  rcases q15 putR s a b c with ⟨w,x,h3,t⟩ | ⟨w,t⟩
  · have hb : decide ((c.length : Int) > 0) = true:=Qr (by have:=List.length_pos_iff.2 w;omega);have he : (s.hi == a) = true:=by simpa using h3
    rw [x] at hb;rw [t,x];simp only [hb,Q5,he,qn,qdp _ _ d,decide_true]
    have:=q6g (fun v : qf=>({X0:=v.X0,Y0:=v.Y0,X1:=b,Y1:=v.Y1} : qf)) s.done (s.sec.map (putR s.lo s.hi)) (by have : (s.done ++ s.sec.map (putR s.lo s.hi)).length = (s.flat putR).length:=rfl;omega) (q4n b) (fun k o j z=>by
      have q : (s.done ++ s.sec.map (putR s.lo s.hi)).length = (s.flat putR).length:=rfl
      simp only [q4n,dlt j,Q5,K3 j,qn,w64s j q6,Int.toNat_natCast]) (fun o=>by simp only [q4n,dnl,Q4])
    rw [show s.flat putR = s.done ++ s.sec.map (putR s.lo s.hi) from rfl,this];simp only [qn,Mg.flat,List.map_map];rfl
  · rw [t]
    have hc : ((cond (s.hi == a) (some (decide ((c.length : Int) > 0))) (some false)).bind fun p=>(cond p ((q3r s.sec c).bind fun n=>some n) (some false))) = some false:=by
      by_cases q : c = []
      · subst q;cases (s.hi == a) <;> rfl
      · have hb : decide ((c.length : Int) > 0) = true:=Qr (by have:=List.length_pos_iff.2 q;omega);simp only [hb,qn,qdp _ _ d];by_cases r : s.hi = a
        · have h7 : s.sec≠c:=fun h=>w ⟨q,h.symm,r⟩;simp [r,h7]
        · have : (s.hi == a) = false:=by simpa using r
          simp [this]
    have u:=q3f c (putR a b) (s.flat putR) (fun o=>(a,c,((s.flat putR).length : Int),o)) (q4o (ys,c) a b (i,s.lo,s.hi,s.sec,(s.done.length : Int),s.flat putR)) (fun k j o z=>by
      simp only [q4o,dlt j,Q5,K3 j,qn,w64s j q6];rw [Y3 (by simp;omega)]
      rfl) (fun o=>by simp only [q4o,dnl,Q4])
    rw [← Option.bind_assoc,hc];simp only [qn,Q4,u];simp [Mg.flat]
theorem qrj {p q : List qf} (h : p.length + q.length≤490) (z : ∀ r∈p,vlo (ysp r)) (y : ∀ r∈q,vlo (ysp r)) :
    qa4 p q = some (if 400 < (mrgR 3 p q).length then ([],4) else (mrgR 3 p q,0)):=by
  unfold qa4;rw [qri h];simp only [qn];obtain ⟨_,aa,j⟩:=q9d h;have d:=fun i=>qhm 3 h i
  have c : loop (q4l (K6 (xsOf p ++ xsOf q)) p q) (1,0,0,[],0,[]) = some (mrgR 3 p q):=by
    unfold mrgR mrg;generalize x : K6 (xsOf p ++ xsOf q) = cuts at d j ⊢;generalize g : Yt cuts (secJ 3 p q) = steps at d ⊢;have w : steps.length = cuts.length - 1:=by rw [← g];exact q64 _ _
    have l : Qv putR Qt (steps.take steps.length) = Qv putR Qt steps:=by rw [List.take_length]
    have key:=Z6 (f:=q4l cuts p q) (fun k=>(((k + 1 : Nat) : Int),(Qv putR Qt (steps.take k)).lo,(Qv putR Qt (steps.take k)).hi,(Qv putR Qt (steps.take k)).sec,((Qv putR Qt (steps.take k)).done.length : Int),(Qv putR Qt (steps.take k)).flat putR))
      steps.length ((Qv putR Qt steps).flat putR) (fun k n=>by
        have b : k + 1 < cuts.length:=by omega
        have v : steps[k] = (cuts[k],cuts[k + 1],secJ 3 p q cuts[k]):=by
          subst g;exact q63 n b
        have t : idx cuts (w64 (((k + 1 : Nat) : Int) - 1)) = some cuts[k]:=by rw [Qm q6];exact Zu q6 q6
        have u:=qey 3 (p:=p) (q:=q) q6 cuts[k];have s:=d k;obtain ⟨ys,m⟩:=qrl h z y cuts[k];have hb:=qr9 (Qv putR Qt (steps.take k)) ((k + 1 : Nat) : Int) cuts[k] cuts[k + 1] ys (secJ 3 p q cuts[k]) q6;rw [q2m putR n,v,qfp];unfold q4l;simp only [dlt b,Q5,qrk h (a:=(((k + 1 : Nat) : Int),(Qv putR Qt (steps.take k)).lo,(Qv putR Qt (steps.take k)).hi,(Qv putR Qt (steps.take k)).sec,((Qv putR Qt (steps.take k)).done.length : Int),(Qv putR Qt (steps.take k)).flat putR)) t,qn,t,K3 b,m,hb]
        rw [w64s b q6]) (by
        rw [l];have : decide (((steps.length + 1 : Nat) : Int) < (cuts.length : Int)) = false:=Qs q6
        simp only [q4l,this,Q4]) (Nat.zero_le _)
    exact key
  rw [c];simp only [qn];by_cases o : 400 < (mrgR 3 p q).length
  · rw [Qr (by omega : ((mrgR 3 p q).length : Int) > 400),Q1 o];rfl
  · rw [Qs (by omega : ¬ ((mrgR 3 p q).length : Int) > 400),Q2 o];rfl
end Go.Sh
namespace Go.Sh
open Go Go.Am
theorem q15e (v : Q0) : q8y v = some (decide ((-1000000≤v.X∧-1000000≤v.Y∧-1000000≤v.Z)∧v.X≤1000000∧v.Y≤1000000∧v.Z≤1000000)):=by
  unfold q8y;by_cases a : min (min v.X v.Y) v.Z ≥ -1000000
  · by_cases b : max (max v.X v.Y) v.Z≤1000000
    · rw [Qr a,Qr b,Q5,qn];congr 1;exact (Qr q6).symm
    · rw [Qr a,Qs b,Q5,qn];congr 1;exact (Qs q6).symm
  · rw [Qs a,Q4,qn];congr 1;exact (Qs q6).symm
theorem q15h (b : qk) : qcr b = some (decide (vB b)):=by
  unfold qcr vB;simp only [q15e,qn];by_cases a : b.Lo.X < b.Hi.X
  · by_cases c : b.Lo.Y < b.Hi.Y
    · by_cases d : b.Lo.Z < b.Hi.Z
      · simp only [a,c,d,decide_true,Q5,qn,true_and];by_cases f : (-1000000≤b.Lo.X∧-1000000≤b.Lo.Y∧-1000000≤b.Lo.Z)∧b.Lo.X≤1000000∧b.Lo.Y≤1000000∧b.Lo.Z≤1000000
        · rw [Qr f];simp only [Q5,qn];congr 1;exact decide_eq_decide.2 q6
        · rw [Qs f];simp only [Q4,qn];congr 1;exact (Qs q6).symm
      · simp [a,c,d]
    · simp [a,c]
  · simp [a]
theorem qyx (v : Q0) (n : Int) : q71 v n = some (decide ((n≤v.X∧n≤v.Y∧n≤v.Z)∧v.X≤1000000∧v.Y≤1000000∧v.Z≤1000000)):=by
  unfold q71
  by_cases d : v.X ≥ n <;> by_cases b : v.Y ≥ n <;> by_cases g : v.Z ≥ n <;> by_cases c : v.X≤1000000 <;> by_cases f : v.Y≤1000000 <;> by_cases a : v.Z≤1000000 <;>
    simp [d,b,g,c,f,a] <;> omega
theorem qz5 (b : qk) : qah b = some (decide (vB b)):=by
  unfold qah vB;simp only [qyx,qn];by_cases a : (-1000000≤b.Lo.X∧-1000000≤b.Lo.Y∧-1000000≤b.Lo.Z)∧b.Lo.X≤1000000∧b.Lo.Y≤1000000∧b.Lo.Z≤1000000
  · rw [Qr a];simp only [Q5,qn];by_cases c : (-1000000≤b.Hi.X∧-1000000≤b.Hi.Y∧-1000000≤b.Hi.Z)∧b.Hi.X≤1000000∧b.Hi.Y≤1000000∧b.Hi.Z≤1000000
    · rw [Qr c];by_cases f : b.Lo.X < b.Hi.X <;> by_cases d : b.Lo.Y < b.Hi.Y <;> by_cases g : b.Lo.Z < b.Hi.Z <;> simp [f,d,g] <;> omega
    · rw [Qs c];simp only [Q4,qn];congr 1;exact (Qs q6).symm
  · rw [Qs a];simp only [Q4,qn];congr 1;exact (Qs q6).symm
theorem q15d (l : List qk) (f : l.length≤1000000) : q5l l (fun a=>q3v a) = some (decide (¬ ∀ r∈l,vB r)):=by
  have hs : ∀ (k : Nat) (h : k < l.length),q2e l (fun a=>q3v a) (k : Int) = some (if (fun r=>!decide (vB r)) l[k] = true then .inr (.inr (k : Int)) else .inl ((k + 1 : Nat) : Int)):=by
    intro k h;simp only [q2e,dlt h,Q5,K3 h,qn,w64s h f,q3v,q15h];by_cases d : vB l[k] <;> simp [d]
  have hd : q2e l (fun a=>q3v a) (l.length : Int) = some (.inr (.inl ())):=by simp only [q2e,dnl,Q4]
  unfold q5l qb2;rcases q1u l (fun r=>!decide (vB r)) (fun k _=>(k : Int)) () _ hs hd with ⟨j,b⟩ | ⟨k,c,m,_,b⟩
  · rw [b];have : ∀ r∈l,vB r:=fun r g=>by simpa using j r g
    simp [];omega
  · rw [b];have : ¬ ∀ r∈l,vB r:=fun h=>by simp [h _ (Kf c)] at m
    simp only [qn];rw [Qr this,Qr q6]
theorem qpk (s : Mg qf qk) (a b : Int) (c : List qf) (hl : (s.flat putB).length + c.length≤1000000) :
    q8v (s.flat putB) s.sec (s.done.length : Int) s.hi a b c = some ((addM putB s a b c).sec,((addM putB s a b c).done.length : Int),(addM putB s a b c).hi,(addM putB s a b c).flat putB):=by
  have w : (s.flat putB).length = s.done.length + s.sec.length:=by simp [Mg.flat]
  have d : s.sec.length≤1000000:=by omega
  unfold q8v;rcases q15 putB s a b c with ⟨p,r,x,m⟩ | ⟨p,m⟩
  · have hb : decide ((c.length : Int) > 0) = true:=Qr (by have:=List.length_pos_iff.2 p;omega);have y : (s.hi == a) = true:=by simpa using x
    rw [r] at hb;rw [m,r];simp only [hb,Q5,y,qn,q6e _ _ d,decide_true]
    have:=q6g (fun v : qk=>({Lo:=v.Lo,Hi:=({X:=v.Hi.X,Y:=v.Hi.Y,Z:=b} : Q0)} : qk)) s.done (s.sec.map (putB s.lo s.hi)) (by simp;omega) (q8w b) (fun k o f u=>by
      have l : (s.done ++ s.sec.map (putB s.lo s.hi)).length = (s.flat putB).length:=rfl
      simp only [q8w,dlt f,Q5,K3 f,qn,w64s f q6,Int.toNat_natCast]) (fun o=>by simp only [q8w,dnl,Q4])
    rw [show s.flat putB = s.done ++ s.sec.map (putB s.lo s.hi) from rfl,this];simp only [qn,Mg.flat,List.map_map];rfl
  · rw [m]
    have z : ((cond (decide ((c.length : Int) > 0)) (some (s.hi == a)) (some false)).bind fun g=>(cond g ((q2c s.sec c).bind fun j=>some j) (some false))) = some false:=by
      by_cases l : c = []
      · subst l;simp
      · have hb : decide ((c.length : Int) > 0) = true:=Qr (by have:=List.length_pos_iff.2 l;omega);simp only [hb,Q5,qn,q6e _ _ d];by_cases q : s.hi = a
        · have t : s.sec≠c:=fun h=>p ⟨l,h.symm,q⟩;simp [q,t]
        · have : (s.hi == a) = false:=by simpa using q
          simp [this]
    have n:=q3f c (putB a b) (s.flat putB) (fun o=>(c,((s.flat putB).length : Int),b,o)) (q8x c a b (s.flat putB)) (fun k f o u=>by
      simp only [q8x,dlt f,Q5,K3 f,qn,w64s f q6];rw [Y3 (by simp;omega)]
      rfl) (fun o=>by simp only [q8x,dnl,Q4])
    rw [← Option.bind_assoc,z];simp only [qn,Q4,n];simp [Mg.flat]
theorem qj7 (l : List qk) (o : List Int) (g : l.length≤400) (d : o.length≤10000) : loop (q30 l) (0,o) = some (o ++ zsOf l):=
  J0 l q6 (fun r=>[r.Lo.Z,r.Hi.Z]) o (fun o=>o) (q30 l) (fun k a c b=>by
    have f : c.length = o.length + 2 * k:=by
      rw [b,List.length_append];have:=J8 (l.take k);rw [List.length_take,Nat.min_eq_left q6] at this;unfold zsOf at this;omega
    simp only [q30,dlt a,Q5,K3 a,qn,w64s a q6]
    rw [Y3 (by simp;omega)]
    rfl) (fun o=>by simp only [q30,dnl,Q4])
theorem q44 (l : List qk) (g : l.length≤400) (x : Int) : loop (q2g l x) (0,[]) = some (atB l x):=by
  have:=J0 l q6 (fun r=>if covB x r = true then [U8 r] else []) [] (fun o=>o) (q2g l x) (fun k a o d=>by
    have f : o.length≤k:=by rw [d,List.nil_append];have:=Jb (l.take k) x;rw [List.length_take,Nat.min_eq_left q6] at this;exact this
    simp only [q2g,dlt a,Q5,K3 a,qn,w64s a q6];by_cases b : l[k].Lo.Z≤x
    · by_cases c : x < l[k].Hi.Z
      · simp only [b,c,decide_true,Q5,qn,covB,Bool.and_self,if_true];rw [Y3 (by simp;omega)];rfl
      · simp only [b,c,decide_true,decide_false,Q5,Q4,qn,covB,Bool.and_false,if_false,Bool.false_eq_true,List.append_nil]
    · simp only [b,decide_false,Q4,qn,covB,Bool.false_and,if_false,Bool.false_eq_true,List.append_nil]) (fun o=>by simp only [q2g,dnl,Q4])
  rw [List.nil_append] at this;exact this
theorem qp5 {kind : Int} {p q : List qk} {xs : List Int} (ab : K6 (zsOf p ++ zsOf q) = xs) (h : p.length + q.length≤800) (F : Int × List qf × Int × Int × List qk→Option ((Int × List qf × Int × Int × List qk) ⊕ ((List qf × Int × Int × List qk) ⊕ (List qk × Int))))
    (af : ∀ (a b : Int) (k : Nat) (s : Mg qf qk),(s.flat putB).length + 400≤1000000→(h1 : k + 1 < xs.length)→a = xs[k]'(q6)→b = xs[k + 1]'h1→(secB kind p q a).length≤400→
      F (((k + 1 : Nat) : Int),s.sec,(s.done.length : Int),s.hi,s.flat putB) = some (.inl (((k + 1 + 1 : Nat) : Int),(addM putB s a b (secB kind p q a)).sec,((addM putB s a b (secB kind p q a)).done.length : Int),(addM putB s a b (secB kind p q a)).hi,(addM putB s a b (secB kind p q a)).flat putB)))
    (y : ∀ (a : Int) (k : Nat) (s : Mg qf qk),(h1 : k + 1 < xs.length)→a = xs[k]'(q6)→400 < (secB kind p q a).length→
      F (((k + 1 : Nat) : Int),s.sec,(s.done.length : Int),s.hi,s.flat putB) = some (.inr (.inr ([],4))))
    (w : ∀ (k : Nat) (s : Mg qf qk),xs.length≤k + 1→F (((k + 1 : Nat) : Int),s.sec,(s.done.length : Int),s.hi,s.flat putB) = some (.inr (.inl (s.sec,(s.done.length : Int),s.hi,s.flat putB)))) :
    (∃ a b c,loop F (1,[],0,0,[]) = some (.inl (a,b,c,mrgB kind p q)))∨(400 < (mrgB kind p q).length∧loop F (1,[],0,0,[]) = some (.inr ([],4))):=by
  have ao:=J8 p;have ai:=J8 q;obtain ⟨_,aa,d⟩:=Ui (l:=zsOf p ++ zsOf q) (by simp;omega);have d : (K6 (zsOf p ++ zsOf q)).length≤1600:=by simp at d;omega
  have m : ∀ x,(secB kind p q x).length≤(mrgB kind p q).length:=fun x=>qov kind q6 x;have ag : mrgB kind p q = (Qv putB Qt (Yt (K6 (zsOf p ++ zsOf q)) (secB kind p q))).flat putB:=rfl;rw [ag] at m ⊢;rw [ab] at aa d m ⊢;generalize z : Yt xs (secB kind p q) = steps at m ⊢;have al : steps.length = xs.length - 1:=by rw [← z];exact q64 _ _
  have u : ∀ k (g : k < steps.length),steps[k] = (xs[k]'(q6),xs[k + 1]'(q6),secB kind p q (xs[k]'(q6))):=fun k g=>by subst z;exact q63 g q6
  have ae : ∀ k,k≤steps.length→(∀ j,j < k→∀ t,steps[j]? = some t→t.2.2.length≤400)→((Qv putB Qt (steps.take k)).flat putB).length≤1600 * 400:=fun k g n=>by
    have h1:=q9l putB (s0:=Qt) (M:=400) (steps:=steps.take k) (fun t o=>by
      obtain ⟨i,hi,rfl⟩:=List.getElem_of_mem o;rw [List.length_take] at hi;rw [List.getElem_take]
      exact n i q6 _ (List.getElem?_eq_getElem q6))
    have v : (steps.take k).length≤1600:=by rw [List.length_take];omega
    have h3 : (Qt.flat putB : List qk).length = 0:=rfl;have h4 : (steps.take k).length * 400≤1600 * 400:=Nat.mul_le_mul_right _ v;omega
  have main:=qh9 (f:=F) (fun k=>(((k + 1 : Nat) : Int),(Qv putB Qt (steps.take k)).sec,((Qv putB Qt (steps.take k)).done.length : Int),(Qv putB Qt (steps.take k)).hi,(Qv putB Qt (steps.take k)).flat putB))
    steps.length (fun j=>∀ t,steps[j]? = some t→t.2.2.length≤400) (.inl ((Qv putB Qt steps).sec,((Qv putB Qt steps).done.length : Int),(Qv putB Qt steps).hi,(Qv putB Qt steps).flat putB)) (.inr ([],4))
    (fun k g n=>by
      have r : k + 1 < xs.length:=by omega
      have hc:=n k (Nat.le_refl _) _ (List.getElem?_eq_getElem g);have hm:=ae k q6 fun j ak=>n j q6;rw [q2m putB g,u k g] at *;simp only at hc
      exact af _ _ k (Qv putB Qt (steps.take k)) q6 r rfl rfl hc)
    (fun k g n hb=>by
      have r : k + 1 < xs.length:=by omega
      have am : k < xs.length:=by omega
      refine y _ k (Qv putB Qt (steps.take k)) r rfl ?_;refine Nat.lt_of_not_le fun h=>hb fun t o=>?_;rw [List.getElem?_eq_getElem g,u k g] at o
      cases o;exact h)
    (fun _=>by
      rw [List.take_length]
      exact w steps.length _ q6)
  have ad : ((((0 + 1 : Nat) : Int),(Qv putB Qt (steps.take 0)).sec,((Qv putB Qt (steps.take 0)).done.length : Int),(Qv putB Qt (steps.take 0)).hi,(Qv putB Qt (steps.take 0)).flat putB) : Int × List qf × Int × Int × List qk) = (1,[],0,0,[]):=rfl;rw [ad] at main;rcases main with ⟨_,v⟩ | ⟨j,n,hb,v⟩
  · exact .inl ⟨_,_,_,v⟩
  · refine .inr ⟨?_,v⟩;have aj : j < xs.length:=by omega
    have h5 : 400 < (secB kind p q xs[j]).length:=by
      refine Nat.lt_of_not_le fun h=>hb fun t o=>?_;rw [List.getElem?_eq_getElem n,u j n] at o;cases o;exact h
    exact Nat.lt_of_lt_of_le h5 (m xs[j])
theorem q10h (l : List qk) (m : l.length≤400) (w : ∀ b∈l,vB b) : qct l = some (if 400 < (mrgB 2 l []).length then ([],4) else (mrgB 2 l [],0)):=by
  unfold qct;have y:=J8 l;simp only [show idx [l] 0 = some l from rfl,qn,qj7 l [] m qg,List.nil_append];rw [qfd _ q6];simp only [qn];have t : zsOf l = zsOf l ++ zsOf []:=by simp [zsOf]
  obtain ⟨_,x,d⟩:=Ui (l:=zsOf l ++ zsOf []) (by rw [← t];omega);have d : (K6 (zsOf l ++ zsOf [])).length≤800:=by rw [← t] at d ⊢;omega
  have g : ∀ z,q2w (atB l z) = some (if 400 < (secB 2 l [] z).length then ([],4) else (secB 2 l [] z,0)):=fun z=>by
    have:=Jb l z;rw [qod,mkR,Q2 q6,Q1 (qqa w z)];rfl
  rw [t]
  have:=qp5 (kind:=2) (p:=l) (q:=[]) rfl (by simp;omega) (q60 (K6 (zsOf l ++ zsOf [])) l)
    (fun a b k s hs f r hb u=>by
      have h0 : k < (K6 (zsOf l ++ zsOf [])).length:=by omega
      have o : idx (K6 (zsOf l ++ zsOf [])) (w64 (((k + 1 : Nat) : Int) - 1)) = some a:=by rw [Qm q6,r];exact Zu q6 q6
      have v : idx (K6 (zsOf l ++ zsOf [])) ((k + 1 : Nat) : Int) = some b:=by rw [hb];exact K3 f
      have h:=g a;rw [Q2 q6] at h;simp only [q60,dlt f,Q5,o,v,qn,show idx [l] 0 = some l from rfl,q44 l m,h,show ((0 : Int) != 0) = false from rfl,Q4,qpk s a b (secB 2 l [] a) q6]
      rw [w64s f q6])
    (fun a k s f r u=>by
      have o : idx (K6 (zsOf l ++ zsOf [])) (w64 (((k + 1 : Nat) : Int) - 1)) = some a:=by rw [Qm q6,r];exact Zu q6 q6
      have h:=g a;rw [Q1 u] at h
      simp only [q60,dlt f,Q5,o,K3 f,qn,show idx [l] 0 = some l from rfl,q44 l m,h,show ((4 : Int) != 0) = true from rfl])
    (fun k s f=>by
      have : decide (((k + 1 : Nat) : Int) < ((K6 (zsOf l ++ zsOf [])).length : Int)) = false:=Qs q6
      simp only [q60,this,Q4])
  rcases this with ⟨a,b,c,n⟩ | ⟨j,n⟩
  · rw [n];simp only [qn];by_cases j : 400 < (mrgB 2 l []).length
    · rw [Qr (by omega : ((mrgB 2 l []).length : Int) > 400),Q1 j];rfl
    · rw [Qs (by omega : ¬ ((mrgB 2 l []).length : Int) > 400),Q2 j];rfl
  · rw [n,Q1 j];rfl
theorem qt7 (p q : List qk) (a : p.length≤1000000) : qf3 p q = some (decide (p = q)):=sameBox p q a
theorem qcm (l : List qk) : q2f l = some (Kh l):=by
  unfold q2f Kh;by_cases d : 400 < l.length
  · rw [Qr (by omega : (l.length : Int) > 400),Q5,Q1 d]
  rw [Qs (by omega : ¬ (l.length : Int) > 400),Q4,Q2 d,q15d l q6,qn];by_cases a : ∀ r∈l,vB r
  · rw [Qs (fun h=>h a),Q4,q10h l q6 a,Q1 a,qn];by_cases b : 400 < (mrgB 2 l []).length
    · have c : mrgB 2 l []≠l:=fun h=>by rw [h] at b;exact d b
      rw [Q1 b,Q2 c];rfl
    · rw [Q2 b];simp only [qt7 (mrgB 2 l []) l q6];by_cases f : mrgB 2 l [] = l <;> simp [f]
  · rw [Qr a,Q5,Q2 a]
end Go.Sh
namespace Go.Sh
open Go Go.Am
theorem sj1 : qf9 = q30:=rfl
theorem sj2 : qfa = q30:=rfl
theorem sj4 : qfb = q2g:=rfl
theorem sj5 : qfc = q2g:=rfl
theorem q98 {p : List qk} (h : Kh p = 0) (z : Int) : Kr (atB p z) = 0:=by
  obtain ⟨c,b,a⟩:=J1.1 h;have:=Jb p z;exact q2j.2 ⟨q6,qqa b z,a.at z⟩
theorem qec {p : List qk} (h : Kh p = 0) (z : Int) : q2w (atB p z) = some (atB p z,0):=by
  obtain ⟨c,b,a⟩:=q2j.1 (q98 h z);rw [qod,mkR,Q2 q6,Q1 b,qn3 q6 a,Q2 q6]
theorem q10i (kind : Int) (g : List qf→List qf→Option (List qf × Int)) (hg : ∀ a b,g a b = some (jR kind a b)) (p q : List qk) (hp : Kh p = 0) (j : Kh q = 0) :
    qcs g p q = some (if 400 < (mrgB kind p q).length then ([],4) else (mrgB kind p q,0)):=by
  obtain ⟨r,vp,cp⟩:=J1.1 hp;obtain ⟨o,vq,cq⟩:=J1.1 j;unfold qcs;have ab:=J8 p;have x:=J8 q;simp only [show idx [p,q] 0 = some p from rfl,show idx [p,q] 1 = some q from rfl,qn,sj1,sj2,qj7 p [] r qg,List.nil_append,qj7 q (zsOf p) o q6];rw [qfd _ (by simp;omega)];simp only [qn];obtain ⟨_,ac,d⟩:=Ui (l:=zsOf p ++ zsOf q) (by simp;omega);have d : (K6 (zsOf p ++ zsOf q)).length≤1600:=by simp at d;omega
  have w : ∀ z,g (atB p z) (atB q z) = some (if 400 < (secB kind p q z).length then ([],4) else (secB kind p q z,0)):=fun z=>by
    rw [hg,jR,Q2 (by simp [q98 hp z]),Q2 (by simp [q98 j z])];rfl
  have:=qp5 (kind:=kind) (p:=p) (q:=q) rfl q6 (q5z (K6 (zsOf p ++ zsOf q)) p q g)
    (fun a b k s hs f u hb v=>by
      have h0 : k < (K6 (zsOf p ++ zsOf q)).length:=by omega
      have t : idx (K6 (zsOf p ++ zsOf q)) (w64 (((k + 1 : Nat) : Int) - 1)) = some a:=by rw [Qm q6,u];exact Zu q6 q6
      have y : idx (K6 (zsOf p ++ zsOf q)) ((k + 1 : Nat) : Int) = some b:=by rw [hb];exact K3 f
      have h:=w a;rw [Q2 q6] at h;simp only [q5z,dlt f,Q5,t,y,qn,show idx [p,q] 0 = some p from rfl,show idx [p,q] 1 = some q from rfl,sj4,sj5,q44 p r,q44 q o,qec hp,qec j,show ((0 : Int) == 0) = true from rfl,h,show ((0 : Int) != 0) = false from rfl,Q4,qpk s a b (secB kind p q a) q6]
      rw [w64s f q6])
    (fun a k s f u v=>by
      have t : idx (K6 (zsOf p ++ zsOf q)) (w64 (((k + 1 : Nat) : Int) - 1)) = some a:=by rw [Qm q6,u];exact Zu q6 q6
      have h:=w a;rw [Q1 v] at h
      simp only [q5z,dlt f,Q5,t,K3 f,qn,show idx [p,q] 0 = some p from rfl,show idx [p,q] 1 = some q from rfl,sj4,sj5,q44 p r,q44 q o,qec hp,qec j,show ((0 : Int) == 0) = true from rfl,h,show ((4 : Int) != 0) = true from rfl])
    (fun k s f=>by
      have : decide (((k + 1 : Nat) : Int) < ((K6 (zsOf p ++ zsOf q)).length : Int)) = false:=Qs q6
      simp only [q5z,this,Q4])
  rcases this with ⟨a,b,c,n⟩ | ⟨m,n⟩
  · rw [n];simp only [qn];by_cases m : 400 < (mrgB kind p q).length
    · rw [Qr (by omega : ((mrgB kind p q).length : Int) > 400),Q1 m];rfl
    · rw [Qs (by omega : ¬ ((mrgB kind p q).length : Int) > 400),Q2 m];rfl
  · rw [n,Q1 m];rfl
theorem qup (kind : Int) (g : List qf→List qf→Option (List qf × Int)) (d : ∀ a b,g a b = some (jR kind a b)) (p q : List qk) : qcq p q g = some (jB kind p q):=by
  unfold qcq jB;simp only [qcm,qn];by_cases hp : ¬ Kh p = 0
  · rw [Q1 hp];have : (Kh p != 0) = true:=by simpa using hp
    rw [this,Q5]
  replace hp:=Classical.not_not.1 hp;by_cases c : ¬ Kh q = 0
  · rw [Q2 (by simp [hp]),Q1 c,hp];have : (Kh q != 0) = true:=by simpa using c
    rw [this];rfl
  replace c:=Classical.not_not.1 c;rw [Q2 (by simp [hp]),Q2 (by simp [c]),q10i kind g d p q hp c,hp,c];rfl
theorem q158 (p q : List qk) : qco p q = some (jB 3 p q):=by
  unfold qco;rw [qup 3 _ (fun a b=>qzv a b)];rfl
def q68 (kind : Int) (p q : List qk) (z : Int) : Prop:=400 < (secB kind p q z).length∨400 < (secB 2 p [] z).length∨400 < (secB 2 q [] z).length
theorem qur (kind : Int) {p q : List qk} (h : p.length + q.length≤800) (u : ∀ z,(atB p z).length + (atB q z).length≤490) {xs : List Int} (m : xs.length≤1000000) {i : Nat} (hi : i + 1 < xs.length) (hb : q68 kind p q (xs[i]'(q6))) (a : Int) (c : List qf) (o : List qk) :
    q2u xs p q kind (c,a,(i : Int),o) = some (.inr (.inr ([],false))):=by
  have b : i < xs.length:=by omega
  have g : w64 ((i : Int) + 1) = ((i + 1 : Nat) : Int):=w64s b m;have x:=Jb p xs[i];have y:=Jb q xs[i];have v:=u xs[i];have t : Uw p xs[i] = some (atB p xs[i]):=qen p q6 _;have aq : Uw q xs[i] = some (atB q xs[i]):=qen q q6 _;have r : U7 kind (atB p xs[i]) (atB q xs[i]) = some (secB kind p q xs[i]):=q6z kind q6;have l : U7 2 (atB p xs[i]) [] = some (secB 2 p [] xs[i]):=q6z 2 (by simp;omega);have n : U7 2 (atB q xs[i]) [] = some (secB 2 q [] xs[i]):=q6z 2 (by simp;omega);unfold q2u;simp only [g,dlt hi,Q5,K3 b,t,aq,r,l,n,qn];by_cases s : 400 < (secB kind p q xs[i]).length
  · have d : decide (((secB kind p q xs[i]).length : Int) > 400) = true:=Qr q6;simp only [d,Q5,qn]
  have d : decide (((secB kind p q xs[i]).length : Int) > 400) = false:=Qs q6;by_cases k : 400 < (secB 2 p [] xs[i]).length
  · have f : decide (((secB 2 p [] xs[i]).length : Int) > 400) = true:=Qr q6;simp only [d,f,Q5,Q4,qn]
  have f : decide (((secB 2 p [] xs[i]).length : Int) > 400) = false:=Qs q6;have w : 400 < (secB 2 q [] xs[i]).length:=by rcases hb with h | h | h <;> first | exact absurd h s | exact absurd h k | exact h
  have j : decide (((secB 2 q [] xs[i]).length : Int) > 400) = true:=Qr q6;simp only [d,f,j,Q5,Q4,qn]
theorem qz3 (kind : Int) {p q : List qk} (h : p.length + q.length≤800) (hz : ∀ z,(atB p z).length + (atB q z).length≤490) :
    q59 kind p q = some (mrgB kind p q,decide (((mrgB kind p q).length : Int)≤400))∨(q59 kind p q = some ([],false)∧∃ z,q68 kind p q z):=by
  unfold q59;rw [qyz q6];simp only [qn];have ak:=J8 p;have ac:=J8 q;obtain ⟨_,ae,o⟩:=Ui (l:=zsOf p ++ zsOf q) (by simp;omega);have y : (K6 (zsOf p ++ zsOf q)).length≤1600:=by simp at o;omega
  unfold mrgB;generalize K6 (zsOf p ++ zsOf q) = xs at y ⊢;generalize r : Yt xs (secB kind p q) = steps;have ah : steps.length = xs.length - 1:=by rw [← r];exact q64 _ _
  have a : ∀ k (b : k < steps.length),steps[k] = (xs[k]'(q6),xs[k + 1]'(q6),secB kind p q (xs[k]'(q6))):=fun k b=>by subst r;exact q63 b q6
  have w : ∀ k,k≤steps.length→(∀ j,j < k→∀ t,steps[j]? = some t→¬ q68 kind p q t.1)→((Qv putB Qt (steps.take k)).flat putB).length≤1600 * 400:=fun k b d=>by
    have h1:=q9l putB (s0:=Qt) (M:=400) (steps:=steps.take k) (fun t c=>by
      obtain ⟨i,hi,rfl⟩:=List.getElem_of_mem c;rw [List.length_take] at hi;rw [List.getElem_take];have:=d i q6 _ (List.getElem?_eq_getElem q6);rw [a i q6] at this ⊢
      exact Nat.le_of_not_lt fun h=>this (.inl h))
    have n : (steps.take k).length≤1600:=by rw [List.length_take];omega
    have h3 : (Qt.flat putB : List qk).length = 0:=rfl;have h4 : (steps.take k).length * 400≤1600 * 400:=Nat.mul_le_mul_right _ n;omega
  have main:=qh9 (f:=q2u xs p q kind) (fun k=>((Qv putB Qt (steps.take k)).sec,((Qv putB Qt (steps.take k)).done.length : Int),(k : Int),(Qv putB Qt (steps.take k)).flat putB))
    steps.length (fun j=>∀ t,steps[j]? = some t→¬ q68 kind p q t.1) (.inl ((Qv putB Qt steps).flat putB)) (.inr ([],false)) (fun k b d=>by
      have g : k + 1 < xs.length:=by omega
      have u:=d k (Nat.le_refl _) _ (List.getElem?_eq_getElem b);have hm:=w k q6 fun j ag=>d j q6;rw [a k b] at u
      have s : qja kind p q xs[k]:=by
        refine ⟨hz _,?_,?_,?_⟩
        · exact Nat.le_of_not_lt fun h=>u (.inl h)
        · exact Nat.le_of_not_lt fun h=>u (.inr (.inl h))
        · exact Nat.le_of_not_lt fun h=>u (.inr (.inr h))
      have:=qus kind q6 (xs:=xs) q6 g s (Qv putB Qt (steps.take k)) q6 (fun h0=>by subst h0;rfl) (fun ab=>by
        obtain ⟨m,rfl⟩ : ∃ m,k = m + 1:=⟨k - 1,q6⟩
        rw [q2m putB q6,qfp,a m q6])
      rw [this,q2m putB b,a k b])
    (fun k b _ hb=>by
      have g : k + 1 < xs.length:=by omega
      have ai : k < xs.length:=by omega
      refine qur kind h hz q6 g ?_ _ _ _;refine Classical.byContradiction fun x=>hb fun t c=>?_;rw [List.getElem?_eq_getElem b,a k b] at c
      cases c;exact x)
    (fun _=>by
      rw [List.take_length]
      have hb : decide (w64 ((steps.length : Int) + 1) < (xs.length : Int)) = false:=by
        rw [Qm q6];exact Qs q6
      unfold q2u
      simp only [hb,Q4])
  have v : (((Qv putB Qt (steps.take 0)).sec,((Qv putB Qt (steps.take 0)).done.length : Int),((0 : Nat) : Int),(Qv putB Qt (steps.take 0)).flat putB) : List qf × Int × Int × List qk) = ([],0,0,[]):=rfl;rw [v] at main;rcases main with ⟨h1,n⟩ | ⟨j,d,hb,n⟩
  · exact .inl (by rw [n];rfl)
  · refine .inr ⟨by rw [n];rfl,?_⟩;have ad : j < xs.length:=by omega
    refine ⟨xs[j],?_⟩;refine Classical.byContradiction fun x=>hb fun t c=>?_;rw [List.getElem?_eq_getElem d,a j d] at c;cases c;exact x
theorem qr1 {p q : List qk} (h : p.length + q.length≤490) (z : Int) : (atB p z).length + (atB q z).length≤490:=by
  have a:=Jb p z;have b:=Jb q z;omega
theorem q11n (kind : Int) (z : Int) : secB kind [] [] z = []:=qhl kind
theorem qz1 (kind : Int) {p q : List qk} (h : p.length + q.length≤800) (b : ∀ z,(atB p z).length + (atB q z).length≤490) (hs : ∀ z,q68 kind p q z→400 < (mrgB kind p q).length) :
    ∃ o,q59 kind p q = some (o,decide ((mrgB kind p q).length≤400))∧((mrgB kind p q).length≤400→o = mrgB kind p q):=by
  rcases qz3 kind h b with a | ⟨a,z,b⟩
  · refine ⟨_,?_,fun _=>rfl⟩;rw [a];have : decide (((mrgB kind p q).length : Int)≤400) = decide ((mrgB kind p q).length≤400):=decide_eq_decide.2 q6;rw [this]
  · have:=hs z b;refine ⟨[],?_,fun h=>absurd h q6⟩;rw [a,Qs q6]
theorem q11u {l : List qk} (h : l.length≤100000) : ∀ z,q68 2 l [] z→400 < (mrgB 2 l []).length:=by
  intro z a;have b:=qov 2 (p:=l) (q:=[]) (by simpa using h) z;rcases a with a | a | a
  · omega
  · omega
  · rw [q11n] at a;simp at a
theorem qz7 (l : List qk) (_ : l.length≤1000000) {γ : Type} (f : Int→Option (Int ⊕ (Unit ⊕ γ))) (e : γ) (d : ∀ k (h : k < l.length),f (k : Int) = some (if (fun r=>!decide (vB r)) l[k] = true then .inr (.inr e) else .inl ((k + 1 : Nat) : Int))) (hd : f (l.length : Int) = some (.inr (.inl ()))) :
    loop f 0 = some (if ∀ b∈l,vB b then .inl () else .inr e):=by
  rcases q1u l (fun r=>!decide (vB r)) (fun k _=>e) () f d hd with ⟨j,a⟩ | ⟨k,c,m,_,a⟩
  · have : ∀ r∈l,vB r:=fun r g=>by simpa using j r g
    rw [Q1 this];exact a
  · have : ¬ ∀ r∈l,vB r:=fun h=>by simp [h _ (Kf c)] at m
    rw [Q2 this];exact a
theorem qyy (l : List qk) : q73 l = some (Kh l):=by
  unfold q73 Kh;by_cases d : 400 < l.length
  · rw [Qr (by omega : (l.length : Int) > 400),Q5,Q1 d]
  rw [Qs (by omega : ¬ (l.length : Int) > 400),Q4,Q2 d]
  rw [qz7 l q6 (q74 l) 8 (fun k c=>by
    simp only [q74,dlt c,Q5,K3 c,qn,qz5,w64s c q6]
    by_cases a : vB l[k] <;> simp [a]) (by simp only [q74,dnl,Q4])]
  by_cases a : ∀ r∈l,vB r
  · rw [Q1 a,Q1 a];obtain ⟨o,m,g⟩:=qz1 2 (p:=l) (q:=[]) (by simp;omega) (qr1 (by simp;omega)) (q11u q6);simp only [qn,m];by_cases f : 400 < (mrgB 2 l []).length
    · have b : mrgB 2 l []≠l:=fun h=>by rw [h] at f;exact d f
      rw [Qs q6,Q2 b];rfl
    · rw [Qr q6,g q6,sameBox _ l q6];by_cases j : mrgB 2 l [] = l <;> simp [j]
  · rw [Q2 a,Q2 a];rfl
end Go.Sh
namespace Go.Sh
open Go Go.Am
def sumN : Nat→(Int→Int)→Int
  | 0,_=>0
  | n + 1,f=>sumN n f + f n
theorem qpz {f g : Int→Int} : ∀ {n : Nat},sumN n (fun x=>f x + g x) = sumN n f + sumN n g
  | 0=>rfl
  | n + 1=>by rw [sumN,sumN,sumN,qpz (n:=n)];omega
theorem qq2 {c : Int} {f : Int→Int} : ∀ {n : Nat},sumN n (fun x=>c * f x) = c * sumN n f
  | 0=>by simp [sumN]
  | n + 1=>by rw [sumN,sumN,qq2 (n:=n),Int.mul_add]
theorem qq3 : ∀ {n : Nat},sumN n (fun _=>0) = 0
  | 0=>rfl
  | n + 1=>by rw [sumN,qq3 (n:=n)];rfl
theorem qq1 {f g : Int→Int} : ∀ {n : Nat},(∀ k : Nat,k < n→f k≤g k)→sumN n f≤sumN n g
  | 0,_=>Int.le_refl _
  | n + 1,h=>by have:=qq1 (n:=n) fun k a=>h k q6;have:=h n q6;rw [sumN,sumN];omega
noncomputable def ind (p : Prop) : Int:=by classical exact if p then 1 else 0
theorem qe1 {p : Prop} (h : p) : ind p = 1:=by unfold ind;simp [h]
theorem q1k {p : Prop} (h : ¬ p) : ind p = 0:=by unfold ind;simp [h]
theorem q6m {p q : Prop} (h : p↔q) : ind p = ind q:=by rw [propext h]
theorem qmb {p q : Prop} : ind (p∧q) = ind p * ind q:=by
  by_cases hp : p <;> by_cases a : q
  · rw [qe1 ⟨hp,a⟩,qe1 hp,qe1 a];rfl
  · rw [q1k (fun h=>a h.2),q1k a];simp
  · rw [q1k (fun h=>hp h.1),q1k hp];simp
  · rw [q1k (fun h=>hp h.1),q1k hp];simp
theorem quh {p q : Prop} : ind (p∨q) = ind p + ind q - ind (p∧q):=by
  by_cases hp : p <;> by_cases a : q <;> simp [ind,hp,a]
theorem qmc {p : Prop} : 0≤ind p∧ind p≤1:=by by_cases hp : p <;> simp [ind,hp]
theorem qq0 (a b : Int) : ∀ {n : Nat},sumN n (fun x=>ind (a≤x∧x < b)) = max 0 (min b n - max a 0)
  | 0=>by rw [sumN];omega
  | n + 1=>by
    rw [sumN,qq0 a b (n:=n)]
    by_cases h : a≤(n : Int)∧(n : Int) < b
    · rw [qe1 h];omega
    · rw [q1k h];omega
def sumZ (N : Nat) (f : Int→Int) : Int:=sumN (2 * N) fun k=>f (k - N)
theorem q16j {N : Nat} {f g : Int→Int} : sumZ N (fun x=>f x + g x) = sumZ N f + sumZ N g:=qpz
theorem qd4 {N : Nat} {c : Int} {f : Int→Int} : sumZ N (fun x=>c * f x) = c * sumZ N f:=qq2
theorem qq4 {N : Nat} : sumZ N (fun _=>0) = 0:=qq3
theorem qfg {N : Nat} {f g : Int→Int} (h : ∀ x : Int,-(N : Int)≤x→x < N→f x≤g x) : sumZ N f≤sumZ N g:=
  qq1 fun k a=>h _ q6 q6
theorem qiv {N : Nat} {a b : Int} (d : -N≤a) (c : a≤b) (f : b≤N) : sumZ N (fun x=>ind (a≤x∧x < b)) = b - a:=by
  unfold sumZ
  have : (fun k : Int=>ind (a≤k - N∧k - N < b)) = fun k=>ind (a + N≤k∧k < b + N):=by
    funext k;exact q6m ⟨fun h=>q6,fun h=>q6⟩
  simp only [this];rw [qq0];omega
theorem qiw {N : Nat} {f : Int→Int} (h : ∀ x : Int,-(N : Int)≤x→x < N→0≤f x) : 0≤sumZ N f:=by
  rw [← qq4 (N:=N)];exact qfg h
theorem qiu {N : Nat} {c : Int} : sumZ N (fun _=>c) = 2 * N * c:=by
  have : ∀ n : Nat,sumN n (fun _=>c) = n * c:=by
    intro n
    induction n with
    | zero=>simp [sumN]
    | succ n ih=>rw [sumN,ih,Int.natCast_succ,Int.add_mul,Int.one_mul]
  unfold sumZ;rw [this];simp
noncomputable def cnt3 (N : Nat) (P : Int→Int→Int→Prop) : Int:=sumZ N fun x=>sumZ N fun y=>sumZ N fun z=>ind (P x y z)
def sumL {α : Type} (f : α→Int) : List α→Int
  | []=>0
  | a::r=>f a + sumL f r
theorem qpy {α : Type} (f : α→Int) (a b : List α) : sumL f (a ++ b) = sumL f a + sumL f b:=by
  induction a with
  | nil=>simp [sumL]
  | cons x a ih=>rw [List.cons_append,sumL,sumL,ih];omega
theorem q16i {α : Type} {f g : α→Int} {l : List α} (h : ∀ a∈l,f a = g a) : sumL f l = sumL g l:=by
  induction l with
  | nil=>rfl
  | cons a l ih=>rw [sumL,sumL,h a qg,ih fun b hb=>h b (by simp [hb])]
theorem qit {α : Type} {N : Nat} (f : α→Int→Int) (l : List α) : sumL (fun a=>sumZ N (f a)) l = sumZ N fun x=>sumL (fun a=>f a x) l:=by
  induction l with
  | nil=>exact qq4.symm
  | cons a l ih=>
    have : (fun x=>sumL (fun a=>f a x) (a::l)) = fun x=>f a x + (fun x=>sumL (fun a=>f a x) l) x:=rfl;rw [sumL,ih,this,q16j]
def inB (b : qk) (x y z : Int) : Prop:=(b.Lo.X≤x∧x < b.Hi.X)∧(b.Lo.Y≤y∧y < b.Hi.Y)∧(b.Lo.Z≤z∧z < b.Hi.Z)
def inR (r : qf) (x y : Int) : Prop:=(r.X0≤x∧x < r.X1)∧(r.Y0≤y∧y < r.Y1)
def inS (t : ql) (x : Int) : Prop:=t.Lo≤x∧x < t.Hi
def volB (b : qk) : Int:=(b.Hi.X - b.Lo.X) * (b.Hi.Y - b.Lo.Y) * (b.Hi.Z - b.Lo.Z)
theorem q16s {N : Nat} {b : qk} (h : (b.Lo.X≤b.Hi.X∧b.Lo.Y≤b.Hi.Y∧b.Lo.Z≤b.Hi.Z)∧(-(N : Int)≤b.Lo.X∧-(N : Int)≤b.Lo.Y∧-(N : Int)≤b.Lo.Z)∧b.Hi.X≤N∧b.Hi.Y≤N∧b.Hi.Z≤N) :
    volB b = cnt3 N (inB b):=by
  obtain ⟨⟨j,f,m⟩,⟨g,l,a⟩,k,d,c⟩:=h;unfold cnt3
  have e : ∀ x y,(sumZ N fun z=>ind (inB b x y z)) = ind (b.Lo.X≤x∧x < b.Hi.X) * (ind (b.Lo.Y≤y∧y < b.Hi.Y) * (b.Hi.Z - b.Lo.Z)):=fun x y=>by
    have : (fun z=>ind (inB b x y z)) = fun z=>ind (b.Lo.X≤x∧x < b.Hi.X) * (ind (b.Lo.Y≤y∧y < b.Hi.Y) * ind (b.Lo.Z≤z∧z < b.Hi.Z)):=by
      funext z;unfold inB;rw [qmb (p:=_∧_) (q:=(_∧_)∧_),qmb (p:=_∧_) (q:=_∧_)]
    rw [this,qd4,qd4,qiv a m c]
  have n : ∀ x,(sumZ N fun y=>sumZ N fun z=>ind (inB b x y z)) = ind (b.Lo.X≤x∧x < b.Hi.X) * ((b.Hi.Y - b.Lo.Y) * (b.Hi.Z - b.Lo.Z)):=fun x=>by
    have : (fun y=>sumZ N fun z=>ind (inB b x y z)) = fun y=>ind (b.Lo.X≤x∧x < b.Hi.X) * ((b.Hi.Z - b.Lo.Z) * ind (b.Lo.Y≤y∧y < b.Hi.Y)):=by
      funext y;rw [e,Int.mul_comm (b.Hi.Z - b.Lo.Z)]
    rw [this,qd4,qd4,qiv l f d,Int.mul_comm (b.Hi.Z - b.Lo.Z)]
  have : (fun x=>sumZ N fun y=>sumZ N fun z=>ind (inB b x y z)) = fun x=>((b.Hi.Y - b.Lo.Y) * (b.Hi.Z - b.Lo.Z)) * ind (b.Lo.X≤x∧x < b.Hi.X):=by
    funext x;rw [n,Int.mul_comm]
  rw [this,qd4,qiv g j k,volB];simp only [Int.mul_assoc,Int.mul_comm]
noncomputable def cntS (s : List ql) (y : Int) : Int:=sumL (fun t=>ind (inS t y)) s
noncomputable def cntR (l : List qf) (x y : Int) : Int:=sumL (fun t=>ind (inR t x y)) l
noncomputable def cntB (l : List qk) (x y z : Int) : Int:=sumL (fun t=>ind (inB t x y z)) l
theorem qk6 : ∀ {s : List ql},Can s→∀ y,cntS s y = ind (has s y)
  | [],_,y=>by rw [q1k (q2p y)];rfl
  | a::s,h,y=>by
    have b:=qk6 h.tail y
    unfold cntS at b ⊢
    rw [sumL,b,q6m (Zt (a:=a) (s:=s) (x:=y)),quh]
    have : ¬ ((a.Lo≤y∧y < a.Hi)∧has s y):=fun ⟨c,h2⟩=>by have:=h.tail_gt h2;omega
    rw [q1k this];unfold inS;omega
theorem qsj (l : List qf) (x y : Int) : cntR l x y = cntS (covS l x) y:=by
  unfold cntR cntS
  induction l with
  | nil=>rfl
  | cons r l ih=>
    have e : covS (r::l) x = (if covR x r = true then [ysp r] else []) ++ covS l x:=rfl;rw [sumL,ih,e,qpy];congr 1;by_cases a : covR x r = true
    · rw [Q1 a];have:=q6d.1 a;simp only [sumL,Int.add_zero];exact q6m ⟨fun h=>h.2,fun h=>⟨this,h⟩⟩
    · rw [Q2 a];rw [q6d] at a;exact q1k fun h=>a h.1
theorem qsi (l : List qk) (x y z : Int) : cntB l x y z = cntR (atB l z) x y:=by
  unfold cntB cntR
  induction l with
  | nil=>rfl
  | cons r l ih=>
    have e : atB (r::l) z = (if covB z r = true then [U8 r] else []) ++ atB l z:=rfl;rw [sumL,ih,e,qpy];congr 1;by_cases a : covB z r = true
    · rw [Q1 a];have:=q37.1 a;simp only [sumL,Int.add_zero];exact q6m ⟨fun h=>⟨h.1,h.2.1⟩,fun h=>⟨h.1,h.2,this⟩⟩
    · rw [Q2 a];rw [q37] at a;exact q1k fun h=>a h.2.2
theorem CanR.cnt {l : List qf} (h : CanR l) (x y : Int) : cntR l x y = ind (hasR l x y):=by
  rw [qsj,qk6 (h.cov x),q6m q24]
theorem CanB.cnt {l : List qk} (h : CanB l) (x y z : Int) : cntB l x y z = ind (hasB l x y z):=by
  rw [qsi,(h.at z).cnt,q6m q23]
def volL (l : List qk) : Int:=sumL volB l
theorem q16v {N : Nat} {l : List qk} (a : ∀ x y z,cntB l x y z = ind (hasB l x y z)) (h : ∀ b∈l,(b.Lo.X≤b.Hi.X∧b.Lo.Y≤b.Hi.Y∧b.Lo.Z≤b.Hi.Z)∧(-(N : Int)≤b.Lo.X∧-(N : Int)≤b.Lo.Y∧-(N : Int)≤b.Lo.Z)∧b.Hi.X≤N∧b.Hi.Y≤N∧b.Hi.Z≤N) :
    volL l = cnt3 N (hasB l):=by
  unfold volL;rw [q16i fun b hb=>q16s (h b hb)];unfold cnt3;rw [qit];congr 1;funext x;rw [qit];congr 1;funext y;rw [qit];congr 1;funext z;exact a x y z
theorem q16u {l : List qk} (a : CanB l) (h : ∀ b∈l,vB b) : volL l = cnt3 1000000 (hasB l):=
  q16v a.cnt fun b hb=>by have:=h b hb;unfold vB at this;omega
end Go.Sh
