/- St16 St17 St19 St20 St21 St22 St23 St24 St28 St29 St30 St31 St32 St33 St36 St37 St38 St25 -/
import Derived.Test.YtgkialgkmjnfbaaGreatK13
namespace Go.Sh
open Go Go.Am
open Classical
def q6e (s : qt) : Int:=(max s.A.X s.B.X - min s.A.X s.B.X) + (max s.A.Y s.B.Y - min s.A.Y s.B.Y)
def Yw : List qt→Int
  | []=>0
  | s::l=>q6e s + Yw l
theorem qu0 (a b : List qt) : Yw (a ++ b) = Yw a + Yw b:=by
  induction a with
  | nil=>simp [Yw]
  | cons s a ih=>simp only [List.cons_append,Yw,ih];omega
theorem qnh {s : qt} (h : SegV s) : 0≤q6e s∧q6e s≤4000000:=by
  obtain ⟨⟨b,c,f,a⟩,⟨b1,b2,g,d⟩,_⟩:=h;unfold q6e;omega
theorem qkp : ∀ {l : List qt},(∀ s∈l,SegV s)→0≤Yw l∧Yw l≤4000000 * (l.length : Int)
  | [],_=>by simp [Yw]
  | s::l,h=>by
    have:=qnh (h s qd)
    have:=qkp (l:=l) fun t a=>h t (by simp [a])
    simp only [Yw,List.length_cons];omega
theorem qu2 {l : List qt} (g : ∀ s∈l,SegV s) (o : l.length≤1000) (c : Int) : loop (q3y (l,c)) (0,0) = some (Yw l):=by
  have:=Yx (f:=q3y (l,c)) (σ:=Int) (fun k a=>(a,(k : Int))) l.length (fun k a=>a = Yw (l.take k)) (fun a=>a = Yw l) ?_ ?_ (k0:=0) (c0:=0) q8 (by simp [Yw])
  · obtain ⟨b,j,rfl⟩:=this;exact j
  · rintro k a hk rfl;refine .inl ⟨Yw (l.take (k + 1)),?_,rfl⟩;have hb:=qkp (l:=l.take k) fun s hs=>g s (List.mem_of_mem_take hs);have h:=qnh (g _ (Yi hk));obtain ⟨⟨r,t,u,n⟩,⟨b1,b2,q,p⟩,_⟩:=g _ (Yi hk);have d : (l.take k).length = k:=by simp;omega
    rw [d] at hb
    have e1 : Yw (l.take (k + 1)) = Yw (l.take k) + q6e l[k]:=by
      rw [List.take_succ_eq_append_getElem hk,qu0];simp [Yw]
    have m : w64 ((max l[k].A.X l[k].B.X) - (min l[k].A.X l[k].B.X)) = (max l[k].A.X l[k].B.X) - (min l[k].A.X l[k].B.X):=Qh q8;simp only [q3y,dlt' hk,Qb,Ko hk,qr,m];rw [Qh (x:=(max l[k].A.X l[k].B.X) - (min l[k].A.X l[k].B.X) + max l[k].A.Y l[k].B.Y) q8,Qh (x:=(max l[k].A.X l[k].B.X) - (min l[k].A.X l[k].B.X) + max l[k].A.Y l[k].B.Y - min l[k].A.Y l[k].B.Y) q8];unfold q6e at h e1;rw [Qh (x:=Yw (l.take k) + _) q8,Qh q8,e1];congr 3;omega
  · rintro a rfl;exact ⟨_,by simp only [q3y,dnl',Q6];rfl,by rw [List.take_length]⟩
theorem qu4 {n : Qd} (j : Fit n) : ∃ a c,q79 n = some (a,c)∧Nrf∧Yg n = some c∧(∀ l,Jo n l→a = Yw l):=by
  obtain ⟨l,c,e1,q,f,_,h⟩:=qgq j;unfold q79;rw [e1];rcases h with ⟨rfl,hs⟩ | ⟨h,rfl⟩
  · have r:=hs.len400;have m:=qu2 hs.val q8 0;refine ⟨Yw l,0,?_,rfl,f,fun l' d=>?_⟩
    · simp only [qr];show (loop (q3y (l,0)) (0,0)).bind _ = _;rw [m];rfl
    · have:=hs.drawn;have:=d.drawn;simp_all
  · have k : (c != 0) = true:=by rcases h with rfl | rfl <;> rfl
    refine ⟨0,c,?_,rfl,f,fun l' d=>?_⟩
    · simp only [qr,k,Qb]
    · obtain ⟨b,p,_,_,g,o⟩:=qfc j {X:=0,Y:=0};rw [f] at g;have:=(o l' d).2;cases g;subst this;exact absurd k qq
section
variable {F G : Int→Int→Prop} {N : List qa}
theorem qzf (k : Ym F G N) (hb : ∀ y x,F y x→x≤1000000) {i : Nat} (hi : i < N.length) (c : F N[i].Y N[i].X) : ∃ j,∃ h : j < N.length,i < j∧N[j].Y = N[i].Y:=by
  refine Classical.byContradiction fun a=>?_
  have step : ∀ x,N[i].X < x→(F N[i].Y x↔F N[i].Y (x - 1)):=by
    intro x l;refine q62 (G:=G) fun b=>a ?_;obtain ⟨m,d,g⟩:=List.mem_iff_getElem.1 ((k.mem {X:=x,Y:=N[i].Y}).2 b);have ex : N[m].X = x:=by rw [g]
    have o : N[m].Y = N[i].Y:=by rw [g]
    exact ⟨m,d,J8 k.srt hi d (by unfold ltP;omega),o⟩
  have l:=hb _ _ c;obtain ⟨n,b⟩ : ∃ n : Nat,N[i].X + (n : Int) = 1000001:=⟨(1000001 - N[i].X).toNat,q8⟩
  have:=Jz (f:=F N[i].Y) (lo:=N[i].X) n fun x p q=>step x p;rw [b] at this;have:=hb _ _ (this.1 c);omega
theorem qqg (k : Ym F G N) (hb : ∀ x y,G x y→y≤1000000) {i : Nat} (hi : i < N.length) (c : G N[i].X N[i].Y) : ∃ j,∃ h : j < N.length,i < j∧N[j].X = N[i].X:=by
  refine Classical.byContradiction fun a=>?_
  have step : ∀ y,N[i].Y < y→(G N[i].X y↔G N[i].X (y - 1)):=by
    intro y p;refine q61 (F:=F) fun b=>a ?_;obtain ⟨m,d,g⟩:=List.mem_iff_getElem.1 ((k.mem {X:=N[i].X,Y:=y}).2 b);have ex : N[m].X = N[i].X:=by rw [g]
    have r : N[m].Y = y:=by rw [g]
    exact ⟨m,d,J8 k.srt hi d (by unfold ltP;omega),ex⟩
  have q:=hb _ _ c;obtain ⟨n,b⟩ : ∃ n : Nat,N[i].Y + (n : Int) = 1000001:=⟨(1000001 - N[i].Y).toNat,q8⟩
  have:=Jz (f:=G N[i].X) (lo:=N[i].Y) n fun y l o=>step y l;rw [b] at this;have:=hb _ _ (this.1 c);omega
theorem qf3 {P : Nat→Prop} {a : Nat} : ∀ {n : Nat},(∃ j,a < j∧j < n∧P j)→∃ j,a < j∧j < n∧P j∧∀ m,a < m→m < j→¬ P m
  | 0,⟨j,_,h,_⟩=>by omega
  | n + 1,⟨j,h1,h,hp⟩=>by
    by_cases e : ∃ j,a < j∧j < n∧P j
    · obtain ⟨k,b,d,c⟩:=qf3 e
      exact ⟨k,b,q8,c⟩
    · have : j = n:=by
        refine Classical.byContradiction fun f=>e ⟨j,h1,q8,hp⟩
      subst this
      exact ⟨j,h1,q8,hp,fun m b d c=>e ⟨m,b,d,c⟩⟩
theorem qlk (l : Ym F G N) (hb : ∀ y x,F y x→x≤1000000) {i : Nat} (hi : i < N.length) (c : F N[i].Y N[i].X) : ∃ k,Zh N i k:=by
  obtain ⟨j,h,b,r⟩:=qzf l hb hi c;obtain ⟨m,t,d,⟨o,f⟩,g⟩:=qf3 (P:=fun j=>∃ h : j < N.length,N[j].Y = N[i].Y) (a:=i) (n:=N.length) ⟨j,b,h,h,r⟩;exact ⟨m,t,o,fun _ _=>f,fun q _ p s u e=>g q s u ⟨p,e⟩⟩
theorem qlj (l : Ym F G N) (hb : ∀ x y,G x y→y≤1000000) {i : Nat} (hi : i < N.length) (c : G N[i].X N[i].Y) : ∃ k,Zg N i k:=by
  obtain ⟨j,h,b,r⟩:=qqg l hb hi c;obtain ⟨m,t,d,⟨o,f⟩,g⟩:=qf3 (P:=fun j=>∃ h : j < N.length,N[j].X = N[i].X) (a:=i) (n:=N.length) ⟨j,b,h,h,r⟩;exact ⟨m,t,o,fun _ _=>f,fun q _ p s u e=>g q s u ⟨p,e⟩⟩
theorem Zh.fun' {i j k : Nat} (a : Zh N i j) (b : Zh N i k) : j = k:=by
  have hi : i < N.length:=by have:=a.lt;have:=a.hk;omega
  rcases Nat.lt_trichotomy j k with h | h | h
  · exact absurd (a.eq hi a.hk) (b.no j hi a.hk a.lt h)
  · exact h
  · exact absurd (b.eq hi b.hk) (a.no k hi b.hk b.lt h)
theorem Zg.fun' {i j k : Nat} (a : Zg N i j) (b : Zg N i k) : j = k:=by
  have hi : i < N.length:=by have:=a.lt;have:=a.hk;omega
  rcases Nat.lt_trichotomy j k with h | h | h
  · exact absurd (a.eq hi a.hk) (b.no j hi a.hk a.lt h)
  · exact h
  · exact absurd (b.eq hi b.hk) (a.no k hi b.hk b.lt h)
def b2i (b : Bool) : Nat:=cond b 1 0
theorem qqv (o : Ym F G N) {E : List qg} (w : q56 F G N E) (v : ∀ y x,F y x→-1000000≤x∧x≤1000000) (z : ∀ x y,G x y→-1000000≤y∧y≤1000000) {i : Nat} (hi : i < N.length) :
    (E.filter fun e=>decide (e.A = (i : Int)∨e.B = (i : Int))).length = b2i (decide (F N[i].Y N[i].X)) + b2i (decide (G N[i].X N[i].Y)) + b2i (decide (F N[i].Y (N[i].X - 1))) + b2i (decide (G N[i].X (N[i].Y - 1))):=by
  have l : ∀ y x,F y x→-1000000≤x:=fun y x h=>(v y x h).1;have m : ∀ x y,G x y→-1000000≤y:=fun x y h=>(z x y h).1;have t : E.Nodup:=w.srt.imp (by rintro a b h rfl;exact qkw a a h h)
  obtain ⟨q1,n1,r,l1⟩ : ∃ q : List qg,q.Nodup∧(∀ e,e∈q↔∃ k : Nat,e = {A:=(i : Int),B:=(k : Int)}∧Zh N i k∧F N[i].Y N[i].X)∧q.length = b2i (decide (F N[i].Y N[i].X)):=by
    by_cases h : F N[i].Y N[i].X
    · obtain ⟨k,hk⟩:=qlk o (fun y x h=>(v y x h).2) hi h;refine ⟨[{A:=(i : Int),B:=(k : Int)}],qd,fun e=>?_,by rw [Q9 h];rfl⟩;rw [List.mem_singleton];constructor
      · rintro rfl;exact ⟨k,rfl,hk,h⟩
      · rintro ⟨n,rfl,g,_⟩;rw [g.fun' hk]
    · exact ⟨[],.nil,fun e=>⟨fun h=>(by cases h),fun ⟨_,_,_,h'⟩=>absurd h' h⟩,by rw [Qa h];rfl⟩
  obtain ⟨q2,n2,p,l2⟩ : ∃ q : List qg,q.Nodup∧(∀ e,e∈q↔∃ k : Nat,e = {A:=(i : Int),B:=(k : Int)}∧Zg N i k∧G N[i].X N[i].Y)∧q.length = b2i (decide (G N[i].X N[i].Y)):=by
    by_cases h : G N[i].X N[i].Y
    · obtain ⟨k,hk⟩:=qlj o (fun y x h=>(z y x h).2) hi h;refine ⟨[{A:=(i : Int),B:=(k : Int)}],qd,fun e=>?_,by rw [Q9 h];rfl⟩;rw [List.mem_singleton];constructor
      · rintro rfl;exact ⟨k,rfl,hk,h⟩
      · rintro ⟨n,rfl,g,_⟩;rw [g.fun' hk]
    · exact ⟨[],.nil,fun e=>⟨fun h=>(by cases h),fun ⟨_,_,_,h'⟩=>absurd h' h⟩,by rw [Qa h];rfl⟩
  obtain ⟨q3,n3,s,l3⟩ : ∃ q : List qg,q.Nodup∧(∀ e,e∈q↔∃ k : Nat,e = {A:=(k : Int),B:=(i : Int)}∧Zh N k i∧F N[i].Y (N[i].X - 1))∧q.length = b2i (decide (F N[i].Y (N[i].X - 1))):=by
    by_cases h : F N[i].Y (N[i].X - 1)
    · obtain ⟨k,hk⟩:=qmi o l hi h;refine ⟨[{A:=(k : Int),B:=(i : Int)}],qd,fun e=>?_,by rw [Q9 h];rfl⟩;rw [List.mem_singleton];constructor
      · rintro rfl;exact ⟨k,rfl,hk,h⟩
      · rintro ⟨n,rfl,g,_⟩;rw [g.uniq hk]
    · exact ⟨[],.nil,fun e=>⟨fun h=>(by cases h),fun ⟨_,_,_,h'⟩=>absurd h' h⟩,by rw [Qa h];rfl⟩
  obtain ⟨q4,n4,m4,l4⟩ : ∃ q : List qg,q.Nodup∧(∀ e,e∈q↔∃ k : Nat,e = {A:=(k : Int),B:=(i : Int)}∧Zg N k i∧G N[i].X (N[i].Y - 1))∧q.length = b2i (decide (G N[i].X (N[i].Y - 1))):=by
    by_cases h : G N[i].X (N[i].Y - 1)
    · obtain ⟨k,hk⟩:=qmh o m hi h;refine ⟨[{A:=(k : Int),B:=(i : Int)}],qd,fun e=>?_,by rw [Q9 h];rfl⟩;rw [List.mem_singleton];constructor
      · rintro rfl;exact ⟨k,rfl,hk,h⟩
      · rintro ⟨n,rfl,g,_⟩;rw [g.uniq hk]
    · exact ⟨[],.nil,fun e=>⟨fun h=>(by cases h),fun ⟨_,_,_,h'⟩=>absurd h' h⟩,by rw [Qa h];rfl⟩
  have hp : (E.filter fun e=>decide (e.A = (i : Int)∨e.B = (i : Int))).Perm (q1 ++ q2 ++ q3 ++ q4):=by
    rw [List.perm_ext_iff_of_nodup (t.sublist List.filter_sublist) ?_]
    · intro e;simp only [List.mem_filter,decide_eq_true_eq,List.mem_append,r,p,s,m4,w.mem];constructor
      · rintro ⟨⟨a,b,rfl,j⟩,h | h⟩
        · simp only at h;obtain rfl : a = i:=by omega
          obtain ⟨_,⟨c,d⟩ | ⟨c,d⟩⟩:=j
          · exact .inl (.inl (.inr ⟨b,rfl,c,d⟩))
          · exact .inl (.inl (.inl ⟨b,rfl,c,d⟩))
        · simp only at h;obtain rfl : b = i:=by omega
          rcases (qcm o l m hi a).1 j with ⟨c,d⟩ | ⟨c,d⟩
          · exact .inl (.inr ⟨a,rfl,c,d⟩)
          · exact .inr ⟨a,rfl,c,d⟩
      · rintro (((⟨k,rfl,c,d⟩ | ⟨k,rfl,c,d⟩) | ⟨k,rfl,c,d⟩) | ⟨k,rfl,c,d⟩)
        · exact ⟨⟨i,k,rfl,hi,.inr ⟨c,d⟩⟩,.inl rfl⟩
        · exact ⟨⟨i,k,rfl,hi,.inl ⟨c,d⟩⟩,.inl rfl⟩
        · exact ⟨⟨k,i,rfl,(qcm o l m hi k).2 (.inl ⟨c,d⟩)⟩,.inr rfl⟩
        · exact ⟨⟨k,i,rfl,(qcm o l m hi k).2 (.inr ⟨c,d⟩)⟩,.inr rfl⟩
    · have u : ∀ {a b : Nat},Zg N a b→Zh N a b→False:=fun {a b} c d=>by
        have:=qv5 o.srt c d;omega
      rw [List.nodup_append,List.nodup_append,List.nodup_append];refine ⟨⟨⟨n1,n2,fun a f b hb e=>?_⟩,n3,fun a f b hb e=>?_⟩,n4,fun a f b hb e=>?_⟩
      · subst e;obtain ⟨k,rfl,c,_⟩:=(r _).1 f;obtain ⟨n,j,d,_⟩:=(p _).1 hb;simp only [qg.mk.injEq,true_and] at j;obtain rfl : k = n:=by omega
        exact u d c
      · subst e;obtain ⟨n,rfl,d,_⟩:=(s _).1 hb;have:=d.lt;rcases List.mem_append.1 f with f | f
        · obtain ⟨k,j,c,_⟩:=(r _).1 f;simp only [qg.mk.injEq] at j;omega
        · obtain ⟨k,j,c,_⟩:=(p _).1 f;simp only [qg.mk.injEq] at j;omega
      · subst e;obtain ⟨n,rfl,d,_⟩:=(m4 _).1 hb;have:=d.lt;rcases List.mem_append.1 f with f | f
        · rcases List.mem_append.1 f with f | f
          · obtain ⟨k,j,c,_⟩:=(r _).1 f;simp only [qg.mk.injEq] at j;omega
          · obtain ⟨k,j,c,_⟩:=(p _).1 f;simp only [qg.mk.injEq] at j;omega
        · obtain ⟨k,j,c,_⟩:=(s _).1 f;simp only [qg.mk.injEq,and_true] at j;obtain rfl : n = k:=by omega
          exact u d c
  rw [hp.length_eq];simp only [List.length_append,l1,l2,l3,l4]
end
end Go.Sh
namespace Go.Sh
open Go Go.Am
open Classical
def b2z (b : Bool) : Int:=cond b 1 0
theorem qc9 (q : Bool × Bool × Bool × Bool) (acc : Int) (i : Nat) (hi : i < 4) (a : 0≤acc∧acc≤10) (b : Bool) (hb : idxA 4 [q.1,q.2.1,q.2.2.1,q.2.2.2] (i : Int) = some b) : q3x q (acc,(i : Int)) = some (.inl (acc + b2z b,((i + 1 : Nat) : Int))):=by
  unfold q3x;simp only;rw [Q9 (show (i : Int) < 4 by omega),Qb,hb,qr,Qh (x:=(i : Int) + 1) q8];cases b
  · simp [b2z]
  · simp only [Qb,b2z];rw [Qh q8];rfl
theorem qqu (a b c d : Bool) : loop (q3x (a,b,c,d)) (0,0) = some (b2z a + b2z b + b2z c + b2z d):=by
  have h : ∀ x : Bool,0≤b2z x∧b2z x≤1:=by intro x;cases x <;> simp [b2z]
  have f:=h a;have hb:=h b;have g:=h c;have hd:=h d;show loop (q3x (a,b,c,d)) (0,((0 : Nat) : Int)) = _;rw [Kf (qc9 (a,b,c,d) 0 0 q8 q8 a rfl)];rw [Kf (qc9 (a,b,c,d) _ 1 q8 q8 b rfl)];rw [Kf (qc9 (a,b,c,d) _ 2 q8 q8 c rfl)];rw [Kf (qc9 (a,b,c,d) _ 3 q8 q8 d rfl)];have : q3x (a,b,c,d) (0 + b2z a + b2z b + b2z c + b2z d,((3 + 1 : Nat) : Int)) = some (.inr (0 + b2z a + b2z b + b2z c + b2z d)):=rfl;rw [Kc this];congr 1;omega
noncomputable def degN (l : List qt) (p : qa) : Int:=b2z (decide (rowP l p.Y p.X)) + b2z (decide (colP l p.X p.Y)) + b2z (decide (rowP l p.Y (p.X - 1))) + b2z (decide (colP l p.X (p.Y - 1)))
theorem b2 (b : Bool) : ((b2i b : Nat) : Int) = b2z b:=by cases b <;> rfl
theorem qn5 {l : List qt} (a : ∀ s∈l,SegV s) (c : l.length≤400) : (∀ y x,rowP l y x→-1000000≤x∧x≤1000000)∧∀ x y,colP l x y→-1000000≤y∧y≤1000000:=by
  obtain ⟨r,_,d,b⟩:=qc5 c a;exact ⟨fun y x h=>by have:=d.bnd h;omega,fun x y h=>by have:=b.bnd h;omega⟩
theorem qdi {n : Qd} {l : List qt} (d : Fit n) (hs : Jo n l) : Yg n = some 0∧q3z n = some (l,0)∧Nrf∧Nrf:=by
  obtain ⟨b,c,_,_,f,h⟩:=qfc d {X:=0,Y:=0};obtain ⟨l',q,k,m,g,j,o⟩:=qgq d;have p:=(h l hs).2;subst p;rw [f] at g;cases g;rcases o with ⟨_,a⟩ | ⟨a,_⟩
  · have e:=a.drawn;rw [hs.drawn] at e;cases e;exact ⟨f,k,m,j⟩
  · rcases a with a | a <;> cases a
theorem qqx {n : Qd} {l : List qt} (f : Fit n) (hs : Jo n l) {i : Nat} (hi : i < n.Nodes.length) : Um n (i : Int) = some (degN l n.Nodes[i],0)∧Nrf:=by
  obtain ⟨c1,c2,c3,c4⟩:=qdi f hs;obtain ⟨r,e1,d,c⟩:=qc5 hs.len400 hs.val;have b : PtB n.Nodes[i]:=qd2 d c ((hs.net.nodes.mem _).1 (Yi hi))
  have h : (cond (decide ((i : Int) < 0)) (some true) (some (decide ((i : Int) ≥ (n.Nodes.length : Int))))) = some false:=by
    rw [Qa q8,Q6,Qa q8]
  obtain ⟨b1,a⟩:=qn5 hs.val hs.len400;have g:=qqv hs.net.nodes hs.net.edges b1 a hi;constructor
  · unfold Um;rw [c2,qr];have e0 : ((0 : Int) != 0) = false:=rfl;rw [e0,Q6,h,qr,Q6,e1,qr,Ko hi,qr,qe4 d c b,qr];unfold arB;rw [qqu];rfl
  · rfl
end Go.Sh
namespace Go.Sh
open Go Go.Am
open Classical
section
variable {F G : Int→Int→Prop} {n : Qd}
structure Bnd (F G : Int→Int→Prop) : Prop where
  row : ∀ y x,F y x→-1000000≤x∧x≤1000000
  col : ∀ x y,G x y→-1000000≤y∧y≤1000000
  pt : ∀ x y,Y4 F G x y→PtB {X:=x,Y:=y}
theorem qi3 {l : List qt} (a : l.length≤400) (b : ∀ s∈l,SegV s) : Bnd (rowP l) (colP l):=by
  obtain ⟨r,_,d,c⟩:=qc5 a b;obtain ⟨b1,b2⟩:=qn5 b a;exact ⟨b1,b2,fun x y h=>qd2 d c h⟩
theorem q2h {i k : Nat} (hi : i < n.Nodes.length) (hk : k < n.Nodes.length) : J0 n {A:=(i : Int),B:=(k : Int)} = {A:=n.Nodes[i],B:=n.Nodes[k]}:=by
  unfold J0;simp only [Int.toNat_natCast,List.getElem?_eq_getElem hi,List.getElem?_eq_getElem hk,Option.getD_some]
theorem qs5 (hb : Bnd F G) (h : Jn F G n) : ∀ e∈n.Edges,eOk n e:=by
  intro e g;obtain ⟨i,k,rfl,hi,c⟩:=(h.edges.mem e).1 g;have hk : k < n.Nodes.length:=by rcases c with ⟨h,_⟩ | ⟨h,_⟩ <;> exact h.hk
  have f : PtB n.Nodes[i]:=hb.pt _ _ ((h.nodes.mem _).1 (Yi hi));have p2 : PtB n.Nodes[k]:=hb.pt _ _ ((h.nodes.mem _).1 (Yi hk));refine ⟨⟨by simp only;omega,by simp only;omega⟩,⟨by simp only;omega,by simp only;omega⟩,?_⟩;rw [q2h hi hk,q6f];refine ⟨f,p2,?_⟩;simp only;rcases c with ⟨d,_⟩ | ⟨b,_⟩
  · have a:=q1c h.nodes.srt hi hk d.lt;have e:=d.eq hi hk;unfold ltP at a;omega
  · have a:=q1c h.nodes.srt hi hk b.lt;have e:=b.eq hi hk;unfold ltP at a;omega
noncomputable def U8 (n : Qd) : List qt:=n.Edges.map (J0 n)
theorem qzi (b : Ym F G n.Nodes) {i k : Nat} (h : Zh n.Nodes i k) (hi : i < n.Nodes.length) (g : F n.Nodes[i].Y n.Nodes[i].X) {x : Int} (s : n.Nodes[i].X≤x) (o : x < (n.Nodes[k]'h.hk).X) : F n.Nodes[i].Y x:=by
  have e:=h.eq hi h.hk;obtain ⟨m,j⟩ : ∃ m : Nat,x = n.Nodes[i].X + m:=⟨(x - n.Nodes[i].X).toNat,q8⟩
  rw [j];refine (Jz (f:=F n.Nodes[i].Y) m fun z p r=>?_).1 g;refine q62 (G:=G) fun a=>?_;obtain ⟨q,c,d⟩:=List.mem_iff_getElem.1 ((b.mem {X:=z,Y:=n.Nodes[i].Y}).2 a);have ex : n.Nodes[q].X = z:=by rw [d]
  have l : n.Nodes[q].Y = n.Nodes[i].Y:=by rw [d]
  exact h.no q hi c (J8 b.srt hi c (by unfold ltP;omega)) (J8 b.srt c h.hk (by unfold ltP;omega)) l
theorem qqh (b : Ym F G n.Nodes) {i k : Nat} (h : Zg n.Nodes i k) (hi : i < n.Nodes.length) (g : G n.Nodes[i].X n.Nodes[i].Y) {y : Int} (s : n.Nodes[i].Y≤y) (l : y < (n.Nodes[k]'h.hk).Y) : G n.Nodes[i].X y:=by
  have e:=h.eq hi h.hk;obtain ⟨m,j⟩ : ∃ m : Nat,y = n.Nodes[i].Y + m:=⟨(y - n.Nodes[i].Y).toNat,q8⟩
  rw [j];refine (Jz (f:=G n.Nodes[i].X) m fun z o p=>?_).1 g;refine q61 (F:=F) fun a=>?_;obtain ⟨q,c,d⟩:=List.mem_iff_getElem.1 ((b.mem {X:=n.Nodes[i].X,Y:=z}).2 a);have ex : n.Nodes[q].X = n.Nodes[i].X:=by rw [d]
  have r : n.Nodes[q].Y = z:=by rw [d]
  exact h.no q hi c (J8 b.srt hi c (by unfold ltP;omega)) (J8 b.srt c h.hk (by unfold ltP;omega)) ex
theorem qze (hb : Bnd F G) (d : Ym F G n.Nodes) {y x : Int} (o : F y x) : ∃ i k,∃ hi : i < n.Nodes.length,∃ h : Zh n.Nodes i k,n.Nodes[i].Y = y∧n.Nodes[i].X≤x∧x < (n.Nodes[k]'h.hk).X∧F y n.Nodes[i].X:=by
  have hex : ∃ j,j < n.Nodes.length∧∃ h : j < n.Nodes.length,n.Nodes[j].Y = y∧n.Nodes[j].X≤x:=by
    refine Classical.byContradiction fun l=>?_
    have step : ∀ z,z≤x→(F y z↔F y (z - 1)):=by
      intro z hz;refine q62 (G:=G) fun q=>l ?_;obtain ⟨m,b,c⟩:=List.mem_iff_getElem.1 ((d.mem {X:=z,Y:=y}).2 q);exact ⟨m,b,b,by rw [c],by rw [c];exact hz⟩
    have t:=hb.row _ _ o;obtain ⟨m,b⟩ : ∃ m : Nat,x = -1000001 + (m : Int):=⟨(x + 1000001).toNat,q8⟩
    have:=Jz (f:=F y) (lo:=-1000001) m fun z r s=>step z q8;rw [← b] at this;have:=hb.row _ _ (this.2 o);omega
  obtain ⟨i,v,⟨hi,p,t⟩,a⟩:=q8a hex
  have none : ∀ z,n.Nodes[i].X < z→z≤x→¬ Y4 F G z y:=by
    intro z r s q;obtain ⟨m,b,c⟩:=List.mem_iff_getElem.1 ((d.mem {X:=z,Y:=y}).2 q);have ex : n.Nodes[m].X = z:=by rw [c]
    have w : n.Nodes[m].Y = y:=by rw [c]
    exact a m (J8 d.srt hi b (by unfold ltP;omega)) b ⟨b,w,q8⟩
  have u : F y n.Nodes[i].X:=by
    obtain ⟨m,b⟩ : ∃ m : Nat,x = n.Nodes[i].X + (m : Int):=⟨(x - n.Nodes[i].X).toNat,q8⟩
    have:=Jz (f:=F y) (lo:=n.Nodes[i].X) m fun z r s=>q62 (G:=G) (none z r q8);rw [← b] at this;exact this.2 o
  obtain ⟨k,hk⟩:=qlk d (fun y x h=>(hb.row y x h).2) hi (by rw [p];exact u);refine ⟨i,k,hi,hk,p,t,?_,u⟩;refine Int.lt_of_not_ge fun g=>?_;exact a k hk.lt hk.hk ⟨hk.hk,by rw [hk.eq hi hk.hk,p],g⟩
theorem qqf (hb : Bnd F G) (d : Ym F G n.Nodes) {x y : Int} (o : G x y) : ∃ i k,∃ hi : i < n.Nodes.length,∃ h : Zg n.Nodes i k,n.Nodes[i].X = x∧n.Nodes[i].Y≤y∧y < (n.Nodes[k]'h.hk).Y∧G x n.Nodes[i].Y:=by
  have hex : ∃ j,j < n.Nodes.length∧∃ h : j < n.Nodes.length,n.Nodes[j].X = x∧n.Nodes[j].Y≤y:=by
    refine Classical.byContradiction fun l=>?_
    have step : ∀ z,z≤y→(G x z↔G x (z - 1)):=by
      intro z w;refine q61 (F:=F) fun q=>l ?_;obtain ⟨m,b,c⟩:=List.mem_iff_getElem.1 ((d.mem {X:=x,Y:=z}).2 q);exact ⟨m,b,b,by rw [c],by rw [c];exact w⟩
    have t:=hb.col _ _ o;obtain ⟨m,b⟩ : ∃ m : Nat,y = -1000001 + (m : Int):=⟨(y + 1000001).toNat,q8⟩
    have:=Jz (f:=G x) (lo:=-1000001) m fun z r s=>step z q8;rw [← b] at this;have:=hb.col _ _ (this.2 o);omega
  obtain ⟨i,v,⟨hi,p,t⟩,a⟩:=q8a hex
  have none : ∀ z,n.Nodes[i].Y < z→z≤y→¬ Y4 F G x z:=by
    intro z r s q;obtain ⟨m,b,c⟩:=List.mem_iff_getElem.1 ((d.mem {X:=x,Y:=z}).2 q);have ex : n.Nodes[m].X = x:=by rw [c]
    have ey : n.Nodes[m].Y = z:=by rw [c]
    exact a m (J8 d.srt hi b (by unfold ltP;omega)) b ⟨b,ex,q8⟩
  have u : G x n.Nodes[i].Y:=by
    obtain ⟨m,b⟩ : ∃ m : Nat,y = n.Nodes[i].Y + (m : Int):=⟨(y - n.Nodes[i].Y).toNat,q8⟩
    have:=Jz (f:=G x) (lo:=n.Nodes[i].Y) m fun z r s=>q61 (F:=F) (none z r q8);rw [← b] at this;exact this.2 o
  obtain ⟨k,hk⟩:=qlj d (fun y x h=>(hb.col y x h).2) hi (by rw [p];exact u);refine ⟨i,k,hi,hk,p,t,?_,u⟩;refine Int.lt_of_not_ge fun g=>?_;exact a k hk.lt hk.hk ⟨hk.hk,by rw [hk.eq hi hk.hk,p],g⟩
theorem qj6 (hb : Bnd F G) (h : Jn F G n) (y x : Int) : rowP (U8 n) y x↔F y x:=by
  constructor
  · rintro ⟨⟨k0,t⟩,hp,rfl,j,f⟩;obtain ⟨s,hs,b,rfl,rfl⟩:=q5u.1 hp;obtain ⟨e,g,rfl⟩:=List.mem_map.1 hs;obtain ⟨i,k,rfl,hi,l⟩:=(h.edges.mem e).1 g;have hk : k < n.Nodes.length:=by rcases l with ⟨h,_⟩ | ⟨h,_⟩ <;> exact h.hk
    rw [q2h hi hk] at b j f ⊢;simp only at b j f ⊢;rcases l with ⟨m,_⟩ | ⟨c,d⟩
    · have a:=q1c h.nodes.srt hi hk m.lt;have e:=m.eq hi hk;unfold ltP at a;omega
    · have a:=q1c h.nodes.srt hi hk c.lt;unfold ltP at a;exact qzi h.nodes c hi d q8 q8
  · intro o;obtain ⟨i,k,hi,hk,b,j,f,d⟩:=qze hb h.nodes o;have g : ({A:=(i : Int),B:=(k : Int)} : qg)∈n.Edges:=(h.edges.mem _).2 ⟨i,k,rfl,hi,.inr ⟨hk,by rw [b];exact d⟩⟩;have p:=hk.eq hi hk.hk;refine ⟨(y,{Lo:=min n.Nodes[i].X (n.Nodes[k]'hk.hk).X,Hi:=max n.Nodes[i].X (n.Nodes[k]'hk.hk).X}),q5u.2 ⟨J0 n {A:=(i : Int),B:=(k : Int)},List.mem_map.2 ⟨_,g,rfl⟩,?_,?_,?_⟩,rfl,by simp only;omega,by simp only;omega⟩
    · rw [q2h hi hk.hk];exact p.symm
    · rw [q2h hi hk.hk];exact b.symm
    · rw [q2h hi hk.hk]
theorem qj5 (hb : Bnd F G) (h : Jn F G n) (x y : Int) : colP (U8 n) x y↔G x y:=by
  constructor
  · rintro ⟨⟨k0,t⟩,hp,rfl,j,d⟩;obtain ⟨s,hs,b,rfl,rfl⟩:=q5t.1 hp;obtain ⟨e,g,rfl⟩:=List.mem_map.1 hs;obtain ⟨i,k,rfl,hi,m⟩:=(h.edges.mem e).1 g;have hk : k < n.Nodes.length:=by rcases m with ⟨h,_⟩ | ⟨h,_⟩ <;> exact h.hk
    rw [q2h hi hk] at b j d ⊢;simp only at b j d ⊢;rcases m with ⟨f,c⟩ | ⟨l,_⟩
    · have a:=q1c h.nodes.srt hi hk f.lt;have e:=f.eq hi hk;unfold ltP at a;exact qqh h.nodes f hi c q8 q8
    · have e:=l.eq hi hk;omega
  · intro o;obtain ⟨i,k,hi,hk,b,j,d,c⟩:=qqf hb h.nodes o;have g : ({A:=(i : Int),B:=(k : Int)} : qg)∈n.Edges:=(h.edges.mem _).2 ⟨i,k,rfl,hi,.inl ⟨hk,by rw [b];exact c⟩⟩;have p:=hk.eq hi hk.hk;have a:=q1c h.nodes.srt hi hk.hk hk.lt;refine ⟨(x,{Lo:=min n.Nodes[i].Y (n.Nodes[k]'hk.hk).Y,Hi:=max n.Nodes[i].Y (n.Nodes[k]'hk.hk).Y}),q5t.2 ⟨J0 n {A:=(i : Int),B:=(k : Int)},List.mem_map.2 ⟨_,g,rfl⟩,?_,?_,?_⟩,rfl,by simp only;omega,by simp only;omega⟩
    · rw [q2h hi hk.hk];show n.Nodes[i].Y≠(n.Nodes[k]'hk.hk).Y;unfold ltP at a;omega
    · rw [q2h hi hk.hk];exact b.symm
    · rw [q2h hi hk.hk]
theorem q125 (hb : Bnd F G) (h : Jn F G n) (b : n.Edges.length≤400) : Jo n (U8 n):=by
  have a:=qs5 hb h;have e1 : rowP (U8 n) = F:=by funext y x;exact propext (qj6 hb h y x)
  have d : colP (U8 n) = G:=by funext y x;exact propext (qj5 hb h y x)
  refine ⟨?_,by simp [U8],b,fun s hs=>?_,?_⟩
  · unfold Ut;rw [qu a];rfl
  · obtain ⟨e,c,rfl⟩:=List.mem_map.1 hs;exact (a e c).2.2
  · rw [e1,d];exact h
end
end Go.Sh
namespace Go.Sh
open Go Go.Am
open Classical
theorem q84 {α β : Type} {f : α→List β} {c : Nat} : ∀ {l : List α},(∀ x∈l,(f x).length = c)→(l.flatMap f).length = l.length * c
  | [],_=>by simp
  | a::l,h=>by
    rw [List.flatMap_cons,List.length_append,h a qd,q84 (l:=l) fun x b=>h x (by simp [b]),List.length_cons,Nat.succ_mul]
    omega
theorem qjr {α : Type} (p : α→Bool) : ∀ l : List α,(l.filter p).length + (l.filter fun x=>!p x).length = l.length
  | []=>rfl
  | a::l=>by
    have:=qjr p l
    cases h : p a <;> simp [h] <;> omega
noncomputable def q4b (l : List qt) : List qa:=l.flatMap (fun s=>[s.A,s.B]) ++ (l.filter fun s=>decide (s.A.Y = s.B.Y)).flatMap fun h=>(l.filter fun s=>!decide (s.A.Y = s.B.Y)).map fun v=>({X:=v.A.X,Y:=h.A.Y} : qa)
theorem qyo : ∀ h,h < 25→∀ v,v < 25→h + v≤24→h * v≤144:=by decide
theorem qi8 {l : List qt} (c : l.length≤24) : (q4b l).length≤192:=by
  have e1 : (l.flatMap fun s=>[s.A,s.B]).length = l.length * 2:=q84 fun _ _=>rfl;have a : ((l.filter fun s=>decide (s.A.Y = s.B.Y)).flatMap fun h=>(l.filter fun s=>!decide (s.A.Y = s.B.Y)).map fun v=>({X:=v.A.X,Y:=h.A.Y} : qa)).length = (l.filter fun s=>decide (s.A.Y = s.B.Y)).length * (l.filter fun s=>!decide (s.A.Y = s.B.Y)).length:=q84 fun _ _=>by simp
  have b:=qjr (fun s : qt=>decide (s.A.Y = s.B.Y)) l;unfold q4b;rw [List.length_append,e1,a];have:=qyo _ (show (l.filter fun s : qt=>decide (s.A.Y = s.B.Y)).length < 25 by omega) _ (show (l.filter fun s : qt=>!decide (s.A.Y = s.B.Y)).length < 25 by omega) q8;omega
theorem q6d {l : List qt} {y x : Int} : rowP l y x↔∃ s∈l,s.A.Y = s.B.Y∧s.A.Y = y∧min s.A.X s.B.X≤x∧x < max s.A.X s.B.X:=by
  constructor
  · rintro ⟨⟨k,t⟩,hp,rfl,b,a⟩;obtain ⟨s,hs,c,rfl,rfl⟩:=q5u.1 hp;exact ⟨s,hs,c,rfl,b,a⟩
  · rintro ⟨s,hs,c,rfl,b,a⟩;exact ⟨(_,_),q5u.2 ⟨s,hs,c,rfl,rfl⟩,rfl,b,a⟩
theorem q5e {l : List qt} {x y : Int} : colP l x y↔∃ s∈l,s.A.Y≠s.B.Y∧s.A.X = x∧min s.A.Y s.B.Y≤y∧y < max s.A.Y s.B.Y:=by
  constructor
  · rintro ⟨⟨k,t⟩,hp,rfl,b,a⟩;obtain ⟨s,hs,c,rfl,rfl⟩:=q5t.1 hp;exact ⟨s,hs,c,rfl,b,a⟩
  · rintro ⟨s,hs,c,rfl,b,a⟩;exact ⟨(_,_),q5t.2 ⟨s,hs,c,rfl,rfl⟩,rfl,b,a⟩
theorem ql2 {l : List qt} {p : qa} : p∈q4b l↔(∃ s∈l,p = s.A∨p = s.B)∨∃ h∈l,h.A.Y = h.B.Y∧∃ v∈l,v.A.Y≠v.B.Y∧p = {X:=v.A.X,Y:=h.A.Y}:=by
  simp only [q4b,List.mem_append,List.mem_flatMap,List.mem_cons,List.not_mem_nil,or_false,List.mem_filter,List.mem_map,decide_eq_true_eq,Bool.not_eq_true',decide_eq_false_iff_not];constructor
  · rintro (h | ⟨h,⟨c,a⟩,v,⟨d,b⟩,rfl⟩)
    · exact .inl h
    · exact .inr ⟨h,c,a,v,d,b,rfl⟩
  · rintro (h | ⟨h,c,a,v,d,b,rfl⟩)
    · exact .inl h
    · exact .inr ⟨h,⟨c,a⟩,v,⟨d,b⟩,rfl⟩
theorem qzh {l : List qt} (m : ∀ s∈l,SegV s) {c d : Int} (e : rowP l d c) (w : ¬ rowP l d (c - 1)) : ∃ s∈l,({X:=c,Y:=d} : qa) = s.A∨({X:=c,Y:=d} : qa) = s.B:=by
  obtain ⟨a,b,j,k,u,o⟩:=q6d.1 e;have h : ¬ (min a.A.X a.B.X≤c - 1∧c - 1 < max a.A.X a.B.X):=fun g=>w (q6d.2 ⟨a,b,j,k,g.1,g.2⟩);have p:=(m a b).or;refine ⟨a,b,?_⟩;rcases Int.le_total a.A.X a.B.X with f | f
  · left;obtain ⟨⟨q,t⟩,r⟩:=a;simp only [qa.mk.injEq] at *;omega
  · right;obtain ⟨v,⟨bx,n⟩⟩:=a;simp only [qa.mk.injEq] at *;omega
theorem qzg {l : List qt} (m : ∀ s∈l,SegV s) {c d : Int} (e : rowP l d (c - 1)) (w : ¬ rowP l d c) : ∃ s∈l,({X:=c,Y:=d} : qa) = s.A∨({X:=c,Y:=d} : qa) = s.B:=by
  obtain ⟨a,b,j,k,u,o⟩:=q6d.1 e;have h : ¬ (min a.A.X a.B.X≤c∧c < max a.A.X a.B.X):=fun g=>w (q6d.2 ⟨a,b,j,k,g.1,g.2⟩);have p:=(m a b).or;refine ⟨a,b,?_⟩;rcases Int.le_total a.A.X a.B.X with f | f
  · right;obtain ⟨v,⟨bx,n⟩⟩:=a;simp only [qa.mk.injEq] at *;omega
  · left;obtain ⟨⟨q,t⟩,r⟩:=a;simp only [qa.mk.injEq] at *;omega
theorem qip {l : List qt} (m : ∀ s∈l,SegV s) {d c : Int} (e : colP l d c) (w : ¬ colP l d (c - 1)) : ∃ s∈l,({X:=d,Y:=c} : qa) = s.A∨({X:=d,Y:=c} : qa) = s.B:=by
  obtain ⟨a,b,j,k,u,o⟩:=q5e.1 e;have h : ¬ (min a.A.Y a.B.Y≤c - 1∧c - 1 < max a.A.Y a.B.Y):=fun g=>w (q5e.2 ⟨a,b,j,k,g.1,g.2⟩);have p:=(m a b).or;refine ⟨a,b,?_⟩;rcases Int.le_total a.A.Y a.B.Y with f | f
  · left;obtain ⟨⟨q,t⟩,r⟩:=a;simp only [qa.mk.injEq] at *;omega
  · right;obtain ⟨v,⟨bx,n⟩⟩:=a;simp only [qa.mk.injEq] at *;omega
theorem qio {l : List qt} (m : ∀ s∈l,SegV s) {d c : Int} (e : colP l d (c - 1)) (w : ¬ colP l d c) : ∃ s∈l,({X:=d,Y:=c} : qa) = s.A∨({X:=d,Y:=c} : qa) = s.B:=by
  obtain ⟨a,b,j,k,u,o⟩:=q5e.1 e;have h : ¬ (min a.A.Y a.B.Y≤c∧c < max a.A.Y a.B.Y):=fun g=>w (q5e.2 ⟨a,b,j,k,g.1,g.2⟩);have p:=(m a b).or;refine ⟨a,b,?_⟩;rcases Int.le_total a.A.Y a.B.Y with f | f
  · right;obtain ⟨v,⟨bx,n⟩⟩:=a;simp only [qa.mk.injEq] at *;omega
  · left;obtain ⟨⟨q,t⟩,r⟩:=a;simp only [qa.mk.injEq] at *;omega
theorem qfx {l : List qt} (c : ∀ s∈l,SegV s) {p : qa} (h : Y4 (rowP l) (colP l) p.X p.Y) : p∈q4b l:=by
  rw [ql2];obtain ⟨a,b⟩:=p;simp only at h;by_cases e : rowP l b a
  · by_cases w : rowP l b (a - 1)
    · by_cases n : colP l a b
      · by_cases s : colP l a (b - 1)
        · right;obtain ⟨j,f,m,g,u,r⟩:=q6d.1 e;obtain ⟨q,d,o,k,v,t⟩:=q5e.1 n;exact ⟨j,f,m,q,d,o,by rw [k,g]⟩
        · exact .inl (qip c n s)
      · by_cases s : colP l a (b - 1)
        · exact .inl (qio c s n)
        · exfalso;unfold Y4 at h;rw [Q9 e,Q9 w,Qa n,Qa s] at h;exact absurd h qq
    · exact .inl (qzh c e w)
  · by_cases w : rowP l b (a - 1)
    · exact .inl (qzg c w e)
    · by_cases n : colP l a b
      · by_cases s : colP l a (b - 1)
        · exfalso;unfold Y4 at h;rw [Qa e,Qa w,Q9 n,Q9 s] at h;exact absurd h qq
        · exact .inl (qip c n s)
      · by_cases s : colP l a (b - 1)
        · exact .inl (qio c s n)
        · exfalso;unfold Y4 at h;rw [Qa e,Qa w,Qa n,Qa s] at h;exact absurd h qq
theorem quf {l : List qt} (d : l.length≤24) (c : ∀ s∈l,SegV s) : ∃ n,Zf l = some (n,0)∧Nrf∧Jn (rowP l) (colP l) n∧Jo n (U8 n)∧n.Nodes.length≤192:=by
  rcases quj (l:=l) q8 c with ⟨n,e1,j,h⟩ | ⟨_,_,b,f,m,g⟩
  · have k : n.Nodes.Nodup:=h.nodes.srt.imp (by rintro a b h rfl;exact q4j a a h h);have:=List.Nodup.length_le_of_subset k (l₂:=q4b l) fun p hp=>qfx c ((h.nodes.mem p).1 hp);have:=qi8 d;have:=h.elen;exact ⟨n,e1,j,h,q125 (qi3 q8 c) h q8,q8⟩
  · have:=List.Nodup.length_le_of_subset f (l₂:=q4b l) fun p hp=>qfx c (g p hp);have:=qi8 d;omega
end Go.Sh
namespace Go.Sh
open Go Go.Am
open Classical
theorem qsu {F G : Int→Int→Prop} {n : Qd} (h : Jn F G n) (a : n.Edges.length≤400) : Fit n:=⟨⟨by have:=h.nlen;omega,q8⟩,.inl a⟩
theorem Jo.fit {n : Qd} {l : List qt} (h : Jo n l) : Fit n:=qsu h.net h.le
end Go.Sh
namespace Go.Sh
open Go Go.Am
open Classical
end Go.Sh
namespace Go.Sh
open Go Go.Am
def nxX (N : List qa) (i k : Nat) : Bool:=decide (i < k) && decide (k < N.length) && decide ((N[k]?).map (·.X) = (N[i]?).map (·.X)) && (List.range N.length).all fun j=>!(decide (i < j) && decide (j < k)) || !decide ((N[j]?).map (·.X) = (N[i]?).map (·.X))
def nxY (N : List qa) (i k : Nat) : Bool:=decide (i < k) && decide (k < N.length) && decide ((N[k]?).map (·.Y) = (N[i]?).map (·.Y)) && (List.range N.length).all fun j=>!(decide (i < j) && decide (j < k)) || !decide ((N[j]?).map (·.Y) = (N[i]?).map (·.Y))
theorem qvf {N : List qa} {i k : Nat} : nxX N i k = true↔Zg N i k:=by
  simp only [nxX,Bool.and_eq_true,decide_eq_true_eq,List.all_eq_true,List.mem_range,Bool.or_eq_true,Bool.not_eq_true',Bool.and_eq_false_iff,decide_eq_false_iff_not];constructor
  · rintro ⟨⟨⟨l,a⟩,f⟩,g⟩;have hi : i < N.length:=by omega
    rw [List.getElem?_eq_getElem a,List.getElem?_eq_getElem hi] at f;refine ⟨l,a,fun _ _=>Zl f,fun j _ b d c e=>?_⟩;rcases g j b with (h | h) | h
    · exact h d
    · exact h c
    · rw [List.getElem?_eq_getElem b,List.getElem?_eq_getElem hi] at h;exact h (congrArg some e)
  · rintro ⟨l,a,f,g⟩;have hi : i < N.length:=by omega
    refine ⟨⟨⟨l,a⟩,?_⟩,fun j b=>?_⟩
    · rw [List.getElem?_eq_getElem a,List.getElem?_eq_getElem hi];exact congrArg some (f hi a)
    · by_cases d : i < j
      · by_cases c : j < k
        · right;rw [List.getElem?_eq_getElem b,List.getElem?_eq_getElem hi];exact fun e=>g j hi b d c (Zl e)
        · exact .inl (.inr c)
      · exact .inl (.inl d)
theorem qvg {N : List qa} {i k : Nat} : nxY N i k = true↔Zh N i k:=by
  simp only [nxY,Bool.and_eq_true,decide_eq_true_eq,List.all_eq_true,List.mem_range,Bool.or_eq_true,Bool.not_eq_true',Bool.and_eq_false_iff,decide_eq_false_iff_not];constructor
  · rintro ⟨⟨⟨l,a⟩,f⟩,g⟩;have hi : i < N.length:=by omega
    rw [List.getElem?_eq_getElem a,List.getElem?_eq_getElem hi] at f;refine ⟨l,a,fun _ _=>Zl f,fun j _ b d c e=>?_⟩;rcases g j b with (h | h) | h
    · exact h d
    · exact h c
    · rw [List.getElem?_eq_getElem b,List.getElem?_eq_getElem hi] at h;exact h (congrArg some e)
  · rintro ⟨l,a,f,g⟩;have hi : i < N.length:=by omega
    refine ⟨⟨⟨l,a⟩,?_⟩,fun j b=>?_⟩
    · rw [List.getElem?_eq_getElem a,List.getElem?_eq_getElem hi];exact congrArg some (f hi a)
    · by_cases d : i < j
      · by_cases c : j < k
        · right;rw [List.getElem?_eq_getElem b,List.getElem?_eq_getElem hi];exact fun e=>g j hi b d c (Zl e)
        · exact .inl (.inr c)
      · exact .inl (.inl d)
def rowB (l : List qt) (y x : Int) : Bool:=l.any fun s=>decide (s.A.Y = s.B.Y) && decide (s.A.Y = y) && decide (min s.A.X s.B.X≤x) && decide (x < max s.A.X s.B.X)
def colB (l : List qt) (x y : Int) : Bool:=l.any fun s=>!decide (s.A.Y = s.B.Y) && decide (s.A.X = x) && decide (min s.A.Y s.B.Y≤y) && decide (y < max s.A.Y s.B.Y)
theorem q90 {l : List qt} {y x : Int} : rowB l y x = true↔rowP l y x:=by
  rw [q6d];simp only [rowB,List.any_eq_true,Bool.and_eq_true,decide_eq_true_eq,and_assoc]
theorem q7o {l : List qt} {x y : Int} : colB l x y = true↔colP l x y:=by
  rw [q5e];simp only [colB,List.any_eq_true,Bool.and_eq_true,decide_eq_true_eq,Bool.not_eq_true',decide_eq_false_iff_not,and_assoc]
def edgB (l : List qt) (N : List qa) (i k : Nat) : Bool:=match N[i]? with
  | some p=>(nxX N i k && colB l p.X p.Y) || (nxY N i k && rowB l p.Y p.X)
  | none=>false
theorem qj4 {l : List qt} {N : List qa} {i k : Nat} : edgB l N i k = true↔q4i (rowP l) (colP l) N i k:=by
  unfold edgB q4i;by_cases hi : i < N.length
  · simp only [List.getElem?_eq_getElem hi,Bool.or_eq_true,Bool.and_eq_true,qvf,qvg,q90,q7o];exact ⟨fun h=>⟨hi,h⟩,fun ⟨_,h⟩=>h⟩
  · rw [List.getElem?_eq_none q8];exact ⟨fun h=>(by cases h),fun ⟨h,_⟩=>absurd h hi⟩
instance (a b : qg) : Decidable (ltG a b):=by unfold ltG;exact inferInstance
def srtG : List qg→Bool
  | []=>true
  | a::r=>(r.all fun b=>decide (ltG a b)) && srtG r
def srtP : List qa→Bool
  | []=>true
  | a::r=>(r.all fun b=>decide (ltP a b)) && srtP r
theorem qnw : ∀ {l : List qg},srtG l = true→l.Pairwise ltG
  | [],_=>.nil
  | a::r,h=>by
    simp only [srtG,Bool.and_eq_true,List.all_eq_true,decide_eq_true_eq] at h
    exact List.pairwise_cons.2 ⟨h.1,qnw h.2⟩
theorem qnx : ∀ {l : List qa},srtP l = true→l.Pairwise ltP
  | [],_=>.nil
  | a::r,h=>by
    simp only [srtP,Bool.and_eq_true,List.all_eq_true,decide_eq_true_eq] at h
    exact List.pairwise_cons.2 ⟨h.1,qnx h.2⟩
def qet (l : List qt) (n : Qd) : Bool:=srtG n.Edges && (n.Edges.all fun e=>decide (0≤e.A) && decide (0≤e.B) && edgB l n.Nodes e.A.toNat e.B.toNat) && (List.range n.Nodes.length).all fun i=>(List.range n.Nodes.length).all fun k=>!edgB l n.Nodes i k || n.Edges.any fun e=>decide (e = {A:=(i : Int),B:=(k : Int)})
theorem qs6 {l : List qt} {n : Qd} (h : qet l n = true) : q56 (rowP l) (colP l) n.Nodes n.Edges:=by
  simp only [qet,Bool.and_eq_true,List.all_eq_true,decide_eq_true_eq,List.mem_range,Bool.or_eq_true,Bool.not_eq_true',List.any_eq_true] at h;obtain ⟨⟨j,g⟩,o⟩:=h;refine ⟨qnw j,fun e=>⟨fun d=>?_,?_⟩⟩
  · obtain ⟨⟨a,b⟩,c⟩:=g e d;refine ⟨e.A.toNat,e.B.toNat,?_,qj4.1 c⟩;obtain ⟨q,p⟩:=e;simp only [qg.mk.injEq] at a b ⊢;omega
  · rintro ⟨i,k,rfl,d⟩;have hi : i < n.Nodes.length:=d.1;have hk : k < n.Nodes.length:=by obtain ⟨_,⟨h,_⟩ | ⟨h,_⟩⟩:=d <;> exact h.hk
    rcases o i hi k hk with f | ⟨e,m,rfl⟩
    · rw [qj4.2 d] at f;cases f
    · exact m
def qd1 (l : List qt) (p : qa) : Bool:=q60 (rowB l p.Y p.X) (colB l p.X p.Y) (rowB l p.Y (p.X - 1)) (colB l p.X (p.Y - 1))
open Classical in
theorem qlm {l : List qt} {p : qa} : qd1 l p = true↔Y4 (rowP l) (colP l) p.X p.Y:=by
  unfold qd1 Y4
  have e : ∀ {b : Bool} {P : Prop},(b = true↔P)→b = decide P:=by
    intro b P h;cases b
    · symm;exact Qa (fun hp=>by have:=h.2 hp;cases this)
    · symm;exact Q9 (h.1 rfl)
  rw [e q90,e q7o,e q90,e q7o]
def qi7 (l : List qt) : List qa:=l.flatMap (fun s=>[s.A,s.B]) ++ l.flatMap fun h=>l.map fun v=>({X:=v.A.X,Y:=h.A.Y} : qa)
def qfy (l : List qt) (N : List qa) : Bool:=srtP N && (N.all fun p=>qd1 l p) && (qi7 l).all fun p=>!qd1 l p || N.any fun q=>decide (q = p)
theorem qvb {l : List qt} {N : List qa} (m : ∀ s∈l,SegV s) (h : qfy l N = true) : Ym (rowP l) (colP l) N:=by
  simp only [qfy,Bool.and_eq_true,List.all_eq_true,Bool.or_eq_true,Bool.not_eq_true',List.any_eq_true,decide_eq_true_eq] at h;obtain ⟨⟨n,d⟩,g⟩:=h;refine ⟨qnx n,fun p=>⟨fun hp=>qlm.1 (d p hp),fun b=>?_⟩⟩
  have o : p∈qi7 l:=by
    rcases ql2.1 (qfx m b) with ⟨s,hs,k⟩ | ⟨h,f,_,v,a,_,rfl⟩
    · exact List.mem_append_left _ (List.mem_flatMap.2 ⟨s,hs,by rcases k with rfl | rfl <;> simp⟩)
    · exact List.mem_append_right _ (List.mem_flatMap.2 ⟨h,f,List.mem_map.2 ⟨v,a,rfl⟩⟩)
  rcases g p o with c | ⟨q,j,rfl⟩
  · rw [qlm.2 b] at c;cases c
  · exact j
def ptB (p : qa) : Bool:=decide (-1000000≤p.X) && decide (p.X≤1000000) && decide (-1000000≤p.Y) && decide (p.Y≤1000000)
def segB (s : qt) : Bool:=ptB s.A && ptB s.B && (decide (s.A.X = s.B.X) != decide (s.A.Y = s.B.Y))
theorem qng {s : qt} (h : segB s = true) : SegV s:=by
  simp only [segB,ptB,Bool.and_eq_true,decide_eq_true_eq,bne_iff_ne,ne_eq,decide_eq_decide] at h;obtain ⟨⟨⟨⟨⟨b,d⟩,g⟩,a⟩,⟨⟨b1,b2⟩,j⟩,f⟩,c⟩:=h;refine ⟨⟨b,d,g,a⟩,⟨b1,b2,j,f⟩,?_⟩;by_cases e1 : s.A.X = s.B.X <;> by_cases k : s.A.Y = s.B.Y <;> simp [e1,k] at c ⊢
def netB (l : List qt) (n : Qd) : Bool:=l.all segB && decide (l.length≤24) && qfy l n.Nodes && qet l n
theorem q20 {l : List qt} {n : Qd} (h : netB l n = true) : (∀ s∈l,SegV s)∧l.length≤24∧Jn (rowP l) (colP l) n∧Jo n (U8 n)∧Zf l = some (n,0):=by
  simp only [netB,Bool.and_eq_true,List.all_eq_true,decide_eq_true_eq] at h;obtain ⟨⟨⟨q,k⟩,o⟩,p⟩:=h;have j : ∀ s∈l,SegV s:=fun s hs=>qng (q s hs);obtain ⟨m,e1,_,g,hs,_⟩:=quf k j;have f : m.Nodes = n.Nodes:=qlo g.nodes (qvb j o);have O : m.Edges = n.Edges:=qj8 (by rw [← f];exact g.edges) (qs6 p)
  have : m = n:=by
    obtain ⟨a,b⟩:=m;obtain ⟨c,d⟩:=n;simp only at f O;rw [f,O]
  subst this;exact ⟨j,k,g,hs,e1⟩
end Go.Sh
namespace Go.Sh
open Go Go.Am
open Classical
theorem q83 (p : qa) : q3j p = some (decide (PtB p)):=by
  unfold q3j;by_cases h : PtB p
  · have a:=h;unfold PtB at a;rw [Q9 h,Qh q8,Qh q8,Q9 (show max (max (max p.X (0 - p.X)) p.Y) (0 - p.Y)≤1000000 by omega),Qb,Q9 (show min p.X p.Y ≥ -1000000 by omega)];rfl
  · have a:=h;unfold PtB at a;rw [Qa h];by_cases b : (max (max (max p.X (w64 (0 - p.X))) p.Y) (w64 (0 - p.Y)))≤1000000
    · rw [Q9 b,Qb,Qa (show ¬ min p.X p.Y ≥ -1000000 by omega)];rfl
    · rw [Qa b];rfl
def dirs : List qa:=[{X:=1,Y:=0},{X:=0,Y:=1},{X:=(-1),Y:=0},{X:=0,Y:=(-1)}]
theorem qjm : q2l [] = some 0:=by
  unfold q2l;have : loop (q5h []) 0 = some (.inl ()):=Kc rfl;rw [this];rfl
theorem qsn (p : qa) : q3i [] p = some 2:=by
  unfold q3i q5i;have : loop (q3k [] p) (0,0) = some 0:=Kc rfl;rw [this];rfl
theorem qoc {p : qa} {h : Nat} {d : qa} (g : h < 4) (hd : dirs[h]? = some d) (hp : PtB p) (f : PtB {X:=p.X + d.X,Y:=p.Y + d.Y}) : q1n [] p (h : Int) 1 = some ([p,{X:=p.X + d.X,Y:=p.Y + d.Y}],0):=by
  have b:=f;unfold PtB at b;simp only at b
  have c : idxA 4 dirs (h : Int) = some d:=by
    unfold idxA;simp only [Int.toNat_natCast]
    first
      | (rw [qu q8];exact hd)
      | (rw [qu ⟨q8,q8⟩];exact hd)
      | simp [hd,g]
  have s0 : q2m 1 [] ((h : Int),0,p.X,p.Y,[p]) = some (.inl ((h : Int),1,p.X + d.X,p.Y + d.Y,[p,{X:=p.X + d.X,Y:=p.Y + d.Y}])):=by
    unfold q2m;have a : idxA 4 [({X:=1,Y:=0} : qa),({X:=0,Y:=1} : qa),({X:=(-1),Y:=0} : qa),({X:=0,Y:=(-1)} : qa)] (h : Int) = some d:=c;have c0 : decide ((0 : Int) < 1) = true:=rfl;have c2 : decide ((2 : Int) < 2) = false:=rfl;simp only [c0,Qb,qsn,qr,c2,Q6,a];rw [Qh (x:=p.X + d.X) q8,Qh (x:=p.Y + d.Y) q8,q83,Q9 f];rfl
  have s1 : q2m 1 [] ((h : Int),1,p.X + d.X,p.Y + d.Y,[p,{X:=p.X + d.X,Y:=p.Y + d.Y}]) = some (.inr (.inl [p,{X:=p.X + d.X,Y:=p.Y + d.Y}])):=rfl;unfold q1n;have e0 : ((0 : Int) != 0) = false:=rfl;rw [qjm,qr,e0,Q6,q83,Q9 hp,qr,Bool.not_true,Q6,qr,Qa (show ¬ (h : Int) > 3 by omega),Q6,qr];have c1 : decide ((1 : Int) < 0) = false:=rfl;have c3 : decide ((1 : Int) > 500) = false:=rfl;rw [c1,Q6,qr,c3,Q6,Kf s0,Kc s1];rfl
theorem qer {h : Nat} {d : qa} (b : h < 4) (hd : dirs[h]? = some d) : q95 dirs d = some (h : Int):=by
  have nx : ∀ (d : qa) (k : Nat) (e : qa),dirs[k]? = some e→k < 4→e≠d→q33 dirs d (k : Int) = some (.inl ((k + 1 : Nat) : Int)):=by
    intro d k e c hk f;unfold q33;rw [Q9 (show (k : Int) < (dirs.length : Int) by have : dirs.length = 4:=rfl;omega),Qb];have : idx dirs (k : Int) = some e:=by unfold idx;simp [c]
    rw [this,qr,beqP,Qa (fun h=>f h.symm),Q6,Qh q8];rfl
  have fd : ∀ (d : qa) (k : Nat),dirs[k]? = some d→k < 4→q33 dirs d (k : Int) = some (.inr (.inr (k : Int))):=by
    intro d k c hk;unfold q33;rw [Q9 (show (k : Int) < (dirs.length : Int) by have : dirs.length = 4:=rfl;omega),Qb];have : idx dirs (k : Int) = some d:=by unfold idx;simp [c]
    rw [this,qr,beqP,Q9 rfl,Qb]
  have key : loop (q33 dirs d) ((0 : Nat) : Int) = some (.inr (h : Int)):=by
    have : h = 0∨h = 1∨h = 2∨h = 3:=by omega
    rcases this with rfl | rfl | rfl | rfl
    · exact Kc (fd d 0 hd b)
    · cases hd;rw [Kf (nx _ 0 _ rfl q8 qq)];exact Kc (fd _ 1 rfl b)
    · cases hd;rw [Kf (nx _ 0 _ rfl q8 qq),Kf (nx _ 1 _ rfl q8 qq)];exact Kc (fd _ 2 rfl b)
    · cases hd;rw [Kf (nx _ 0 _ rfl q8 qq),Kf (nx _ 1 _ rfl q8 qq),Kf (nx _ 2 _ rfl q8 qq)];exact Kc (fd _ 3 rfl b)
  have a : loop (q33 dirs d) 0 = some (.inr (h : Int)):=key;unfold q95;rw [a];rfl
end Go.Sh
namespace Go.Sh
open Go Go.Am
open Classical
structure Zc (v : K9) : Prop where
  kind : 1≤v.Kind∧v.Kind≤4
  at_ : PtB v.At
  weight : 1≤v.Weight∧v.Weight≤1000000
  reach : 0≤v.Reach∧v.Reach≤1000000
noncomputable def Jt (l : List K9) : Int:=if 60 < l.length then 4 else if ∀ v∈l,Zc v then 0 else 8
theorem qyq (v : K9) : ((cond (decide (v.Kind < 1)) (some true) (some (decide (v.Kind > 4)))).bind fun f=>(cond f (some true) ((q3j v.At).bind fun d=>some (!d))).bind fun g=>(cond g (some true) (some (decide (v.Weight < 1)))).bind fun l=>(cond l (some true) (some (decide (v.Weight > 1000000)))).bind fun j=>(cond j (some true) (some (decide (v.Reach < 0)))).bind fun k=>(cond k (some true) (some (decide (v.Reach > 1000000))))) = some (!decide (Zc v)):=by
  rw [q83];by_cases b : v.Kind < 1
  · simp [b];exact fun h=>by have:=h.kind;omega
  by_cases c : v.Kind > 4
  · simp [b,c];exact fun h=>by have:=h.kind;omega
  by_cases a : PtB v.At
  case neg=>simp [b,c,a];exact fun h=>a h.at_
  by_cases w1 : v.Weight < 1
  · simp [b,c,a,w1];exact fun h=>by have:=h.weight;omega
  by_cases w2 : v.Weight > 1000000
  · simp [b,c,a,w1,w2];exact fun h=>by have:=h.weight;omega
  by_cases m : v.Reach < 0
  · simp [b,c,a,w1,w2,m];exact fun h=>by have:=h.reach;omega
  by_cases n : v.Reach > 1000000
  · simp [b,c,a,w1,w2,m,n];exact fun h=>by have:=h.reach;omega
  · simp [b,c,a,w1,w2,m,n];exact ⟨q8,a,q8,q8⟩
theorem qq4 {f : Int→Option (Int ⊕ (Unit ⊕ Int))} {l : List K9} (m : l.length≤1000)
    (hs : ∀ k (hk : k < l.length),f (k : Int) = if Zc l[k] then some (.inl (w64 ((k : Int) + 1))) else some (.inr (.inr 8))) (hd : f (l.length : Int) = some (.inr (.inl ()))) : loop f 0 = some (if ∀ v∈l,Zc v then .inl () else .inr 8):=by
  have:=Yx (f:=f) (σ:=Unit) (fun k _=>(k : Int)) l.length (fun k _=>∀ i (hi : i < l.length),i < k→Zc l[i]) (fun o=>o = if ∀ v∈l,Zc v then .inl () else .inr 8) ?_ ?_ (k0:=0) (c0:=()) q8 (fun i hi h=>q8)
  · obtain ⟨b,g,rfl⟩:=this;exact g
  · rintro k _ hk c;have:=hs k hk;by_cases a : Zc l[k]
    · rw [qu a,Qh q8] at this;refine .inl ⟨(),by rw [this];rfl,fun i hi j=>?_⟩;by_cases e : i = k
      · subst e;exact a
      · exact c i hi q8
    · rw [qw a] at this;exact .inr ⟨_,this,by rw [qw (fun h=>a (h _ (Yi hk)))]⟩
  · rintro _ c;refine ⟨_,hd,?_⟩;rw [qu];intro s d;obtain ⟨i,hi,rfl⟩:=List.mem_iff_getElem.1 d;exact c i hi hi
theorem qjn (l : List K9) : q2l l = some (Jt l):=by
  unfold q2l Jt;by_cases h : 60 < l.length
  · rw [Q9 (show (l.length : Int) > 60 by omega),qu h];rfl
  · rw [Qa (show ¬ (l.length : Int) > 60 by omega),qw h,Q6,qq4 (l:=l) q8 (fun k hk=>?_) (by simp only [q5h,dnl',Q6])]
    · by_cases b : ∀ v∈l,Zc v
      · rw [qu b,qu b];rfl
      · rw [qw b,qw b];rfl
    · have hp:=qyq l[k];simp only [q5h,dlt' hk,Qb,Ko hk,qr];simp only [← Option.bind_assoc] at hp ⊢;rw [hp];by_cases a : Zc l[k]
      · rw [qu a,Q9 a];rfl
      · rw [qw a,Qa a];rfl
end Go.Sh
namespace Go.Sh
open Go Go.Am
open Classical
def absI (a : Int) : Int:=max a (0 - a)
def sgn (k dx dy : Int) : Int:=if k = 1 then 1 else if k = 2 then -1 else if k = 3 then (if dy > dx then 1 else if dy < dx then -1 else 0) else (if dy > dx then -1 else if dy < dx then 1 else 0)
def q65 (v : K9) (p : qa) : Int:=if max (absI (p.X - v.At.X)) (absI (p.Y - v.At.Y)) > v.Reach then 0 else sgn v.Kind (absI (p.X - v.At.X)) (absI (p.Y - v.At.Y)) * (v.Weight * (v.Reach + 1 - max (absI (p.X - v.At.X)) (absI (p.Y - v.At.Y))))
theorem qgr (k a b : Int) : sgn k a b = 1∨sgn k a b = -1∨sgn k a b = 0:=by
  unfold sgn
  repeat' split
  all_goals simp
theorem qmj {w t : Int} (b : 1≤w∧w≤1000000) (a : 0≤t∧t≤1000001) : 0≤w * t∧w * t≤1000001000000:=by
  have:=Int.mul_le_mul b.2 a.2 a.1 q8;exact ⟨Int.mul_nonneg q8 a.1,q8⟩
theorem qmk {v : K9} (h : Zc v) {p : qa} (hp : PtB p) : -1000001000000≤q65 v p∧q65 v p≤1000001000000:=by
  unfold q65;split
  · omega
  · rename_i a;have hd : 0≤max (absI (p.X - v.At.X)) (absI (p.Y - v.At.Y)):=by unfold absI;omega
    have:=qmj h.weight (t:=v.Reach + 1 - max (absI (p.X - v.At.X)) (absI (p.Y - v.At.Y))) (by have:=h.reach;omega);rcases qgr v.Kind (absI (p.X - v.At.X)) (absI (p.Y - v.At.Y)) with e | e | e <;> rw [e] <;> omega
def sumV (p : qa) : List K9→Int
  | []=>0
  | v::l=>q65 v p + sumV p l
theorem q132 (p : qa) (a b : List K9) : sumV p (a ++ b) = sumV p a + sumV p b:=by
  induction a with
  | nil=>simp [sumV]
  | cons s a ih=>simp only [List.cons_append,sumV,ih];omega
theorem qo6 {p : qa} (hp : PtB p) : ∀ {l : List K9},(∀ v∈l,Zc v)→-1000001000000 * (l.length : Int)≤sumV p l∧sumV p l≤1000001000000 * (l.length : Int)
  | [],_=>by simp [sumV]
  | v::l,h=>by
    have:=qmk (h v qd) hp
    have:=qo6 hp (l:=l) fun t a=>h t (by simp [a])
    simp only [sumV,List.length_cons];omega
theorem qhp {a b : Int} (c : -1000000≤a∧a≤1000000) (hb : -1000000≤b∧b≤1000000) : (max (w64 (a - b)) (w64 (0 - (w64 (a - b))))) = absI (a - b):=by
  rw [Qh (x:=a - b) q8,Qh q8];rfl
theorem qyp (k b a : Int) (hk : 1≤k∧k≤4) : (cond (k == 1) (some (1 : Int)) (cond (k == 2) (some (-1)) ((cond ((k == 3) == (decide (a > b))) (some (b != a)) (some false)).bind fun f=>cond f (some 1) (cond (b != a) (some (-1)) (some 0))))) = some (sgn k b a):=by
  have g : (b != a) = !decide (b = a):=by rw [bne,beqI]
  rw [g,beqI,beqI,beqI];unfold sgn;have : k = 1∨k = 2∨k = 3∨k = 4:=by omega
  rcases this with rfl | rfl | rfl | rfl
  · simp
  · simp
  · by_cases c : a > b
    · have : ¬ b = a:=by omega
      simp [c,this]
    · by_cases d : a < b
      · have : ¬ b = a:=by omega
        simp [c,d,this]
      · have : b = a:=by omega
        simp [c,d,this]
  · by_cases c : a > b
    · have : ¬ b = a:=by omega
      simp [c,this]
    · by_cases d : a < b
      · have : ¬ b = a:=by omega
        simp [c,d,this]
      · have : b = a:=by omega
        simp [c,d,this]
theorem qt1 {l : List K9} (hl : l.length≤60) (u : ∀ v∈l,Zc v) {p : qa} (hp : PtB p) : q5i l p = some (sumV p l):=by
  have hp':=hp;unfold PtB at hp';have:=Yx (f:=q3k l p) (σ:=Int) (fun k a=>((k : Int),a)) l.length (fun k a=>a = sumV p (l.take k)) (fun a=>a = sumV p l) ?_ ?_ (k0:=0) (c0:=0) q8 (by simp [sumV])
  · obtain ⟨b,r,rfl⟩:=this;have r : loop (q3k l p) (0,0) = some (sumV p l):=r;unfold q5i;rw [r];rfl
  · rintro k a hk rfl;have c:=u _ (Yi hk);have q:=c.at_;unfold PtB at q
    have e1 : sumV p (l.take (k + 1)) = sumV p (l.take k) + q65 l[k] p:=by
      rw [List.take_succ_eq_append_getElem hk,q132];simp [sumV]
    have hb:=qo6 hp (l:=l.take k) fun v h=>u v (List.mem_of_mem_take h);have o : (l.take k).length = k:=by simp;omega
    rw [o] at hb;have g:=qmk c hp;refine .inl ⟨sumV p (l.take (k + 1)),?_,rfl⟩;simp only [q3k,dlt' hk,Qb,Ko hk,qr];rw [qhp q8 q8,qhp q8 q8,e1];generalize j : absI (p.X - l[k].At.X) = dx;generalize m : absI (p.Y - l[k].At.Y) = dy;have aa : 0≤dx∧0≤dy:=by rw [← j,← m];unfold absI;omega
    unfold q65 at g ⊢;rw [j,m] at g ⊢;by_cases n : max dx dy > l[k].Reach
    · rw [Q9 n,Qb,qu n,qr,Qh q8,Int.add_zero];rfl
    · rw [qw n] at g;rw [Qa n,Q6,qw n,qyp _ _ _ c.kind];simp only [qr];have w:=c.weight;have y:=c.reach;have z:=qmj w (t:=l[k].Reach + 1 - max dx dy) q8;rw [Qh (x:=l[k].Reach + 1) q8,Qh (x:=l[k].Reach + 1 - max dx dy) q8];have hs : w64 (sgn l[k].Kind dx dy * l[k].Weight) = sgn l[k].Kind dx dy * l[k].Weight:=Qh (by rcases qgr l[k].Kind dx dy with e | e | e <;> rw [e] <;> omega);rw [hs];have d : sgn l[k].Kind dx dy * l[k].Weight * (l[k].Reach + 1 - max dx dy) = sgn l[k].Kind dx dy * (l[k].Weight * (l[k].Reach + 1 - max dx dy)):=Int.mul_assoc _ _ _;rw [d]
      have s : -1000001000000≤sgn l[k].Kind dx dy * (l[k].Weight * (l[k].Reach + 1 - max dx dy))∧sgn l[k].Kind dx dy * (l[k].Weight * (l[k].Reach + 1 - max dx dy))≤1000001000000:=by
        rcases qgr l[k].Kind dx dy with e | e | e <;> rw [e] <;> omega
      rw [Qh (x:=sgn l[k].Kind dx dy * (l[k].Weight * (l[k].Reach + 1 - max dx dy))) q8,Qh (x:=sumV p (l.take k) + _) q8,Qh q8];rfl
  · rintro a rfl;exact ⟨_,by simp only [q3k,dnl',Q6];rfl,by rw [List.take_length]⟩
end Go.Sh
namespace Go.Sh
open Go Go.Am
open Classical
def Ur (l : List K9) (p : qa) : Nat:=if sumV p l > 0 then 0 else if sumV p l < 0 then 1 else 2
theorem qp0 {l : List K9} (d : l.length≤60) (c : ∀ v∈l,Zc v) {p : qa} (hp : PtB p) : q3i l p = some (Ur l p : Int)∧Nrf:=by
  unfold q3i Ur;rw [qt1 d c hp];simp only [qr];by_cases a : sumV p l > 0
  · simp [a];exact rfl
  · by_cases b : sumV p l < 0
    · simp [a,b];exact rfl
    · simp [a,b];exact rfl
end Go.Sh
namespace Go.Sh
open Go Go.Am
open Classical
def Y2 (l : List K9) (p : qa) (h : Nat) : Nat:=if Ur l p < 2∧h % 2≠Ur l p then (h + 1) % 4 else h
def dirV (h : Nat) : qa:=(dirs[h]?).getD {X:=0,Y:=0}
def goV (l : List K9) (p : qa) (h : Nat) : qa:={X:=p.X + (dirV (Y2 l p h)).X,Y:=p.Y + (dirV (Y2 l p h)).Y}
theorem qcj {l : List K9} {p : qa} {h : Nat} (a : h < 4) : Y2 l p h < 4:=by unfold Y2;split <;> omega
theorem qiz {h : Nat} (a : h < 4) : dirs[h]? = some (dirV h):=by
  have : h = 0∨h = 1∨h = 2∨h = 3:=by omega
  rcases this with rfl | rfl | rfl | rfl <;> rfl
theorem qiy {h : Nat} (a : h < 4) : -1≤(dirV h).X∧(dirV h).X≤1∧-1≤(dirV h).Y∧(dirV h).Y≤1:=by
  have : h = 0∨h = 1∨h = 2∨h = 3:=by omega
  rcases this with rfl | rfl | rfl | rfl <;> decide
theorem qth {a h : Nat} (g : h < 4) (f : a < 3) : ((cond (decide ((a : Int) < 2)) (some ((Int.tmod (h : Int) 2) != (a : Int))) (some false)).bind fun c=>(cond c (some (Int.tmod (IntKind.wrap .u8 ((h : Int) + 1)) 4)) (some (h : Int)))) = some (((if a < 2∧h % 2≠a then (h + 1) % 4 else h : Nat)) : Int):=by
  have b : h = 0∨h = 1∨h = 2∨h = 3:=by omega
  have d : a = 0∨a = 1∨a = 2:=by omega
  rcases b with rfl | rfl | rfl | rfl <;> rcases d with rfl | rfl | rfl <;> rfl
theorem q139 {l : List K9} (o : l.length≤60) (n : ∀ v∈l,Zc v) {p : qa} (hp : PtB p) {h : Nat} (k : h < 4) : q1n l p (h : Int) 1 = some (if PtB (goV l p h) then ([p,goV l p h],0) else ([],16)):=by
  have hp':=hp;unfold PtB at hp';have m:=qcj (l:=l) (p:=p) k;have hd:=qiz m;have f:=qiy m
  have d : idxA 4 [({X:=1,Y:=0} : qa),({X:=0,Y:=1} : qa),({X:=(-1),Y:=0} : qa),({X:=0,Y:=(-1)} : qa)] (Y2 l p h : Int) = some (dirV (Y2 l p h)):=by
    unfold idxA;rw [qu q8,Int.toNat_natCast];exact hd
  have r:=qth (a:=Ur l p) k (by unfold Ur;split <;> (try split) <;> omega)
  have j : q2l l = some 0:=by
    rw [qjn];unfold Jt;rw [qw q8,qu n]
  have c0 : decide ((0 : Int) < 1) = true:=rfl;have e0 : ((0 : Int) != 0) = false:=rfl
  have s0 : q2m 1 l ((h : Int),0,p.X,p.Y,[p]) = if PtB (goV l p h) then some (.inl ((Y2 l p h : Int),1,(goV l p h).X,(goV l p h).Y,[p,goV l p h])) else some (.inr (.inr ([],16))):=by
    unfold q2m;have q : q3i l ({X:=p.X,Y:=p.Y} : qa) = some (Ur l p : Int):=(qp0 o n hp).1;simp only [c0,Qb,q,qr];rw [← Option.bind_assoc,r,qr];have b:=d;unfold Y2 at b ⊢;simp only [b,qr];have g : goV l p h = {X:=p.X + (dirV (if Ur l p < 2∧h % 2≠Ur l p then (h + 1) % 4 else h)).X,Y:=p.Y + (dirV (if Ur l p < 2∧h % 2≠Ur l p then (h + 1) % 4 else h)).Y}:=rfl;unfold Y2 at f;rw [Qh (x:=p.X + _) q8,Qh (x:=p.Y + _) q8,← g,q83,qr];by_cases c : PtB (goV l p h)
    · rw [Q9 c,qu c];rfl
    · rw [Qa c,qw c];rfl
  unfold q1n;rw [j,qr,e0,Q6,q83,Q9 hp,qr,Bool.not_true,Q6,qr,Qa (show ¬ (h : Int) > 3 by omega),Q6,qr];have c1 : decide ((1 : Int) < 0) = false:=rfl;have c3 : decide ((1 : Int) > 500) = false:=rfl;rw [c1,Q6,qr,c3,Q6];by_cases c : PtB (goV l p h)
  · rw [qu c] at s0 ⊢;have s1 : q2m 1 l ((Y2 l p h : Int),1,(goV l p h).X,(goV l p h).Y,[p,goV l p h]) = some (.inr (.inl [p,goV l p h])):=rfl;rw [Kf s0,Kc s1];rfl
  · rw [qw c] at s0 ⊢;rw [Kc s0];rfl
end Go.Sh
namespace Go.Sh
open Go Go.Am
open Classical
def Run (s : qt) (h : Nat) : Prop:=∃ m : Nat,1≤m∧s.B.X = s.A.X + m * (dirV h).X∧s.B.Y = s.A.Y + m * (dirV h).Y
theorem qna {p : qa} {h : Nat} : Run {A:=p,B:={X:=p.X + (dirV h).X,Y:=p.Y + (dirV h).Y}} h:=⟨1,q8,qd,qd⟩
theorem qn9 {s : qt} {h : Nat} (c : Run s h) : Run {A:=s.A,B:={X:=s.B.X + (dirV h).X,Y:=s.B.Y + (dirV h).Y}} h:=by
  obtain ⟨m,d,b,a⟩:=c;refine ⟨m + 1,q8,?_,?_⟩
  · simp only [b,Int.natCast_add,Int.add_mul];omega
  · simp only [a,Int.natCast_add,Int.add_mul];omega
theorem q7t {h : Nat} (a : h < 4) : dirV h = {X:=1,Y:=0}∨dirV h = {X:=0,Y:=1}∨dirV h = {X:=-1,Y:=0}∨dirV h = {X:=0,Y:=-1}:=by
  have : h = 0∨h = 1∨h = 2∨h = 3:=by omega
  rcases this with rfl | rfl | rfl | rfl
  · exact .inl rfl
  · exact .inr (.inl rfl)
  · exact .inr (.inr (.inl rfl))
  · exact .inr (.inr (.inr rfl))
theorem qw4 {p : qa} {h : Nat} (a : h < 4) (z : qa) : Zu {A:=p,B:={X:=p.X + (dirV h).X,Y:=p.Y + (dirV h).Y}} z↔z = p∨z = {X:=p.X + (dirV h).X,Y:=p.Y + (dirV h).Y}:=by
  obtain ⟨b,c⟩:=z;obtain ⟨d,f⟩:=p;unfold Zu;simp only [qa.mk.injEq];rcases q7t a with e | e | e | e <;> rw [e] <;> simp only <;> omega
theorem qw3 {s : qt} {h : Nat} (c : h < 4) (d : Run s h) (z : qa) : Zu {A:=s.A,B:={X:=s.B.X + (dirV h).X,Y:=s.B.Y + (dirV h).Y}} z↔Zu s z∨z = {X:=s.B.X + (dirV h).X,Y:=s.B.Y + (dirV h).Y}:=by
  obtain ⟨g,j⟩:=z;obtain ⟨⟨k,n⟩,⟨bx,f⟩⟩:=s;obtain ⟨m,l,a,b⟩:=d;unfold Zu;simp only [qa.mk.injEq] at a b ⊢;rcases q7t c with e | e | e | e <;> rw [e] at a b ⊢ <;> simp only at a b ⊢ <;> omega
end Go.Sh
namespace Go.Sh
open Go Go.Am
def onB (s : qt) (z : qa) : Bool:=decide (min s.A.X s.B.X≤z.X) && decide (z.X≤max s.A.X s.B.X) && (decide (min s.A.Y s.B.Y≤z.Y) && decide (z.Y≤max s.A.Y s.B.Y))
def anyB (l : List qt) (z : qa) : Bool:=l.any fun s=>onB s z
theorem qw1 {s : qt} {z : qa} : onB s z = true↔Zu s z:=by
  simp only [onB,Zu,Bool.and_eq_true,decide_eq_true_eq]
theorem qe1 {l : List qt} {z : qa} : anyB l z = true↔∃ s∈l,Zu s z:=by
  simp only [anyB,List.any_eq_true,qw1]
theorem qos (l : List qt) (z : qa) : q5c l z = anyB l z:=by
  have h : q5c l z = true↔anyB l z = true:=by
    rw [qe1];unfold q5c;simp only [List.any_eq_true,decide_eq_true_eq]
  cases a : q5c l z <;> cases b : anyB l z <;> simp_all
theorem qe0 (a b : List qt) (z : qa) : anyB (a ++ b) z = (anyB a z || anyB b z):=by unfold anyB;rw [List.any_append]
theorem q8q {p : qa} : ptB p = true↔PtB p:=by
  simp only [ptB,PtB,Bool.and_eq_true,decide_eq_true_eq,and_assoc]
def ownN (own : List qt) (go : Bool) (p q : qa) : List qt:=match own.getLast? with
  | some s=>if go then own.dropLast ++ [{A:=s.A,B:=q}] else own ++ [{A:=p,B:=q}]
  | none=>[{A:=p,B:=q}]
theorem qm4 (go : Bool) (p q : qa) : ownN [] go p q = [{A:=p,B:=q}]:=rfl
theorem qd7 (a : List qt) (s : qt) (go : Bool) (p q : qa) : ownN (a ++ [s]) go p q = if go then a ++ [{A:=s.A,B:=q}] else a ++ [s] ++ [{A:=p,B:=q}]:=by
  simp [ownN]
abbrev J9 (p : qa) (h : Nat) : qa:={X:=p.X + (dirV h).X,Y:=p.Y + (dirV h).Y}
def rowQ (s : qt) (y x : Int) : Prop:=s.A.Y = s.B.Y∧s.A.Y = y∧min s.A.X s.B.X≤x∧x < max s.A.X s.B.X
def colQ (s : qt) (x y : Int) : Prop:=s.A.Y≠s.B.Y∧s.A.X = x∧min s.A.Y s.B.Y≤y∧y < max s.A.Y s.B.Y
theorem qsm {s : qt} {h : Nat} (c : h < 4) (d : Run s h) (y x : Int) : rowQ {A:=s.A,B:=J9 s.B h} y x↔rowQ s y x∨rowQ {A:=s.B,B:=J9 s.B h} y x:=by
  obtain ⟨⟨g,k⟩,⟨bx,f⟩⟩:=s;obtain ⟨m,j,a,b⟩:=d;unfold rowQ;simp only at a b ⊢;rcases q7t c with e | e | e | e <;> rw [e] at a b ⊢ <;> simp only at a b ⊢ <;> omega
theorem qsk {s : qt} {h : Nat} (c : h < 4) (d : Run s h) (x y : Int) : colQ {A:=s.A,B:=J9 s.B h} x y↔colQ s x y∨colQ {A:=s.B,B:=J9 s.B h} x y:=by
  obtain ⟨⟨g,k⟩,⟨bx,f⟩⟩:=s;obtain ⟨m,j,a,b⟩:=d;unfold colQ;simp only at a b ⊢;rcases q7t c with e | e | e | e <;> rw [e] at a b ⊢ <;> simp only at a b ⊢ <;> omega
theorem qnb {s : qt} {h : Nat} (d : h < 4) (f : Run s h) (c : PtB s.A) (hb : PtB s.B) : SegV s:=by
  rw [q6f];refine ⟨c,hb,?_⟩;obtain ⟨m,g,a,b⟩:=f;rcases q7t d with e | e | e | e <;> rw [e] at a b <;> simp only at a b <;> omega
structure q5a (own : List qt) (h : Nat) (p : qa) : Prop where
  last : own = []∨∃ a s,own = a ++ [s]∧Run s h∧s.B = p
  val : ∀ s∈own,SegV s
theorem qx8 (h : Nat) (p : qa) : q5a [] h p:=⟨.inl rfl,fun s hs=>(by cases hs)⟩
structure qdv (own own' : List qt) (p q : qa) : Prop where
  on : ∀ z,(∃ s∈own',Zu s z)↔(∃ s∈own,Zu s z)∨z = p∨z = q
  row : ∀ y x,(∃ s∈own',rowQ s y x)↔(∃ s∈own,rowQ s y x)∨rowQ {A:=p,B:=q} y x
  col : ∀ x y,(∃ s∈own',colQ s x y)↔(∃ s∈own,colQ s x y)∨colQ {A:=p,B:=q} x y
theorem q2k {α : Type} {a : List α} {s : α} {P : α→Prop} : (∃ t∈a ++ [s],P t)↔(∃ t∈a,P t)∨P s:=by
  constructor
  · rintro ⟨t,c,h⟩;rcases List.mem_append.1 c with b | b
    · exact .inl ⟨t,b,h⟩
    · rw [List.mem_singleton] at b;subst b;exact .inr h
  · rintro (⟨t,b,h⟩ | h)
    · exact ⟨t,List.mem_append_left _ b,h⟩
    · exact ⟨s,qd,h⟩
theorem qm5 {own : List qt} {h a : Nat} {p : qa} (c : a < 4) (d : q5a own h p) (hp : PtB p) (f : PtB (J9 p a)) : q5a (own ++ [{A:=p,B:=J9 p a}]) a (J9 p a)∧qdv own (own ++ [{A:=p,B:=J9 p a}]) p (J9 p a):=by
  refine ⟨⟨.inr ⟨own,_,rfl,qna,rfl⟩,fun s hs=>?_⟩,fun z=>?_,fun y x=>q2k,fun x y=>q2k⟩
  · rcases List.mem_append.1 hs with b | b
    · exact d.val s b
    · rw [List.mem_singleton] at b;subst b;exact qnb c qna hp f
  · rw [q2k,qw4 c]
theorem qx9 {own : List qt} {h c : Nat} {p : qa} (d : c < 4) (f : q5a own h p) (hp : PtB p) (j : PtB (J9 p c)) :
    q5a (ownN own (c == h) p (J9 p c)) c (J9 p c)∧qdv own (ownN own (c == h) p (J9 p c)) p (J9 p c):=by
  rcases f.last with rfl | ⟨a,s,rfl,g,rfl⟩
  · rw [qm4];exact qm5 d f hp j
  · rw [qd7];by_cases e : c = h
    · subst e;rw [beq_self_eq_true,qu rfl];have hs:=f.val s qd;refine ⟨⟨.inr ⟨a,_,rfl,qn9 g,rfl⟩,fun t k=>?_⟩,fun z=>?_,fun y x=>?_,fun x y=>?_⟩
      · rcases List.mem_append.1 k with b | b
        · exact f.val t (List.mem_append_left _ b)
        · rw [List.mem_singleton] at b;subst b;exact qnb d (qn9 g) ((q6f s).1 hs).1 j
      · rw [q2k,q2k,qw3 d g];have l : Zu s s.B:=by unfold Zu;omega
        constructor
        · rintro (b | b | b)
          · exact .inl (.inl b)
          · exact .inl (.inr b)
          · exact .inr (.inr b)
        · rintro ((b | b) | b | b)
          · exact .inl b
          · exact .inr (.inl b)
          · subst b;exact .inr (.inl l)
          · exact .inr (.inr b)
      · rw [q2k,q2k,qsm d g,or_assoc]
      · rw [q2k,q2k,qsk d g,or_assoc]
    · have : (c == h) = false:=by simpa using e
      rw [this,qw qd];exact qm5 d f hp j
def U1 (l : List K9) (o : qa) : Nat→Nat→qa→List qt→List qt→Int × List qt
  | 0,_,_,out,own=>(0,out ++ own)
  | n + 1,h,p,out,own=>
    if ptB (goV l p h) then
      if 400 < out.length + (ownN own (Y2 l p h == h) p (goV l p h)).length then (4,[])
      else if decide (goV l p h = o) || anyB out (goV l p h) || anyB own (goV l p h) then (0,out ++ ownN own (Y2 l p h == h) p (goV l p h))
      else U1 l o n (Y2 l p h) (goV l p h) out (ownN own (Y2 l p h == h) p (goV l p h))
    else (16,[])
def Jw (l : List K9) : List Ka→List qt→Int × List qt
  | [],out=>(0,out)
  | w::ws,out=>if (U1 l w.At w.Steps.toNat w.Head.toNat w.At out []).1 = 0 then Jw l ws (U1 l w.At w.Steps.toNat w.Head.toNat w.At out []).2 else ((U1 l w.At w.Steps.toNat w.Head.toNat w.At out []).1,[])
end Go.Sh
namespace Go.Sh
open Go Go.Am
def q2b (vis : List (qa × Bool)) (segs : List qt) : Prop:=∀ z,K5 false z vis = anyB segs z
theorem q13a : q2b [] []:=fun z=>rfl
theorem q13b {vis : List (qa × Bool)} {out own a : List qt} {p q : qa} (h : q2b vis (out ++ own)) (f : qdv own a p q) : q2b (K8 q true (K8 p true vis)) (out ++ a):=by
  intro z;have b:=f.on z;rw [← qe1,← qe1] at b;rw [q8h,q8h,qe0];have d:=h z;rw [qe0] at d;by_cases e1 : z = q
  · rw [qu e1,b.2 (.inr (.inr e1)),Bool.or_true]
  · rw [qw e1];by_cases c : z = p
    · rw [qu c,b.2 (.inr (.inl c)),Bool.or_true]
    · rw [qw c,d]
      have : anyB own z = anyB a z:=by
        cases j : anyB own z <;> cases g : anyB a z <;> simp_all
      rw [this]
theorem qt2 (l : List K9) (p : qa) (h : Nat) : goV l p h = J9 p (Y2 l p h):=rfl
theorem q13q {h : Nat} (a : h < 4) : IntKind.wrap .u8 (h : Int) = (h : Int):=by
  have : h = 0∨h = 1∨h = 2∨h = 3:=by omega
  rcases this with rfl | rfl | rfl | rfl <;> rfl
theorem qux (a b : Nat) : ((a : Int) == (b : Int)) = (a == b):=by
  cases h : (a == b)
  · simp only [beq_eq_false_iff_ne,ne_eq] at h ⊢;omega
  · simp only [beq_iff_eq] at h ⊢;omega
theorem q10v {α : Type} (a : List α) (s t : α) (c : a.length≤1000) : idx (a ++ [s]) (w64 (((a ++ [s]).length : Int) - 1)) = some s∧(a ++ [s]).set (w64 (((a ++ [s]).length : Int) - 1)).toNat t = a ++ [t]:=by
  have b : w64 (((a ++ [s]).length : Int) - 1) = (a.length : Int):=by rw [Qh (by simp;omega)];simp
  rw [b,Int.toNat_natCast];exact ⟨by rw [Ko qd];simp,qd⟩
theorem q13h {l : List K9} (hl : l.length≤60) (hv : ∀ v∈l,Zc v) (w : Ka) {h k : Nat} {p : qa} {out own : List qt} {vis : List (qa × Bool)}
    (hh : h < 4) (hp : PtB p) (hk : (k : Int) < w.Steps) (aj : k≤1000) (z : own = []↔k = 0) (f : out.length + own.length≤400) :
    Z5 w l ((h : Int),(k : Int),vis,out ++ own,p.X,p.Y) = if ptB (goV l p h) then
      (if 400 < out.length + (ownN own (Y2 l p h == h) p (goV l p h)).length then some (.inr (.inr (4,vis,[])))
        else if (decide (goV l p h = w.At) || K5 false (goV l p h) vis) = true then some (.inr (.inl (K8 (goV l p h) true (K8 p true vis),out ++ ownN own (Y2 l p h == h) p (goV l p h))))
        else some (.inl ((Y2 l p h : Int),((k + 1 : Nat) : Int),K8 (goV l p h) true (K8 p true vis),out ++ ownN own (Y2 l p h == h) p (goV l p h),(goV l p h).X,(goV l p h).Y)))
      else some (.inr (.inr (16,vis,[]))):=by
  have hH:=qcj (l:=l) (p:=p) hh;have hd:=qiz hH;have hb:=qiy hH;have ht:=q139 hl hv hp hh;have hp':=hp;unfold PtB at hp';have af : q1n l ({X:=p.X,Y:=p.Y} : qa) (h : Int) 1 = _:=ht;have hP : ({X:=p.X,Y:=p.Y} : qa) = p:=rfl;unfold Z5;simp only [Q9 hk,Qb,af];by_cases hq : PtB (goV l p h)
  case neg=>
    rw [qw hq,qw (fun h=>hq (q8q.1 h))];rfl
  rw [qu hq,qu (q8q.2 hq)];have e0 : ((0 : Int) != 0) = false:=rfl;have u : ∀ a b : qa,idx [a,b] 1 = some b:=fun a b=>rfl
  have hw : ({X:=w64 ((goV l p h).X - p.X),Y:=w64 ((goV l p h).Y - p.Y)} : qa) = dirV (Y2 l p h):=by
    unfold goV;generalize dirV (Y2 l p h) = d at hb ⊢;obtain ⟨a,b⟩:=d;simp only at hb ⊢;rw [Qh q8,Qh q8];simp only [qa.mk.injEq];omega
  have r:=qer hH hd;unfold dirs at r
  have ah : (cond (decide ((k : Int) > 0)) (some ((Y2 l p h : Int) == (h : Int))) (some false)) = some (decide (0 < k) && (Y2 l p h == h)):=by
    rw [qux];by_cases g : 0 < k
    · rw [Q9 g,Q9 (show (k : Int) > 0 by omega)];rfl
    · rw [Qa g,Qa (show ¬ (k : Int) > 0 by omega)];rfl
  have aa : (cond (decide (0 < k) && (Y2 l p h == h)) ((idx (out ++ own) (w64 (((out ++ own).length : Int) - 1))).bind fun j=>some (.inl ((out ++ own).set (w64 (((out ++ own).length : Int) - 1)).toNat ({A:=j.A,B:=goV l p h} : qt)))) ((app 32 (out ++ own) [({A:=({X:=p.X,Y:=p.Y} : qa),B:=goV l p h} : qt)]).bind fun c=>cond (decide ((c.length : Int) > 400)) (some (.inr (4,vis,[]))) (some (.inl c))) : Option ((List qt) ⊕ (Int × (List (qa × Bool)) × List qt))) =
      if 400 < out.length + (ownN own (Y2 l p h == h) p (goV l p h)).length then some (.inr (4,vis,[])) else some (.inl (out ++ ownN own (Y2 l p h == h) p (goV l p h))):=by
    have y : ∀ t : qt,app 32 (out ++ own) [t] = some (out ++ (own ++ [t])):=by
      intro t;rw [Jc (by simp;omega),List.append_assoc]
    have o : ownN own (Y2 l p h == h) p (goV l p h) = own ++ [{A:=p,B:=goV l p h}]→(decide (0 < k) && (Y2 l p h == h)) = false→(cond (decide (0 < k) && (Y2 l p h == h)) ((idx (out ++ own) (w64 (((out ++ own).length : Int) - 1))).bind fun j=>some (.inl ((out ++ own).set (w64 (((out ++ own).length : Int) - 1)).toNat ({A:=j.A,B:=goV l p h} : qt)))) ((app 32 (out ++ own) [({A:=({X:=p.X,Y:=p.Y} : qa),B:=goV l p h} : qt)]).bind fun c=>cond (decide ((c.length : Int) > 400)) (some (.inr (4,vis,[]))) (some (.inl c))) : Option ((List qt) ⊕ (Int × (List (qa × Bool)) × List qt))) =
      if 400 < out.length + (ownN own (Y2 l p h == h) p (goV l p h)).length then some (.inr (4,vis,[])) else some (.inl (out ++ ownN own (Y2 l p h == h) p (goV l p h))):=fun e g=>by
      rw [g,Q6,y,qr,e]
      by_cases q : 400 < out.length + (own ++ [({A:=p,B:=goV l p h} : qt)]).length
      · rw [Q9 (by rw [List.length_append];omega),qu q];rfl
      · rw [Qa (by rw [List.length_append];omega),qw q];rfl
    rcases List.eq_nil_or_concat own with m | ⟨a,s,m⟩
    · refine o (by rw [m];rfl) ?_
      rw [Qa (by have:=z.1 m;omega),Bool.false_and]
    · rw [List.concat_eq_append] at m
      have ad : 0 < k:=by
        rcases Nat.eq_zero_or_pos k with h1 | h1
        · have:=z.2 h1;rw [m] at this;simp at this
        · exact h1
      by_cases n : (Y2 l p h == h) = true
      · rw [n,Q9 ad,Bool.and_self,Qb,m,qd7,qu rfl]
        have ag : (out ++ a).length≤1000:=by rw [m] at f;simp at f ⊢;omega
        obtain ⟨g1,g2⟩:=q10v (out ++ a) s {A:=s.A,B:=goV l p h} ag
        rw [← List.append_assoc,g1,qr,g2]
        rw [qw (by rw [m] at f;simp at f ⊢;omega),List.append_assoc]
      · exact o (by rw [m,qd7,qw n]) (by simp only [Bool.not_eq_true] at n;rw [n,Bool.and_false])
  simp only [qr,e0,Q6,u,hw,r,q13q hH,ah];rw [aa];by_cases q : 400 < out.length + (ownN own (Y2 l p h == h) p (goV l p h)).length
  · rw [qu q,qu q];rfl
  · rw [qw q,qw q]
    have hc : (cond (K5 false (goV l p h) vis) (some true) (some (((goV l p h).X == w.At.X) && (((goV l p h).Y == w.At.Y) && true)))) = some (decide (goV l p h = w.At) || K5 false (goV l p h) vis):=by
      rw [beqP];cases K5 false (goV l p h) vis
      · rw [Bool.or_false];rfl
      · rw [Bool.or_true];rfl
    simp only [qr];rw [hc,qr,Qh (x:=(k : Int) + 1) q8];cases (decide (goV l p h = w.At) || K5 false (goV l p h) vis) <;> rfl
end Go.Sh
namespace Go.Sh
open Go Go.Am
theorem q12p {vis : List (qa × Bool)} {out own : List qt} (h : q2b vis (out ++ own)) (q o : qa) : (decide (q = o) || K5 false q vis) = (decide (q = o) || anyB out q || anyB own q):=by
  rw [h q,qe0,Bool.or_assoc]
theorem qx7 {own : List qt} {go : Bool} {p q : qa} : ownN own go p q≠[]:=by
  rcases List.eq_nil_or_concat own with rfl | ⟨a,s,rfl⟩
  · rw [qm4];simp
  · rw [List.concat_eq_append,qd7];cases go <;> simp
theorem qog {l : List K9} (g : l.length≤60) (m : ∀ v∈l,Zc v) (w : Ka) (hs : w.Steps≤1000) (out : List qt) :
    ∀ (n : Nat) {h k : Nat} {p : qa} {own : List qt} {vis : List (qa × Bool)},(k : Int) + n = w.Steps→h < 4→PtB p→(own = []↔k = 0)→out.length + own.length≤400→q2b vis (out ++ own)→q5a own h p→
      ∃ b,loop (Z5 w l) ((h : Int),(k : Int),vis,out ++ own,p.X,p.Y) = some (if (U1 l w.At n h p out own).1 = 0 then .inl (b,(U1 l w.At n h p out own).2) else .inr ((U1 l w.At n h p out own).1,b,[]))∧
        ((U1 l w.At n h p out own).1 = 0→q2b b (U1 l w.At n h p out own).2∧(U1 l w.At n h p out own).2.length≤400)
  | 0,h,k,p,own,vis,hk,hh,hp,hk0,hlen,hvis,ho=>by
    refine ⟨vis,?_,fun _=>⟨hvis,by simp only [U1,List.length_append];omega⟩⟩
    have : Z5 w l ((h : Int),(k : Int),vis,out ++ own,p.X,p.Y) = some (.inr (.inl (vis,out ++ own))):=by
      unfold Z5;rw [Qa (show ¬ ((k : Int) < w.Steps) by omega),Q6]
    rw [Kc this]
    rfl
  | n + 1,h,k,p,own,vis,hk,hh,hp,hk0,hlen,hvis,ho=>by
    have a:=q13h g m w (h:=h) (k:=k) (p:=p) (out:=out) (own:=own) (vis:=vis) hh hp q8 q8 hk0 hlen;rw [U1];rw [q12p hvis] at a;by_cases d : ptB (goV l p h) = true
    case neg=>
      rw [qw d] at a ⊢;exact ⟨vis,by rw [Kc a];rfl,fun h=>by cases h⟩
    rw [qu d] at a ⊢;obtain ⟨q,o⟩:=qx9 (qcj (l:=l) (p:=p) hh) ho hp (q8q.1 d);rw [← qt2] at q o;by_cases f : 400 < out.length + (ownN own (Y2 l p h == h) p (goV l p h)).length
    · rw [qu f] at a ⊢;exact ⟨vis,by rw [Kc a];rfl,fun h=>by cases h⟩
    rw [qw f] at a ⊢;have c:=q13b hvis o;by_cases j : (decide (goV l p h = w.At) || anyB out (goV l p h) || anyB own (goV l p h)) = true
    · rw [qu j] at a ⊢;exact ⟨_,by rw [Kc a];rfl,fun _=>⟨c,by rw [List.length_append];omega⟩⟩
    · rw [qw j] at a ⊢;obtain ⟨b,e1,r⟩:=qog g m w hs out n (h:=Y2 l p h) (k:=k + 1) (p:=goV l p h) q8 (qcj hh) (q8q.1 d) ⟨fun h=>absurd h qx7,fun h=>q8⟩ q8 c q;exact ⟨b,by rw [Kf a];exact e1,r⟩
structure q2c (w : Ka) : Prop where
  pt : PtB w.At
  head : 0≤w.Head∧w.Head≤3
  steps : 0≤w.Steps∧w.Steps≤500
abbrev q3b (l : List K9) (w : Ka) (out : List qt) : Int × List qt:=U1 l w.At w.Steps.toNat w.Head.toNat w.At out []
theorem q13g {l : List K9} (m : l.length≤60) (o : ∀ v∈l,Zc v) {w : Ka} (j : q2c w) {out : List qt} {vis : List (qa × Bool)} (c : out.length≤400) (d : q2b vis out) :
    ∃ b a,q3a l w out vis = some ((q3b l w out).1,b,a)∧((q3b l w out).1 = 0→a = (q3b l w out).2∧q2b b a∧a.length≤400):=by
  obtain ⟨hp,q,hs⟩:=j;obtain ⟨b,e1,n⟩:=qog m o w q8 out w.Steps.toNat (h:=w.Head.toNat) (k:=0) (p:=w.At) (own:=[]) (vis:=vis) q8 q8 hp ⟨fun _=>rfl,fun _=>rfl⟩ (by simpa using c) (by rw [List.append_nil];exact d) (qx8 _ _);rw [show ((w.Head.toNat : Nat) : Int) = w.Head by omega,List.append_nil] at e1;unfold q3a;have g : loop (Z5 w l) (w.Head,0,vis,out,w.At.X,w.At.Y) = _:=e1;rw [g,qr];by_cases f : (q3b l w out).1 = 0
  · refine ⟨b,(q3b l w out).2,?_,fun _=>⟨rfl,n f⟩⟩;rw [qu f,f]
  · refine ⟨b,[],?_,fun h=>absurd h f⟩;rw [qw f]
end Go.Sh
namespace Go.Sh
open Go Go.Am
open Classical
theorem qc4 {α β : Type} {f : Int→Option (Int ⊕ (Unit ⊕ β))} {l : List α} {P : α→Prop} {z : β} (m : l.length≤1000)
    (hs : ∀ k (hk : k < l.length),f (k : Int) = if P l[k] then some (.inl (w64 ((k : Int) + 1))) else some (.inr (.inr z))) (hd : f (l.length : Int) = some (.inr (.inl ()))) : loop f 0 = some (if ∀ v∈l,P v then .inl () else .inr z):=by
  have:=Yx (f:=f) (σ:=Unit) (fun k _=>(k : Int)) l.length (fun k _=>∀ i (hi : i < l.length),i < k→P l[i]) (fun o=>o = if ∀ v∈l,P v then .inl () else .inr z) ?_ ?_ (k0:=0) (c0:=()) q8 (fun i hi h=>q8)
  · obtain ⟨b,g,rfl⟩:=this;exact g
  · rintro k _ hk c;have:=hs k hk;by_cases a : P l[k]
    · rw [qu a,Qh q8] at this;refine .inl ⟨(),by rw [this];rfl,fun i hi j=>?_⟩;by_cases e : i = k
      · subst e;exact a
      · exact c i hi q8
    · rw [qw a] at this;exact .inr ⟨_,this,by rw [qw (fun h=>a (h _ (Yi hk)))]⟩
  · rintro _ c;refine ⟨_,hd,?_⟩;rw [qu];intro s d;obtain ⟨i,hi,rfl⟩:=List.mem_iff_getElem.1 d;exact c i hi hi
theorem q13e (w : Ka) (f : 0≤w.Head) : ((cond (!decide (PtB w.At)) (some true) (some (decide (w.Head > 3)))).bind fun b=>(cond b (some true) (some (decide (w.Steps < 0)))).bind fun c=>(cond c (some true) (some (decide (w.Steps > 500))))) = some (!decide (q2c w)):=by
  by_cases a : PtB w.At
  case neg=>simp [a];exact fun h=>a h.pt
  by_cases d : w.Head > 3
  · simp [d,a];exact fun h=>by have:=h.head;omega
  by_cases w1 : w.Steps < 0
  · simp [d,a,w1];exact fun h=>by have:=h.steps;omega
  by_cases w2 : w.Steps > 500
  · simp [d,a,w1,w2];exact fun h=>by have:=h.steps;omega
  · simp [d,a,w1,w2];exact ⟨a,q8,q8⟩
theorem qt9 (a : List Ka) (c : a.length≤1000) (d : ∀ w∈a,0≤w.Head) : loop (q36 a) 0 = some (if ∀ w∈a,q2c w then .inl () else .inr (net0,8))∧Nrf:=by
  constructor
  · refine qc4 c (fun k hk=>?_) (by simp only [q36,dnl',Q6]);have hp:=q13e a[k] (d _ (Yi hk));simp only [q36,dlt' hk,Qb,Ko hk,qr,qff];simp only [← Option.bind_assoc] at hp ⊢;rw [hp];by_cases b : q2c a[k]
    · rw [qu b,Q9 b];rfl
    · rw [qw b,Qa b];rfl
  · rfl
theorem neI (a : Int) : (a != 0) = !decide (a = 0):=by rw [bne,beqI]
theorem qk9 {l : List K9} (m : l.length≤60) (o : ∀ v∈l,Zc v) (a : List Ka) (k : ∀ w∈a,q2c w) (g : a.length≤1000) :
    ∀ (n i : Nat) {segs : List qt} {vis : List (qa × Bool)},i + n = a.length→q2b vis segs→segs.length≤400→
      loop (Jl a l) ((i : Int),segs,vis) = some (if (Jw l (a.drop i) segs).1 = 0 then .inl (Jw l (a.drop i) segs).2 else .inr (net0,(Jw l (a.drop i) segs).1))∧((Jw l (a.drop i) segs).1 = 0→(Jw l (a.drop i) segs).2.length≤400)
  | 0,i,segs,vis,hi,hvis,hs=>by
    have : a.drop i = []:=List.drop_eq_nil_of_le q8
    rw [this]
    refine ⟨?_,fun _=>hs⟩
    have : Jl a l ((i : Int),segs,vis) = some (.inr (.inl segs)):=by
      unfold Jl;rw [Qa (show ¬ ((i : Int) < (a.length : Int)) by omega),Q6]
    rw [Kc this];rfl
  | n + 1,i,segs,vis,hi,hvis,hs=>by
    have d : i < a.length:=by omega
    obtain ⟨j,f,e1,q⟩:=q13g m o (k _ (Yi d)) hs hvis;rw [List.drop_eq_getElem_cons d,Jw]
    have c : Jl a l ((i : Int),segs,vis) = if (q3b l a[i] segs).1 = 0 then some (.inl (((i + 1 : Nat) : Int),f,j)) else some (.inr (.inr (net0,(q3b l a[i] segs).1))):=by
      unfold Jl;simp only [Q9 (show ((i : Int) < (a.length : Int)) by omega),Qb,Ko d,qr,e1,neI];rw [Qh q8];by_cases b : (q3b l a[i] segs).1 = 0
      · rw [qu b,Q9 b];rfl
      · rw [qw b,Qa b];rfl
    by_cases b : (q3b l a[i] segs).1 = 0
    · rw [qu b] at c ⊢;obtain ⟨rfl,p,r⟩:=q b;rw [Kf c];exact qk9 m o a k g n (i + 1) q8 p r
    · rw [qw b] at c ⊢;rw [Kc c];exact ⟨by rw [qw b],fun h=>absurd h b⟩
theorem qso {l : List K9} (h : Jt l = 0) : l.length≤60∧∀ v∈l,Zc v:=by
  unfold Jt at h;by_cases a : 60 < l.length
  · rw [qu a] at h;cases h
  · rw [qw a] at h;by_cases b : ∀ v∈l,Zc v
    · exact ⟨q8,b⟩
    · rw [qw b] at h;cases h
noncomputable def q5k (l : List K9) (ws : List Ka) : Option (Qd × Int):=
  if Jt l≠0 then some (net0,Jt l) else if 30 < ws.length then some (net0,4) else if ∀ w∈ws,q2c w then (if (Jw l ws []).1 = 0 then Zf (Jw l ws []).2 else some (net0,(Jw l ws []).1)) else some (net0,8)
theorem qp3 {α β : Type} (o : Option (α × β)) : (o.bind fun r=>some (r.1,r.2)) = o:=by cases o <;> rfl
theorem qci (l : List K9) (a : List Ka) (m : ∀ w∈a,0≤w.Head) : Z4 l a = q5k l a∧Nrf:=by
  unfold Z4 q5k;rw [qjn];simp only [qr,neI];by_cases b : Jt l = 0
  case neg=>rw [Qa b,qu b];exact ⟨rfl,rfl⟩
  rw [Q9 b,qw (fun h=>h b),Bool.not_true,Q6];by_cases g : 30 < a.length
  · rw [Q9 (show (a.length : Int) > 30 by omega),qu g];exact ⟨rfl,rfl⟩
  rw [Qa (show ¬ (a.length : Int) > 30 by omega),qw g,Q6];obtain ⟨k,n⟩:=qt9 a q8 m;rw [k];by_cases c : ∀ w∈a,q2c w
  case neg=>rw [qw c,qw c];exact ⟨rfl,rfl⟩
  rw [qu c,qu c];obtain ⟨f1,j⟩:=qso b;obtain ⟨e1,o⟩:=qk9 f1 j a c q8 a.length 0 (segs:=[]) (vis:=[]) q8 q13a qd;rw [List.drop_zero] at e1;have f : loop (Jl a l) (0,[],[]) = _:=e1;rw [qr,f];by_cases d : (Jw l a []).1 = 0
  · rw [qu d,qu d,qr];exact ⟨qp3 _,rfl⟩
  · rw [qw d,qw d,qr];exact ⟨rfl,rfl⟩
end Go.Sh
namespace Go.Sh
open Go Go.Am
def qdn (w : Ka) (h k : Nat) (vis : List (qa × Bool)) (segs : List qt) (p q : qa) : Option ((Int × Int × (List (qa × Bool)) × List qt × Int × Int) ⊕ (((List (qa × Bool)) × List qt) ⊕ (Int × (List (qa × Bool)) × List qt))):=
  (cond (K5 false q vis) (some true) (some ((q.X == w.At.X) && ((q.Y == w.At.Y) && true)))).bind fun c=>cond c (some (.inr (.inl (K8 q true (K8 p true vis),segs)))) (some (.inl ((h : Int),((k + 1 : Nat) : Int),K8 q true (K8 p true vis),segs,q.X,q.Y)))
theorem qof (w : Ka) {h : Nat} {d : qa} (l : h < 4) (hd : dirs[h]? = some d) (hk : 0 < w.Steps) (p : qa) (hp : PtB p) (m : PtB {X:=p.X + d.X,Y:=p.Y + d.Y}) (vis : List (qa × Bool)) (segs : List qt) (hs : segs.length < 400) :
    Z5 w [] ((h : Int),0,vis,segs,p.X,p.Y) = qdn w h 0 vis (segs ++ [{A:=p,B:={X:=p.X + d.X,Y:=p.Y + d.Y}}]) p {X:=p.X + d.X,Y:=p.Y + d.Y}:=by
  have hp':=hp;have j:=m;unfold PtB at hp' j;simp only at j;have o:=qoc l hd hp m
  have n : ({X:=w64 (p.X + d.X - p.X),Y:=w64 (p.Y + d.Y - p.Y)} : qa) = d:=by
    rw [Qh q8,Qh q8];obtain ⟨a,b⟩:=d;simp only [qa.mk.injEq];omega
  have c : IntKind.wrap .u8 (h : Int) = (h : Int):=by
    have : h = 0∨h = 1∨h = 2∨h = 3:=by omega
    rcases this with rfl | rfl | rfl | rfl <;> rfl
  have f:=qer l hd;unfold dirs at f;have e0 : ((0 : Int) != 0) = false:=rfl;have g : ∀ a b : qa,idx [a,b] 1 = some b:=fun a b=>rfl;have q : decide ((0 : Int) > 0) = false:=rfl;unfold Z5 qdn;simp only [Q9 hk,Qb];have k : q1n [] ({X:=p.X,Y:=p.Y} : qa) (h : Int) 1 = some ([p,{X:=p.X + d.X,Y:=p.Y + d.Y}],0):=o;simp only [k,qr,e0,Q6,g,n,f,q,c];rw [Jc (by simp;omega)];simp only [qr];rw [Qa (show ¬ (((segs ++ [({A:={X:=p.X,Y:=p.Y},B:={X:=p.X + d.X,Y:=p.Y + d.Y}} : qt)]).length : Int) > 400) by simp;omega),Q6];simp only [qr];rw [Qh q8];rfl
theorem qdr (w : Ka) {h : Nat} {d : qa} (q : h < 4) (hd : dirs[h]? = some d) {k : Nat} (z : 0 < k) (hk : (k : Int) < w.Steps) (v : k≤1000) (p : qa) (hp : PtB p) (r : PtB {X:=p.X + d.X,Y:=p.Y + d.Y}) (vis : List (qa × Bool)) (segs : List qt) (s : qt) (hs : segs.length≤400) :
    Z5 w [] ((h : Int),(k : Int),vis,segs ++ [s],p.X,p.Y) = qdn w h k vis (segs ++ [{A:=s.A,B:={X:=p.X + d.X,Y:=p.Y + d.Y}}]) p {X:=p.X + d.X,Y:=p.Y + d.Y}:=by
  have hp':=hp;have m:=r;unfold PtB at hp' m;simp only at m;have x:=qoc q hd hp r
  have t : ({X:=w64 (p.X + d.X - p.X),Y:=w64 (p.Y + d.Y - p.Y)} : qa) = d:=by
    rw [Qh q8,Qh q8];obtain ⟨a,b⟩:=d;simp only [qa.mk.injEq];omega
  have f : IntKind.wrap .u8 (h : Int) = (h : Int):=by
    have : h = 0∨h = 1∨h = 2∨h = 3:=by omega
    rcases this with rfl | rfl | rfl | rfl <;> rfl
  have g:=qer q hd;unfold dirs at g;have e0 : ((0 : Int) != 0) = false:=rfl;have j : ∀ a b : qa,idx [a,b] 1 = some b:=fun a b=>rfl;have y : decide ((k : Int) > 0) = true:=Q9 q8;have n : w64 (((segs ++ [s]).length : Int) - 1) = (segs.length : Int):=by rw [Qh (by simp;omega)];simp
  have c : idx (segs ++ [s]) (segs.length : Int) = some s:=by rw [Ko qd];simp
  unfold Z5 qdn;simp only [Q9 hk,Qb];have o : q1n [] ({X:=p.X,Y:=p.Y} : qa) (h : Int) 1 = some ([p,{X:=p.X + d.X,Y:=p.Y + d.Y}],0):=x;simp only [o,qr,e0,Q6,j,t,g,y,f,Qb,beq_self_eq_true,n,c,Int.toNat_natCast];have l : ∀ u : qt,(segs ++ [s]).set segs.length u = segs ++ [u]:=by intro u;simp
  simp only [l];rw [Qh q8];rfl
end Go.Sh
