/- St16 St17 St19 St20 St21 St22 St23 St24 St28 St29 St30 St31 St32 St33 St36 St37 St38 St25 -/
import Derived.Test.YtgkialgkmjnfbaaK13
namespace Go.Sh
open Go Go.Am
open Classical
def q6g (s : qt) : Int:=(max s.A.X s.B.X - min s.A.X s.B.X) + (max s.A.Y s.B.Y - min s.A.Y s.B.Y)
def Yx : List qt→Int
  | []=>0
  | s::l=>q6g s + Yx l
theorem qtw (a b : List qt) : Yx (a ++ b) = Yx a + Yx b:=by
  induction a with
  | nil=>simp [Yx]
  | cons s a ih=>simp only [List.cons_append,Yx,ih];omega
theorem qnq {s : qt} (h : SegV s) : 0≤q6g s∧q6g s≤4000000:=by
  obtain ⟨⟨b,c,f,a⟩,⟨b1,b2,g,d⟩,_⟩:=h;unfold q6g;omega
theorem qkz : ∀ {l : List qt},(∀ s∈l,SegV s)→0≤Yx l∧Yx l≤4000000 * (l.length : Int)
  | [],_=>by simp [Yx]
  | s::l,h=>by
    have:=qnq (h s qc)
    have:=qkz (l:=l) fun t a=>h t (by simp [a])
    simp only [Yx,List.length_cons];omega
theorem qty {l : List qt} (g : ∀ s∈l,SegV s) (o : l.length≤1000) (c : Int) : loop (q3u (l,c)) (0,0) = some (Yx l):=by
  have:=Yv (f:=q3u (l,c)) (σ:=Int) (fun k a=>(a,(k : Int))) l.length (fun k a=>a = Yx (l.take k)) (fun a=>a = Yx l) ?_ ?_ (k0:=0) (c0:=0) q9 (by simp [Yx])
  · obtain ⟨b,j,rfl⟩:=this;exact j
  · rintro k a hk rfl;refine .inl ⟨Yx (l.take (k + 1)),?_,rfl⟩;have hb:=qkz (l:=l.take k) fun s hs=>g s (List.mem_of_mem_take hs);have h:=qnq (g _ (Yf hk));obtain ⟨⟨r,t,u,n⟩,⟨b1,b2,q,p⟩,_⟩:=g _ (Yf hk);have d : (l.take k).length = k:=by simp;omega
    rw [d] at hb
    have e1 : Yx (l.take (k + 1)) = Yx (l.take k) + q6g l[k]:=by
      rw [List.take_succ_eq_append_getElem hk,qtw];simp [Yx]
    have m : w64 ((max l[k].A.X l[k].B.X) - (min l[k].A.X l[k].B.X)) = (max l[k].A.X l[k].B.X) - (min l[k].A.X l[k].B.X):=Qd q9;simp only [q3u,dlt' hk,Qb,Kf hk,qq,m];rw [Qd (x:=(max l[k].A.X l[k].B.X) - (min l[k].A.X l[k].B.X) + max l[k].A.Y l[k].B.Y) q9,Qd (x:=(max l[k].A.X l[k].B.X) - (min l[k].A.X l[k].B.X) + max l[k].A.Y l[k].B.Y - min l[k].A.Y l[k].B.Y) q9];unfold q6g at h e1;rw [Qd (x:=Yx (l.take k) + _) q9,Qd q9,e1];congr 3;omega
  · rintro a rfl;exact ⟨_,by simp only [q3u,dnl',Q4];rfl,by rw [List.take_length]⟩
theorem qu0 {n : Qq} (j : Fit n) : ∃ a c,q7b n = some (a,c)∧Nrf∧q18 n = some c∧(∀ l,Jo n l→a = Yx l):=by
  obtain ⟨l,c,e1,q,f,_,h⟩:=qgx j;unfold q7b;rw [e1];rcases h with ⟨rfl,hs⟩ | ⟨h,rfl⟩
  · have r:=hs.len400;have m:=qty hs.val q9 0;refine ⟨Yx l,0,?_,rfl,f,fun l' d=>?_⟩
    · simp only [qq];show (loop (q3u (l,0)) (0,0)).bind _ = _;rw [m];rfl
    · have:=hs.drawn;have:=d.drawn;simp_all
  · have k : (c != 0) = true:=by rcases h with rfl | rfl <;> rfl
    refine ⟨0,c,?_,rfl,f,fun l' d=>?_⟩
    · simp only [qq,k,Qb]
    · obtain ⟨b,p,_,_,g,o⟩:=qkh j {X:=0,Y:=0};rw [f] at g;have:=(o l' d).2;cases g;subst this;exact absurd k Q0
section
variable {F G : Int→Int→Prop} {N : List qb}
theorem qz1 (k : Yl F G N) (hb : ∀ y x,F y x→x≤1000000) {i : Nat} (hi : i < N.length) (c : F N[i].Y N[i].X) : ∃ j,∃ h : j < N.length,i < j∧N[j].Y = N[i].Y:=by
  refine Classical.byContradiction fun a=>?_
  have step : ∀ x,N[i].X < x→(F N[i].Y x↔F N[i].Y (x - 1)):=by
    intro x l;refine q63 (G:=G) fun b=>a ?_;obtain ⟨m,d,g⟩:=List.mem_iff_getElem.1 ((k.mem {X:=x,Y:=N[i].Y}).2 b);have ex : N[m].X = x:=by rw [g]
    have o : N[m].Y = N[i].Y:=by rw [g]
    exact ⟨m,d,J9 k.srt hi d (by unfold ltP;omega),o⟩
  have l:=hb _ _ c;obtain ⟨n,b⟩ : ∃ n : Nat,N[i].X + (n : Int) = 1000001:=⟨(1000001 - N[i].X).toNat,q9⟩
  have:=Jz (f:=F N[i].Y) (lo:=N[i].X) n fun x p q=>step x p;rw [b] at this;have:=hb _ _ (this.1 c);omega
theorem qql (k : Yl F G N) (hb : ∀ x y,G x y→y≤1000000) {i : Nat} (hi : i < N.length) (c : G N[i].X N[i].Y) : ∃ j,∃ h : j < N.length,i < j∧N[j].X = N[i].X:=by
  refine Classical.byContradiction fun a=>?_
  have step : ∀ y,N[i].Y < y→(G N[i].X y↔G N[i].X (y - 1)):=by
    intro y p;refine q62 (F:=F) fun b=>a ?_;obtain ⟨m,d,g⟩:=List.mem_iff_getElem.1 ((k.mem {X:=N[i].X,Y:=y}).2 b);have ex : N[m].X = N[i].X:=by rw [g]
    have r : N[m].Y = y:=by rw [g]
    exact ⟨m,d,J9 k.srt hi d (by unfold ltP;omega),ex⟩
  have q:=hb _ _ c;obtain ⟨n,b⟩ : ∃ n : Nat,N[i].Y + (n : Int) = 1000001:=⟨(1000001 - N[i].Y).toNat,q9⟩
  have:=Jz (f:=G N[i].X) (lo:=N[i].Y) n fun y l o=>step y l;rw [b] at this;have:=hb _ _ (this.1 c);omega
theorem qf9 {P : Nat→Prop} {a : Nat} : ∀ {n : Nat},(∃ j,a < j∧j < n∧P j)→∃ j,a < j∧j < n∧P j∧∀ m,a < m→m < j→¬ P m
  | 0,⟨j,_,h,_⟩=>by omega
  | n + 1,⟨j,h1,h,hp⟩=>by
    by_cases e : ∃ j,a < j∧j < n∧P j
    · obtain ⟨k,b,d,c⟩:=qf9 e
      exact ⟨k,b,q9,c⟩
    · have : j = n:=by
        refine Classical.byContradiction fun f=>e ⟨j,h1,q9,hp⟩
      subst this
      exact ⟨j,h1,q9,hp,fun m b d c=>e ⟨m,b,d,c⟩⟩
theorem qlt (l : Yl F G N) (hb : ∀ y x,F y x→x≤1000000) {i : Nat} (hi : i < N.length) (c : F N[i].Y N[i].X) : ∃ k,Ze N i k:=by
  obtain ⟨j,h,b,r⟩:=qz1 l hb hi c;obtain ⟨m,t,d,⟨o,f⟩,g⟩:=qf9 (P:=fun j=>∃ h : j < N.length,N[j].Y = N[i].Y) (a:=i) (n:=N.length) ⟨j,b,h,h,r⟩;exact ⟨m,t,o,fun _ _=>f,fun q _ p s u e=>g q s u ⟨p,e⟩⟩
theorem qls (l : Yl F G N) (hb : ∀ x y,G x y→y≤1000000) {i : Nat} (hi : i < N.length) (c : G N[i].X N[i].Y) : ∃ k,Zd N i k:=by
  obtain ⟨j,h,b,r⟩:=qql l hb hi c;obtain ⟨m,t,d,⟨o,f⟩,g⟩:=qf9 (P:=fun j=>∃ h : j < N.length,N[j].X = N[i].X) (a:=i) (n:=N.length) ⟨j,b,h,h,r⟩;exact ⟨m,t,o,fun _ _=>f,fun q _ p s u e=>g q s u ⟨p,e⟩⟩
theorem Ze.fun' {i j k : Nat} (a : Ze N i j) (b : Ze N i k) : j = k:=by
  have hi : i < N.length:=by have:=a.lt;have:=a.hk;omega
  rcases Nat.lt_trichotomy j k with h | h | h
  · exact absurd (a.eq hi a.hk) (b.no j hi a.hk a.lt h)
  · exact h
  · exact absurd (b.eq hi b.hk) (a.no k hi b.hk b.lt h)
theorem Zd.fun' {i j k : Nat} (a : Zd N i j) (b : Zd N i k) : j = k:=by
  have hi : i < N.length:=by have:=a.lt;have:=a.hk;omega
  rcases Nat.lt_trichotomy j k with h | h | h
  · exact absurd (a.eq hi a.hk) (b.no j hi a.hk a.lt h)
  · exact h
  · exact absurd (b.eq hi b.hk) (a.no k hi b.hk b.lt h)
def b2i (b : Bool) : Nat:=cond b 1 0
theorem qr0 (o : Yl F G N) {E : List qk} (w : q58 F G N E) (v : ∀ y x,F y x→-1000000≤x∧x≤1000000) (z : ∀ x y,G x y→-1000000≤y∧y≤1000000) {i : Nat} (hi : i < N.length) :
    (E.filter fun e=>decide (e.A = (i : Int)∨e.B = (i : Int))).length = b2i (decide (F N[i].Y N[i].X)) + b2i (decide (G N[i].X N[i].Y)) + b2i (decide (F N[i].Y (N[i].X - 1))) + b2i (decide (G N[i].X (N[i].Y - 1))):=by
  have l : ∀ y x,F y x→-1000000≤x:=fun y x h=>(v y x h).1;have m : ∀ x y,G x y→-1000000≤y:=fun x y h=>(z x y h).1;have t : E.Nodup:=w.srt.imp (by rintro a b h rfl;exact ql6 a a h h)
  obtain ⟨q1,n1,r,l1⟩ : ∃ q : List qk,q.Nodup∧(∀ e,e∈q↔∃ k : Nat,e = {A:=(i : Int),B:=(k : Int)}∧Ze N i k∧F N[i].Y N[i].X)∧q.length = b2i (decide (F N[i].Y N[i].X)):=by
    by_cases h : F N[i].Y N[i].X
    · obtain ⟨k,hk⟩:=qlt o (fun y x h=>(v y x h).2) hi h;refine ⟨[{A:=(i : Int),B:=(k : Int)}],qc,fun e=>?_,by rw [Q2 h];rfl⟩;rw [List.mem_singleton];constructor
      · rintro rfl;exact ⟨k,rfl,hk,h⟩
      · rintro ⟨n,rfl,g,_⟩;rw [g.fun' hk]
    · exact ⟨[],.nil,fun e=>⟨fun h=>(by cases h),fun ⟨_,_,_,h'⟩=>absurd h' h⟩,by rw [Q6 h];rfl⟩
  obtain ⟨q2,n2,p,l2⟩ : ∃ q : List qk,q.Nodup∧(∀ e,e∈q↔∃ k : Nat,e = {A:=(i : Int),B:=(k : Int)}∧Zd N i k∧G N[i].X N[i].Y)∧q.length = b2i (decide (G N[i].X N[i].Y)):=by
    by_cases h : G N[i].X N[i].Y
    · obtain ⟨k,hk⟩:=qls o (fun y x h=>(z y x h).2) hi h;refine ⟨[{A:=(i : Int),B:=(k : Int)}],qc,fun e=>?_,by rw [Q2 h];rfl⟩;rw [List.mem_singleton];constructor
      · rintro rfl;exact ⟨k,rfl,hk,h⟩
      · rintro ⟨n,rfl,g,_⟩;rw [g.fun' hk]
    · exact ⟨[],.nil,fun e=>⟨fun h=>(by cases h),fun ⟨_,_,_,h'⟩=>absurd h' h⟩,by rw [Q6 h];rfl⟩
  obtain ⟨q3,n3,s,l3⟩ : ∃ q : List qk,q.Nodup∧(∀ e,e∈q↔∃ k : Nat,e = {A:=(k : Int),B:=(i : Int)}∧Ze N k i∧F N[i].Y (N[i].X - 1))∧q.length = b2i (decide (F N[i].Y (N[i].X - 1))):=by
    by_cases h : F N[i].Y (N[i].X - 1)
    · obtain ⟨k,hk⟩:=qmr o l hi h;refine ⟨[{A:=(k : Int),B:=(i : Int)}],qc,fun e=>?_,by rw [Q2 h];rfl⟩;rw [List.mem_singleton];constructor
      · rintro rfl;exact ⟨k,rfl,hk,h⟩
      · rintro ⟨n,rfl,g,_⟩;rw [g.uniq hk]
    · exact ⟨[],.nil,fun e=>⟨fun h=>(by cases h),fun ⟨_,_,_,h'⟩=>absurd h' h⟩,by rw [Q6 h];rfl⟩
  obtain ⟨q4,n4,m4,l4⟩ : ∃ q : List qk,q.Nodup∧(∀ e,e∈q↔∃ k : Nat,e = {A:=(k : Int),B:=(i : Int)}∧Zd N k i∧G N[i].X (N[i].Y - 1))∧q.length = b2i (decide (G N[i].X (N[i].Y - 1))):=by
    by_cases h : G N[i].X (N[i].Y - 1)
    · obtain ⟨k,hk⟩:=qmq o m hi h;refine ⟨[{A:=(k : Int),B:=(i : Int)}],qc,fun e=>?_,by rw [Q2 h];rfl⟩;rw [List.mem_singleton];constructor
      · rintro rfl;exact ⟨k,rfl,hk,h⟩
      · rintro ⟨n,rfl,g,_⟩;rw [g.uniq hk]
    · exact ⟨[],.nil,fun e=>⟨fun h=>(by cases h),fun ⟨_,_,_,h'⟩=>absurd h' h⟩,by rw [Q6 h];rfl⟩
  have hp : (E.filter fun e=>decide (e.A = (i : Int)∨e.B = (i : Int))).Perm (q1 ++ q2 ++ q3 ++ q4):=by
    rw [List.perm_ext_iff_of_nodup (t.sublist List.filter_sublist) ?_]
    · intro e;simp only [List.mem_filter,decide_eq_true_eq,List.mem_append,r,p,s,m4,w.mem];constructor
      · rintro ⟨⟨a,b,rfl,j⟩,h | h⟩
        · simp only at h;obtain rfl : a = i:=by omega
          obtain ⟨_,⟨c,d⟩ | ⟨c,d⟩⟩:=j
          · exact .inl (.inl (.inr ⟨b,rfl,c,d⟩))
          · exact .inl (.inl (.inl ⟨b,rfl,c,d⟩))
        · simp only at h;obtain rfl : b = i:=by omega
          rcases (qcm o l m hi a).1 j with ⟨c,d⟩ | ⟨c,d⟩
          · exact .inl (.inr ⟨a,rfl,c,d⟩)
          · exact .inr ⟨a,rfl,c,d⟩
      · rintro (((⟨k,rfl,c,d⟩ | ⟨k,rfl,c,d⟩) | ⟨k,rfl,c,d⟩) | ⟨k,rfl,c,d⟩)
        · exact ⟨⟨i,k,rfl,hi,.inr ⟨c,d⟩⟩,.inl rfl⟩
        · exact ⟨⟨i,k,rfl,hi,.inl ⟨c,d⟩⟩,.inl rfl⟩
        · exact ⟨⟨k,i,rfl,(qcm o l m hi k).2 (.inl ⟨c,d⟩)⟩,.inr rfl⟩
        · exact ⟨⟨k,i,rfl,(qcm o l m hi k).2 (.inr ⟨c,d⟩)⟩,.inr rfl⟩
    · have u : ∀ {a b : Nat},Zd N a b→Ze N a b→False:=fun {a b} c d=>by
        have:=qut o.srt c d;omega
      rw [List.nodup_append,List.nodup_append,List.nodup_append];refine ⟨⟨⟨n1,n2,fun a f b hb e=>?_⟩,n3,fun a f b hb e=>?_⟩,n4,fun a f b hb e=>?_⟩
      · subst e;obtain ⟨k,rfl,c,_⟩:=(r _).1 f;obtain ⟨n,j,d,_⟩:=(p _).1 hb;simp only [qk.mk.injEq,true_and] at j;obtain rfl : k = n:=by omega
        exact u d c
      · subst e;obtain ⟨n,rfl,d,_⟩:=(s _).1 hb;have:=d.lt;rcases List.mem_append.1 f with f | f
        · obtain ⟨k,j,c,_⟩:=(r _).1 f;simp only [qk.mk.injEq] at j;omega
        · obtain ⟨k,j,c,_⟩:=(p _).1 f;simp only [qk.mk.injEq] at j;omega
      · subst e;obtain ⟨n,rfl,d,_⟩:=(m4 _).1 hb;have:=d.lt;rcases List.mem_append.1 f with f | f
        · rcases List.mem_append.1 f with f | f
          · obtain ⟨k,j,c,_⟩:=(r _).1 f;simp only [qk.mk.injEq] at j;omega
          · obtain ⟨k,j,c,_⟩:=(p _).1 f;simp only [qk.mk.injEq] at j;omega
        · obtain ⟨k,j,c,_⟩:=(s _).1 f;simp only [qk.mk.injEq,and_true] at j;obtain rfl : n = k:=by omega
          exact u d c
  rw [hp.length_eq];simp only [List.length_append,l1,l2,l3,l4]
end
end Go.Sh
namespace Go.Sh
open Go Go.Am
open Classical
def b2z (b : Bool) : Int:=cond b 1 0
theorem qca (q : Bool × Bool × Bool × Bool) (acc : Int) (i : Nat) (hi : i < 4) (a : 0≤acc∧acc≤10) (b : Bool) (hb : idxA 4 [q.1,q.2.1,q.2.2.1,q.2.2.2] (i : Int) = some b) : q3t q (acc,(i : Int)) = some (.inl (acc + b2z b,((i + 1 : Nat) : Int))):=by
  unfold q3t;simp only;rw [Q2 (show (i : Int) < 4 by omega),Qb,hb,qq,Qd (x:=(i : Int) + 1) q9];cases b
  · simp [b2z]
  · simp only [Qb,b2z];rw [Qd q9];rfl
theorem qqz (a b c d : Bool) : loop (q3t (a,b,c,d)) (0,0) = some (b2z a + b2z b + b2z c + b2z d):=by
  have h : ∀ x : Bool,0≤b2z x∧b2z x≤1:=by intro x;cases x <;> simp [b2z]
  have f:=h a;have hb:=h b;have g:=h c;have hd:=h d;show loop (q3t (a,b,c,d)) (0,((0 : Nat) : Int)) = _;rw [Kc (qca (a,b,c,d) 0 0 q9 q9 a rfl)];rw [Kc (qca (a,b,c,d) _ 1 q9 q9 b rfl)];rw [Kc (qca (a,b,c,d) _ 2 q9 q9 c rfl)];rw [Kc (qca (a,b,c,d) _ 3 q9 q9 d rfl)];have : q3t (a,b,c,d) (0 + b2z a + b2z b + b2z c + b2z d,((3 + 1 : Nat) : Int)) = some (.inr (0 + b2z a + b2z b + b2z c + b2z d)):=rfl;rw [K7 this];congr 1;omega
noncomputable def degN (l : List qt) (p : qb) : Int:=b2z (decide (rowP l p.Y p.X)) + b2z (decide (colP l p.X p.Y)) + b2z (decide (rowP l p.Y (p.X - 1))) + b2z (decide (colP l p.X (p.Y - 1)))
theorem b2 (b : Bool) : ((b2i b : Nat) : Int) = b2z b:=by cases b <;> rfl
theorem qnh {l : List qt} (a : ∀ s∈l,SegV s) (c : l.length≤400) : (∀ y x,rowP l y x→-1000000≤x∧x≤1000000)∧∀ x y,colP l x y→-1000000≤y∧y≤1000000:=by
  obtain ⟨r,_,d,b⟩:=qc5 c a;exact ⟨fun y x h=>by have:=d.bnd h;omega,fun x y h=>by have:=b.bnd h;omega⟩
theorem qh9 {n : Qq} {l : List qt} (d : Fit n) (hs : Jo n l) : q18 n = some 0∧q3v n = some (l,0)∧Nrf∧Nrf:=by
  obtain ⟨b,c,_,_,f,h⟩:=qkh d {X:=0,Y:=0};obtain ⟨l',q,k,m,g,j,o⟩:=qgx d;have p:=(h l hs).2;subst p;rw [f] at g;cases g;rcases o with ⟨_,a⟩ | ⟨a,_⟩
  · have e:=a.drawn;rw [hs.drawn] at e;cases e;exact ⟨f,k,m,j⟩
  · rcases a with a | a <;> cases a
theorem qr1 {n : Qq} {l : List qt} (f : Fit n) (hs : Jo n l) {i : Nat} (hi : i < n.Nodes.length) : q30 n (i : Int) = some (degN l n.Nodes[i],0)∧Nrf:=by
  obtain ⟨c1,c2,c3,c4⟩:=qh9 f hs;obtain ⟨r,e1,d,c⟩:=qc5 hs.len400 hs.val;have b : PtB n.Nodes[i]:=qd1 d c ((hs.net.nodes.mem _).1 (Yf hi))
  have h : (cond (decide ((i : Int) < 0)) (some true) (some (decide ((i : Int) ≥ (n.Nodes.length : Int))))) = some false:=by
    rw [Q6 q9,Q4,Q6 q9]
  obtain ⟨b1,a⟩:=qnh hs.val hs.len400;have g:=qr0 hs.net.nodes hs.net.edges b1 a hi;constructor
  · unfold q30;rw [c2,qq];have e0 : ((0 : Int) != 0) = false:=rfl;rw [e0,Q4,h,qq,Q4,e1,qq,Kf hi,qq,qe7 d c b,qq];unfold arB;rw [qqz];rfl
  · rfl
end Go.Sh
namespace Go.Sh
open Go Go.Am
open Classical
section
variable {F G : Int→Int→Prop} {n : Qq}
structure Bnd (F G : Int→Int→Prop) : Prop where
  row : ∀ y x,F y x→-1000000≤x∧x≤1000000
  col : ∀ x y,G x y→-1000000≤y∧y≤1000000
  pt : ∀ x y,Ky F G x y→PtB {X:=x,Y:=y}
theorem qid {l : List qt} (a : l.length≤400) (b : ∀ s∈l,SegV s) : Bnd (rowP l) (colP l):=by
  obtain ⟨r,_,d,c⟩:=qc5 a b;obtain ⟨b1,b2⟩:=qnh b a;exact ⟨b1,b2,fun x y h=>qd1 d c h⟩
theorem q2a {i k : Nat} (hi : i < n.Nodes.length) (hk : k < n.Nodes.length) : Ji n {A:=(i : Int),B:=(k : Int)} = {A:=n.Nodes[i],B:=n.Nodes[k]}:=by
  unfold Ji;simp only [Int.toNat_natCast,List.getElem?_eq_getElem hi,List.getElem?_eq_getElem hk,Option.getD_some]
theorem qs7 (hb : Bnd F G) (h : J5 F G n) : ∀ e∈n.Edges,eOk n e:=by
  intro e g;obtain ⟨i,k,rfl,hi,c⟩:=(h.edges.mem e).1 g;have hk : k < n.Nodes.length:=by rcases c with ⟨h,_⟩ | ⟨h,_⟩ <;> exact h.hk
  have f : PtB n.Nodes[i]:=hb.pt _ _ ((h.nodes.mem _).1 (Yf hi));have p2 : PtB n.Nodes[k]:=hb.pt _ _ ((h.nodes.mem _).1 (Yf hk));refine ⟨⟨by simp only;omega,by simp only;omega⟩,⟨by simp only;omega,by simp only;omega⟩,?_⟩;rw [q2a hi hk,q6h];refine ⟨f,p2,?_⟩;simp only;rcases c with ⟨d,_⟩ | ⟨b,_⟩
  · have a:=q17 h.nodes.srt hi hk d.lt;have e:=d.eq hi hk;unfold ltP at a;omega
  · have a:=q17 h.nodes.srt hi hk b.lt;have e:=b.eq hi hk;unfold ltP at a;omega
noncomputable def Uq (n : Qq) : List qt:=n.Edges.map (Ji n)
theorem qz4 (b : Yl F G n.Nodes) {i k : Nat} (h : Ze n.Nodes i k) (hi : i < n.Nodes.length) (g : F n.Nodes[i].Y n.Nodes[i].X) {x : Int} (s : n.Nodes[i].X≤x) (o : x < (n.Nodes[k]'h.hk).X) : F n.Nodes[i].Y x:=by
  have e:=h.eq hi h.hk;obtain ⟨m,j⟩ : ∃ m : Nat,x = n.Nodes[i].X + m:=⟨(x - n.Nodes[i].X).toNat,q9⟩
  rw [j];refine (Jz (f:=F n.Nodes[i].Y) m fun z p r=>?_).1 g;refine q63 (G:=G) fun a=>?_;obtain ⟨q,c,d⟩:=List.mem_iff_getElem.1 ((b.mem {X:=z,Y:=n.Nodes[i].Y}).2 a);have ex : n.Nodes[q].X = z:=by rw [d]
  have l : n.Nodes[q].Y = n.Nodes[i].Y:=by rw [d]
  exact h.no q hi c (J9 b.srt hi c (by unfold ltP;omega)) (J9 b.srt c h.hk (by unfold ltP;omega)) l
theorem qqm (b : Yl F G n.Nodes) {i k : Nat} (h : Zd n.Nodes i k) (hi : i < n.Nodes.length) (g : G n.Nodes[i].X n.Nodes[i].Y) {y : Int} (s : n.Nodes[i].Y≤y) (l : y < (n.Nodes[k]'h.hk).Y) : G n.Nodes[i].X y:=by
  have e:=h.eq hi h.hk;obtain ⟨m,j⟩ : ∃ m : Nat,y = n.Nodes[i].Y + m:=⟨(y - n.Nodes[i].Y).toNat,q9⟩
  rw [j];refine (Jz (f:=G n.Nodes[i].X) m fun z o p=>?_).1 g;refine q62 (F:=F) fun a=>?_;obtain ⟨q,c,d⟩:=List.mem_iff_getElem.1 ((b.mem {X:=n.Nodes[i].X,Y:=z}).2 a);have ex : n.Nodes[q].X = n.Nodes[i].X:=by rw [d]
  have r : n.Nodes[q].Y = z:=by rw [d]
  exact h.no q hi c (J9 b.srt hi c (by unfold ltP;omega)) (J9 b.srt c h.hk (by unfold ltP;omega)) ex
theorem qz0 (hb : Bnd F G) (d : Yl F G n.Nodes) {y x : Int} (o : F y x) : ∃ i k,∃ hi : i < n.Nodes.length,∃ h : Ze n.Nodes i k,n.Nodes[i].Y = y∧n.Nodes[i].X≤x∧x < (n.Nodes[k]'h.hk).X∧F y n.Nodes[i].X:=by
  have hex : ∃ j,j < n.Nodes.length∧∃ h : j < n.Nodes.length,n.Nodes[j].Y = y∧n.Nodes[j].X≤x:=by
    refine Classical.byContradiction fun l=>?_
    have step : ∀ z,z≤x→(F y z↔F y (z - 1)):=by
      intro z hz;refine q63 (G:=G) fun q=>l ?_;obtain ⟨m,b,c⟩:=List.mem_iff_getElem.1 ((d.mem {X:=z,Y:=y}).2 q);exact ⟨m,b,b,by rw [c],by rw [c];exact hz⟩
    have t:=hb.row _ _ o;obtain ⟨m,b⟩ : ∃ m : Nat,x = -1000001 + (m : Int):=⟨(x + 1000001).toNat,q9⟩
    have:=Jz (f:=F y) (lo:=-1000001) m fun z r s=>step z q9;rw [← b] at this;have:=hb.row _ _ (this.2 o);omega
  obtain ⟨i,v,⟨hi,p,t⟩,a⟩:=q87 hex
  have none : ∀ z,n.Nodes[i].X < z→z≤x→¬ Ky F G z y:=by
    intro z r s q;obtain ⟨m,b,c⟩:=List.mem_iff_getElem.1 ((d.mem {X:=z,Y:=y}).2 q);have ex : n.Nodes[m].X = z:=by rw [c]
    have w : n.Nodes[m].Y = y:=by rw [c]
    exact a m (J9 d.srt hi b (by unfold ltP;omega)) b ⟨b,w,q9⟩
  have u : F y n.Nodes[i].X:=by
    obtain ⟨m,b⟩ : ∃ m : Nat,x = n.Nodes[i].X + (m : Int):=⟨(x - n.Nodes[i].X).toNat,q9⟩
    have:=Jz (f:=F y) (lo:=n.Nodes[i].X) m fun z r s=>q63 (G:=G) (none z r q9);rw [← b] at this;exact this.2 o
  obtain ⟨k,hk⟩:=qlt d (fun y x h=>(hb.row y x h).2) hi (by rw [p];exact u);refine ⟨i,k,hi,hk,p,t,?_,u⟩;refine Int.lt_of_not_ge fun g=>?_;exact a k hk.lt hk.hk ⟨hk.hk,by rw [hk.eq hi hk.hk,p],g⟩
theorem qqk (hb : Bnd F G) (d : Yl F G n.Nodes) {x y : Int} (o : G x y) : ∃ i k,∃ hi : i < n.Nodes.length,∃ h : Zd n.Nodes i k,n.Nodes[i].X = x∧n.Nodes[i].Y≤y∧y < (n.Nodes[k]'h.hk).Y∧G x n.Nodes[i].Y:=by
  have hex : ∃ j,j < n.Nodes.length∧∃ h : j < n.Nodes.length,n.Nodes[j].X = x∧n.Nodes[j].Y≤y:=by
    refine Classical.byContradiction fun l=>?_
    have step : ∀ z,z≤y→(G x z↔G x (z - 1)):=by
      intro z w;refine q62 (F:=F) fun q=>l ?_;obtain ⟨m,b,c⟩:=List.mem_iff_getElem.1 ((d.mem {X:=x,Y:=z}).2 q);exact ⟨m,b,b,by rw [c],by rw [c];exact w⟩
    have t:=hb.col _ _ o;obtain ⟨m,b⟩ : ∃ m : Nat,y = -1000001 + (m : Int):=⟨(y + 1000001).toNat,q9⟩
    have:=Jz (f:=G x) (lo:=-1000001) m fun z r s=>step z q9;rw [← b] at this;have:=hb.col _ _ (this.2 o);omega
  obtain ⟨i,v,⟨hi,p,t⟩,a⟩:=q87 hex
  have none : ∀ z,n.Nodes[i].Y < z→z≤y→¬ Ky F G x z:=by
    intro z r s q;obtain ⟨m,b,c⟩:=List.mem_iff_getElem.1 ((d.mem {X:=x,Y:=z}).2 q);have ex : n.Nodes[m].X = x:=by rw [c]
    have ey : n.Nodes[m].Y = z:=by rw [c]
    exact a m (J9 d.srt hi b (by unfold ltP;omega)) b ⟨b,ex,q9⟩
  have u : G x n.Nodes[i].Y:=by
    obtain ⟨m,b⟩ : ∃ m : Nat,y = n.Nodes[i].Y + (m : Int):=⟨(y - n.Nodes[i].Y).toNat,q9⟩
    have:=Jz (f:=G x) (lo:=n.Nodes[i].Y) m fun z r s=>q62 (F:=F) (none z r q9);rw [← b] at this;exact this.2 o
  obtain ⟨k,hk⟩:=qls d (fun y x h=>(hb.col y x h).2) hi (by rw [p];exact u);refine ⟨i,k,hi,hk,p,t,?_,u⟩;refine Int.lt_of_not_ge fun g=>?_;exact a k hk.lt hk.hk ⟨hk.hk,by rw [hk.eq hi hk.hk,p],g⟩
theorem qje (hb : Bnd F G) (h : J5 F G n) (y x : Int) : rowP (Uq n) y x↔F y x:=by
  constructor
  · rintro ⟨⟨k0,t⟩,hp,rfl,j,f⟩;obtain ⟨s,hs,b,rfl,rfl⟩:=q5v.1 hp;obtain ⟨e,g,rfl⟩:=List.mem_map.1 hs;obtain ⟨i,k,rfl,hi,l⟩:=(h.edges.mem e).1 g;have hk : k < n.Nodes.length:=by rcases l with ⟨h,_⟩ | ⟨h,_⟩ <;> exact h.hk
    rw [q2a hi hk] at b j f ⊢;simp only at b j f ⊢;rcases l with ⟨m,_⟩ | ⟨c,d⟩
    · have a:=q17 h.nodes.srt hi hk m.lt;have e:=m.eq hi hk;unfold ltP at a;omega
    · have a:=q17 h.nodes.srt hi hk c.lt;unfold ltP at a;exact qz4 h.nodes c hi d q9 q9
  · intro o;obtain ⟨i,k,hi,hk,b,j,f,d⟩:=qz0 hb h.nodes o;have g : ({A:=(i : Int),B:=(k : Int)} : qk)∈n.Edges:=(h.edges.mem _).2 ⟨i,k,rfl,hi,.inr ⟨hk,by rw [b];exact d⟩⟩;have p:=hk.eq hi hk.hk;refine ⟨(y,{Lo:=min n.Nodes[i].X (n.Nodes[k]'hk.hk).X,Hi:=max n.Nodes[i].X (n.Nodes[k]'hk.hk).X}),q5v.2 ⟨Ji n {A:=(i : Int),B:=(k : Int)},List.mem_map.2 ⟨_,g,rfl⟩,?_,?_,?_⟩,rfl,by simp only;omega,by simp only;omega⟩
    · rw [q2a hi hk.hk];exact p.symm
    · rw [q2a hi hk.hk];exact b.symm
    · rw [q2a hi hk.hk]
theorem qjd (hb : Bnd F G) (h : J5 F G n) (x y : Int) : colP (Uq n) x y↔G x y:=by
  constructor
  · rintro ⟨⟨k0,t⟩,hp,rfl,j,d⟩;obtain ⟨s,hs,b,rfl,rfl⟩:=q5u.1 hp;obtain ⟨e,g,rfl⟩:=List.mem_map.1 hs;obtain ⟨i,k,rfl,hi,m⟩:=(h.edges.mem e).1 g;have hk : k < n.Nodes.length:=by rcases m with ⟨h,_⟩ | ⟨h,_⟩ <;> exact h.hk
    rw [q2a hi hk] at b j d ⊢;simp only at b j d ⊢;rcases m with ⟨f,c⟩ | ⟨l,_⟩
    · have a:=q17 h.nodes.srt hi hk f.lt;have e:=f.eq hi hk;unfold ltP at a;exact qqm h.nodes f hi c q9 q9
    · have e:=l.eq hi hk;omega
  · intro o;obtain ⟨i,k,hi,hk,b,j,d,c⟩:=qqk hb h.nodes o;have g : ({A:=(i : Int),B:=(k : Int)} : qk)∈n.Edges:=(h.edges.mem _).2 ⟨i,k,rfl,hi,.inl ⟨hk,by rw [b];exact c⟩⟩;have p:=hk.eq hi hk.hk;have a:=q17 h.nodes.srt hi hk.hk hk.lt;refine ⟨(x,{Lo:=min n.Nodes[i].Y (n.Nodes[k]'hk.hk).Y,Hi:=max n.Nodes[i].Y (n.Nodes[k]'hk.hk).Y}),q5u.2 ⟨Ji n {A:=(i : Int),B:=(k : Int)},List.mem_map.2 ⟨_,g,rfl⟩,?_,?_,?_⟩,rfl,by simp only;omega,by simp only;omega⟩
    · rw [q2a hi hk.hk];show n.Nodes[i].Y≠(n.Nodes[k]'hk.hk).Y;unfold ltP at a;omega
    · rw [q2a hi hk.hk];exact b.symm
    · rw [q2a hi hk.hk]
theorem q11q (hb : Bnd F G) (h : J5 F G n) (b : n.Edges.length≤400) : Jo n (Uq n):=by
  have a:=qs7 hb h;have e1 : rowP (Uq n) = F:=by funext y x;exact propext (qje hb h y x)
  have d : colP (Uq n) = G:=by funext y x;exact propext (qjd hb h y x)
  refine ⟨?_,by simp [Uq],b,fun s hs=>?_,?_⟩
  · unfold q4c;rw [qr a];rfl
  · obtain ⟨e,c,rfl⟩:=List.mem_map.1 hs;exact (a e c).2.2
  · rw [e1,d];exact h
end
end Go.Sh
namespace Go.Sh
open Go Go.Am
open Classical
theorem q5k {α β : Type} {f : α→List β} {c : Nat} : ∀ {l : List α},(∀ x∈l,(f x).length = c)→(l.flatMap f).length = l.length * c
  | [],_=>by simp
  | a::l,h=>by
    rw [List.flatMap_cons,List.length_append,h a qc,q5k (l:=l) fun x b=>h x (by simp [b]),List.length_cons,Nat.succ_mul]
    omega
theorem qjx {α : Type} (p : α→Bool) : ∀ l : List α,(l.filter p).length + (l.filter fun x=>!p x).length = l.length
  | []=>rfl
  | a::l=>by
    have:=qjx p l
    cases h : p a <;> simp [h] <;> omega
noncomputable def q48 (l : List qt) : List qb:=l.flatMap (fun s=>[s.A,s.B]) ++ (l.filter fun s=>decide (s.A.Y = s.B.Y)).flatMap fun h=>(l.filter fun s=>!decide (s.A.Y = s.B.Y)).map fun v=>({X:=v.A.X,Y:=h.A.Y} : qb)
theorem qya : ∀ h,h < 25→∀ v,v < 25→h + v≤24→h * v≤144:=by decide
theorem qii {l : List qt} (c : l.length≤24) : (q48 l).length≤192:=by
  have e1 : (l.flatMap fun s=>[s.A,s.B]).length = l.length * 2:=q5k fun _ _=>rfl;have a : ((l.filter fun s=>decide (s.A.Y = s.B.Y)).flatMap fun h=>(l.filter fun s=>!decide (s.A.Y = s.B.Y)).map fun v=>({X:=v.A.X,Y:=h.A.Y} : qb)).length = (l.filter fun s=>decide (s.A.Y = s.B.Y)).length * (l.filter fun s=>!decide (s.A.Y = s.B.Y)).length:=q5k fun _ _=>by simp
  have b:=qjx (fun s : qt=>decide (s.A.Y = s.B.Y)) l;unfold q48;rw [List.length_append,e1,a];have:=qya _ (show (l.filter fun s : qt=>decide (s.A.Y = s.B.Y)).length < 25 by omega) _ (show (l.filter fun s : qt=>!decide (s.A.Y = s.B.Y)).length < 25 by omega) q9;omega
theorem q3q {l : List qt} {y x : Int} : rowP l y x↔∃ s∈l,s.A.Y = s.B.Y∧s.A.Y = y∧min s.A.X s.B.X≤x∧x < max s.A.X s.B.X:=by
  constructor
  · rintro ⟨⟨k,t⟩,hp,rfl,b,a⟩;obtain ⟨s,hs,c,rfl,rfl⟩:=q5v.1 hp;exact ⟨s,hs,c,rfl,b,a⟩
  · rintro ⟨s,hs,c,rfl,b,a⟩;exact ⟨(_,_),q5v.2 ⟨s,hs,c,rfl,rfl⟩,rfl,b,a⟩
theorem q3b {l : List qt} {x y : Int} : colP l x y↔∃ s∈l,s.A.Y≠s.B.Y∧s.A.X = x∧min s.A.Y s.B.Y≤y∧y < max s.A.Y s.B.Y:=by
  constructor
  · rintro ⟨⟨k,t⟩,hp,rfl,b,a⟩;obtain ⟨s,hs,c,rfl,rfl⟩:=q5u.1 hp;exact ⟨s,hs,c,rfl,b,a⟩
  · rintro ⟨s,hs,c,rfl,b,a⟩;exact ⟨(_,_),q5u.2 ⟨s,hs,c,rfl,rfl⟩,rfl,b,a⟩
theorem qld {l : List qt} {p : qb} : p∈q48 l↔(∃ s∈l,p = s.A∨p = s.B)∨∃ h∈l,h.A.Y = h.B.Y∧∃ v∈l,v.A.Y≠v.B.Y∧p = {X:=v.A.X,Y:=h.A.Y}:=by
  simp only [q48,List.mem_append,List.mem_flatMap,List.mem_cons,List.not_mem_nil,or_false,List.mem_filter,List.mem_map,decide_eq_true_eq,Bool.not_eq_true',decide_eq_false_iff_not];constructor
  · rintro (h | ⟨h,⟨c,a⟩,v,⟨d,b⟩,rfl⟩)
    · exact .inl h
    · exact .inr ⟨h,c,a,v,d,b,rfl⟩
  · rintro (h | ⟨h,c,a,v,d,b,rfl⟩)
    · exact .inl h
    · exact .inr ⟨h,⟨c,a⟩,v,⟨d,b⟩,rfl⟩
theorem qz3 {l : List qt} (m : ∀ s∈l,SegV s) {c d : Int} (e : rowP l d c) (w : ¬ rowP l d (c - 1)) : ∃ s∈l,({X:=c,Y:=d} : qb) = s.A∨({X:=c,Y:=d} : qb) = s.B:=by
  obtain ⟨a,b,j,k,u,o⟩:=q3q.1 e;have h : ¬ (min a.A.X a.B.X≤c - 1∧c - 1 < max a.A.X a.B.X):=fun g=>w (q3q.2 ⟨a,b,j,k,g.1,g.2⟩);have p:=(m a b).or;refine ⟨a,b,?_⟩;rcases Int.le_total a.A.X a.B.X with f | f
  · left;obtain ⟨⟨q,t⟩,r⟩:=a;simp only [qb.mk.injEq] at *;omega
  · right;obtain ⟨v,⟨bx,n⟩⟩:=a;simp only [qb.mk.injEq] at *;omega
theorem qz2 {l : List qt} (m : ∀ s∈l,SegV s) {c d : Int} (e : rowP l d (c - 1)) (w : ¬ rowP l d c) : ∃ s∈l,({X:=c,Y:=d} : qb) = s.A∨({X:=c,Y:=d} : qb) = s.B:=by
  obtain ⟨a,b,j,k,u,o⟩:=q3q.1 e;have h : ¬ (min a.A.X a.B.X≤c∧c < max a.A.X a.B.X):=fun g=>w (q3q.2 ⟨a,b,j,k,g.1,g.2⟩);have p:=(m a b).or;refine ⟨a,b,?_⟩;rcases Int.le_total a.A.X a.B.X with f | f
  · right;obtain ⟨v,⟨bx,n⟩⟩:=a;simp only [qb.mk.injEq] at *;omega
  · left;obtain ⟨⟨q,t⟩,r⟩:=a;simp only [qb.mk.injEq] at *;omega
theorem qiz {l : List qt} (m : ∀ s∈l,SegV s) {d c : Int} (e : colP l d c) (w : ¬ colP l d (c - 1)) : ∃ s∈l,({X:=d,Y:=c} : qb) = s.A∨({X:=d,Y:=c} : qb) = s.B:=by
  obtain ⟨a,b,j,k,u,o⟩:=q3b.1 e;have h : ¬ (min a.A.Y a.B.Y≤c - 1∧c - 1 < max a.A.Y a.B.Y):=fun g=>w (q3b.2 ⟨a,b,j,k,g.1,g.2⟩);have p:=(m a b).or;refine ⟨a,b,?_⟩;rcases Int.le_total a.A.Y a.B.Y with f | f
  · left;obtain ⟨⟨q,t⟩,r⟩:=a;simp only [qb.mk.injEq] at *;omega
  · right;obtain ⟨v,⟨bx,n⟩⟩:=a;simp only [qb.mk.injEq] at *;omega
theorem qiy {l : List qt} (m : ∀ s∈l,SegV s) {d c : Int} (e : colP l d (c - 1)) (w : ¬ colP l d c) : ∃ s∈l,({X:=d,Y:=c} : qb) = s.A∨({X:=d,Y:=c} : qb) = s.B:=by
  obtain ⟨a,b,j,k,u,o⟩:=q3b.1 e;have h : ¬ (min a.A.Y a.B.Y≤c∧c < max a.A.Y a.B.Y):=fun g=>w (q3b.2 ⟨a,b,j,k,g.1,g.2⟩);have p:=(m a b).or;refine ⟨a,b,?_⟩;rcases Int.le_total a.A.Y a.B.Y with f | f
  · right;obtain ⟨v,⟨bx,n⟩⟩:=a;simp only [qb.mk.injEq] at *;omega
  · left;obtain ⟨⟨q,t⟩,r⟩:=a;simp only [qb.mk.injEq] at *;omega
theorem qg3 {l : List qt} (c : ∀ s∈l,SegV s) {p : qb} (h : Ky (rowP l) (colP l) p.X p.Y) : p∈q48 l:=by
  rw [qld];obtain ⟨a,b⟩:=p;simp only at h;by_cases e : rowP l b a
  · by_cases w : rowP l b (a - 1)
    · by_cases n : colP l a b
      · by_cases s : colP l a (b - 1)
        · right;obtain ⟨j,f,m,g,u,r⟩:=q3q.1 e;obtain ⟨q,d,o,k,v,t⟩:=q3b.1 n;exact ⟨j,f,m,q,d,o,by rw [k,g]⟩
        · exact .inl (qiz c n s)
      · by_cases s : colP l a (b - 1)
        · exact .inl (qiy c s n)
        · exfalso;unfold Ky at h;rw [Q2 e,Q2 w,Q6 n,Q6 s] at h;exact absurd h Q0
    · exact .inl (qz3 c e w)
  · by_cases w : rowP l b (a - 1)
    · exact .inl (qz2 c w e)
    · by_cases n : colP l a b
      · by_cases s : colP l a (b - 1)
        · exfalso;unfold Ky at h;rw [Q6 e,Q6 w,Q2 n,Q2 s] at h;exact absurd h Q0
        · exact .inl (qiz c n s)
      · by_cases s : colP l a (b - 1)
        · exact .inl (qiy c s n)
        · exfalso;unfold Ky at h;rw [Q6 e,Q6 w,Q6 n,Q6 s] at h;exact absurd h Q0
theorem qub {l : List qt} (d : l.length≤24) (c : ∀ s∈l,SegV s) : ∃ n,Jm l = some (n,0)∧Nrf∧J5 (rowP l) (colP l) n∧Jo n (Uq n)∧n.Nodes.length≤192:=by
  rcases qfq (l:=l) q9 c with ⟨n,e1,j,h⟩ | ⟨_,_,b,f,m,g⟩
  · have k : n.Nodes.Nodup:=h.nodes.srt.imp (by rintro a b h rfl;exact q4m a a h h);have:=List.Nodup.length_le_of_subset k (l₂:=q48 l) fun p hp=>qg3 c ((h.nodes.mem p).1 hp);have:=qii d;have:=h.elen;exact ⟨n,e1,j,h,q11q (qid q9 c) h q9,q9⟩
  · have:=List.Nodup.length_le_of_subset f (l₂:=q48 l) fun p hp=>qg3 c (g p hp);have:=qii d;omega
theorem qi7 {l : List qt} (a : ∀ s∈l,SegV s) (p : qb) : q38 l p = true↔rowP l p.Y p.X∨rowP l p.Y (p.X - 1)∨colP l p.X p.Y∨colP l p.X (p.Y - 1):=by
  unfold q38;simp only [List.any_eq_true,decide_eq_true_eq,q3q,q3b];constructor
  · rintro ⟨s,hs,⟨b,f⟩,c,g⟩;rcases (a s hs).or with ⟨e1,d⟩ | ⟨e1,d⟩
    · by_cases h : p.Y < max s.A.Y s.B.Y
      · exact .inr (.inr (.inl ⟨s,hs,d,q9,c,h⟩))
      · exact .inr (.inr (.inr ⟨s,hs,d,q9,q9,q9⟩))
    · by_cases h : p.X < max s.A.X s.B.X
      · exact .inl ⟨s,hs,d,q9,b,h⟩
      · exact .inr (.inl ⟨s,hs,d,q9,q9,q9⟩)
  · rintro (⟨s,hs,b,f,c,g⟩ | ⟨s,hs,b,f,c,g⟩ | ⟨s,hs,b,f,c,g⟩ | ⟨s,hs,b,f,c,g⟩)
    · exact ⟨s,hs,by have:=(a s hs).or;unfold Yp;omega⟩
    · exact ⟨s,hs,by have:=(a s hs).or;unfold Yp;omega⟩
    · exact ⟨s,hs,by have:=(a s hs).or;unfold Yp;omega⟩
    · exact ⟨s,hs,by have:=(a s hs).or;unfold Yp;omega⟩
end Go.Sh
namespace Go.Sh
open Go Go.Am
open Classical
theorem qsu {F G : Int→Int→Prop} {n : Qq} (h : J5 F G n) (a : n.Edges.length≤400) : Fit n:=⟨⟨by have:=h.nlen;omega,q9⟩,.inl a⟩
theorem Jo.fit {n : Qq} {l : List qt} (h : Jo n l) : Fit n:=qsu h.net h.le
theorem ql8 {l m : List qt} {n : Qq} (d : m.length≤400) (j : ∀ s∈m,SegV s) (h : J5 (rowP l) (colP l) n) (e1 : rowP m = rowP l) (c : colP m = colP l) : Jm m = some (n,0)∧Nrf:=by
  rcases qfq d j with ⟨k,g,f,a⟩ | ⟨_,_,b⟩
  · rw [e1,c] at a;rw [h.uniq a];exact ⟨g,f⟩
  · rw [e1,c] at b;have:=b.not h.nodes;have:=h.nlen;omega
end Go.Sh
namespace Go.Sh
open Go Go.Am
open Classical
end Go.Sh
namespace Go.Sh
open Go Go.Am
def nxX (N : List qb) (i k : Nat) : Bool:=decide (i < k) && decide (k < N.length) && decide ((N[k]?).map (·.X) = (N[i]?).map (·.X)) && (List.range N.length).all fun j=>!(decide (i < j) && decide (j < k)) || !decide ((N[j]?).map (·.X) = (N[i]?).map (·.X))
def nxY (N : List qb) (i k : Nat) : Bool:=decide (i < k) && decide (k < N.length) && decide ((N[k]?).map (·.Y) = (N[i]?).map (·.Y)) && (List.range N.length).all fun j=>!(decide (i < j) && decide (j < k)) || !decide ((N[j]?).map (·.Y) = (N[i]?).map (·.Y))
theorem qv3 {N : List qb} {i k : Nat} : nxX N i k = true↔Zd N i k:=by
  simp only [nxX,Bool.and_eq_true,decide_eq_true_eq,List.all_eq_true,List.mem_range,Bool.or_eq_true,Bool.not_eq_true',Bool.and_eq_false_iff,decide_eq_false_iff_not];constructor
  · rintro ⟨⟨⟨l,a⟩,f⟩,g⟩;have hi : i < N.length:=by omega
    rw [List.getElem?_eq_getElem a,List.getElem?_eq_getElem hi] at f;refine ⟨l,a,fun _ _=>Zj f,fun j _ b d c e=>?_⟩;rcases g j b with (h | h) | h
    · exact h d
    · exact h c
    · rw [List.getElem?_eq_getElem b,List.getElem?_eq_getElem hi] at h;exact h (congrArg some e)
  · rintro ⟨l,a,f,g⟩;have hi : i < N.length:=by omega
    refine ⟨⟨⟨l,a⟩,?_⟩,fun j b=>?_⟩
    · rw [List.getElem?_eq_getElem a,List.getElem?_eq_getElem hi];exact congrArg some (f hi a)
    · by_cases d : i < j
      · by_cases c : j < k
        · right;rw [List.getElem?_eq_getElem b,List.getElem?_eq_getElem hi];exact fun e=>g j hi b d c (Zj e)
        · exact .inl (.inr c)
      · exact .inl (.inl d)
theorem qv4 {N : List qb} {i k : Nat} : nxY N i k = true↔Ze N i k:=by
  simp only [nxY,Bool.and_eq_true,decide_eq_true_eq,List.all_eq_true,List.mem_range,Bool.or_eq_true,Bool.not_eq_true',Bool.and_eq_false_iff,decide_eq_false_iff_not];constructor
  · rintro ⟨⟨⟨l,a⟩,f⟩,g⟩;have hi : i < N.length:=by omega
    rw [List.getElem?_eq_getElem a,List.getElem?_eq_getElem hi] at f;refine ⟨l,a,fun _ _=>Zj f,fun j _ b d c e=>?_⟩;rcases g j b with (h | h) | h
    · exact h d
    · exact h c
    · rw [List.getElem?_eq_getElem b,List.getElem?_eq_getElem hi] at h;exact h (congrArg some e)
  · rintro ⟨l,a,f,g⟩;have hi : i < N.length:=by omega
    refine ⟨⟨⟨l,a⟩,?_⟩,fun j b=>?_⟩
    · rw [List.getElem?_eq_getElem a,List.getElem?_eq_getElem hi];exact congrArg some (f hi a)
    · by_cases d : i < j
      · by_cases c : j < k
        · right;rw [List.getElem?_eq_getElem b,List.getElem?_eq_getElem hi];exact fun e=>g j hi b d c (Zj e)
        · exact .inl (.inr c)
      · exact .inl (.inl d)
def rowB (l : List qt) (y x : Int) : Bool:=l.any fun s=>decide (s.A.Y = s.B.Y) && decide (s.A.Y = y) && decide (min s.A.X s.B.X≤x) && decide (x < max s.A.X s.B.X)
def colB (l : List qt) (x y : Int) : Bool:=l.any fun s=>!decide (s.A.Y = s.B.Y) && decide (s.A.X = x) && decide (min s.A.Y s.B.Y≤y) && decide (y < max s.A.Y s.B.Y)
theorem q90 {l : List qt} {y x : Int} : rowB l y x = true↔rowP l y x:=by
  rw [q3q];simp only [rowB,List.any_eq_true,Bool.and_eq_true,decide_eq_true_eq,and_assoc]
theorem q7r {l : List qt} {x y : Int} : colB l x y = true↔colP l x y:=by
  rw [q3b];simp only [colB,List.any_eq_true,Bool.and_eq_true,decide_eq_true_eq,Bool.not_eq_true',decide_eq_false_iff_not,and_assoc]
def edgB (l : List qt) (N : List qb) (i k : Nat) : Bool:=match N[i]? with
  | some p=>(nxX N i k && colB l p.X p.Y) || (nxY N i k && rowB l p.Y p.X)
  | none=>false
theorem qjc {l : List qt} {N : List qb} {i k : Nat} : edgB l N i k = true↔q4i (rowP l) (colP l) N i k:=by
  unfold edgB q4i;by_cases hi : i < N.length
  · simp only [List.getElem?_eq_getElem hi,Bool.or_eq_true,Bool.and_eq_true,qv3,qv4,q90,q7r];exact ⟨fun h=>⟨hi,h⟩,fun ⟨_,h⟩=>h⟩
  · rw [List.getElem?_eq_none q9];exact ⟨fun h=>(by cases h),fun ⟨h,_⟩=>absurd h hi⟩
instance (a b : qk) : Decidable (ltG a b):=by unfold ltG;exact inferInstance
def srtG : List qk→Bool
  | []=>true
  | a::r=>(r.all fun b=>decide (ltG a b)) && srtG r
def srtP : List qb→Bool
  | []=>true
  | a::r=>(r.all fun b=>decide (ltP a b)) && srtP r
theorem qo6 : ∀ {l : List qk},srtG l = true→l.Pairwise ltG
  | [],_=>.nil
  | a::r,h=>by
    simp only [srtG,Bool.and_eq_true,List.all_eq_true,decide_eq_true_eq] at h
    exact List.pairwise_cons.2 ⟨h.1,qo6 h.2⟩
theorem qo7 : ∀ {l : List qb},srtP l = true→l.Pairwise ltP
  | [],_=>.nil
  | a::r,h=>by
    simp only [srtP,Bool.and_eq_true,List.all_eq_true,decide_eq_true_eq] at h
    exact List.pairwise_cons.2 ⟨h.1,qo7 h.2⟩
def qex (l : List qt) (n : Qq) : Bool:=srtG n.Edges && (n.Edges.all fun e=>decide (0≤e.A) && decide (0≤e.B) && edgB l n.Nodes e.A.toNat e.B.toNat) && (List.range n.Nodes.length).all fun i=>(List.range n.Nodes.length).all fun k=>!edgB l n.Nodes i k || n.Edges.any fun e=>decide (e = {A:=(i : Int),B:=(k : Int)})
theorem qs8 {l : List qt} {n : Qq} (h : qex l n = true) : q58 (rowP l) (colP l) n.Nodes n.Edges:=by
  simp only [qex,Bool.and_eq_true,List.all_eq_true,decide_eq_true_eq,List.mem_range,Bool.or_eq_true,Bool.not_eq_true',List.any_eq_true] at h;obtain ⟨⟨j,g⟩,o⟩:=h;refine ⟨qo6 j,fun e=>⟨fun d=>?_,?_⟩⟩
  · obtain ⟨⟨a,b⟩,c⟩:=g e d;refine ⟨e.A.toNat,e.B.toNat,?_,qjc.1 c⟩;obtain ⟨q,p⟩:=e;simp only [qk.mk.injEq] at a b ⊢;omega
  · rintro ⟨i,k,rfl,d⟩;have hi : i < n.Nodes.length:=d.1;have hk : k < n.Nodes.length:=by obtain ⟨_,⟨h,_⟩ | ⟨h,_⟩⟩:=d <;> exact h.hk
    rcases o i hi k hk with f | ⟨e,m,rfl⟩
    · rw [qjc.2 d] at f;cases f
    · exact m
def qd0 (l : List qt) (p : qb) : Bool:=q61 (rowB l p.Y p.X) (colB l p.X p.Y) (rowB l p.Y (p.X - 1)) (colB l p.X (p.Y - 1))
open Classical in
theorem qlv {l : List qt} {p : qb} : qd0 l p = true↔Ky (rowP l) (colP l) p.X p.Y:=by
  unfold qd0 Ky
  have e : ∀ {b : Bool} {P : Prop},(b = true↔P)→b = decide P:=by
    intro b P h;cases b
    · symm;exact Q6 (fun hp=>by have:=h.2 hp;cases this)
    · symm;exact Q2 (h.1 rfl)
  rw [e q90,e q7r,e q90,e q7r]
def qih (l : List qt) : List qb:=l.flatMap (fun s=>[s.A,s.B]) ++ l.flatMap fun h=>l.map fun v=>({X:=v.A.X,Y:=h.A.Y} : qb)
def qg4 (l : List qt) (N : List qb) : Bool:=srtP N && (N.all fun p=>qd0 l p) && (qih l).all fun p=>!qd0 l p || N.any fun q=>decide (q = p)
theorem quz {l : List qt} {N : List qb} (m : ∀ s∈l,SegV s) (h : qg4 l N = true) : Yl (rowP l) (colP l) N:=by
  simp only [qg4,Bool.and_eq_true,List.all_eq_true,Bool.or_eq_true,Bool.not_eq_true',List.any_eq_true,decide_eq_true_eq] at h;obtain ⟨⟨n,d⟩,g⟩:=h;refine ⟨qo7 n,fun p=>⟨fun hp=>qlv.1 (d p hp),fun b=>?_⟩⟩
  have o : p∈qih l:=by
    rcases qld.1 (qg3 m b) with ⟨s,hs,k⟩ | ⟨h,f,_,v,a,_,rfl⟩
    · exact List.mem_append_left _ (List.mem_flatMap.2 ⟨s,hs,by rcases k with rfl | rfl <;> simp⟩)
    · exact List.mem_append_right _ (List.mem_flatMap.2 ⟨h,f,List.mem_map.2 ⟨v,a,rfl⟩⟩)
  rcases g p o with c | ⟨q,j,rfl⟩
  · rw [qlv.2 b] at c;cases c
  · exact j
def ptB (p : qb) : Bool:=decide (-1000000≤p.X) && decide (p.X≤1000000) && decide (-1000000≤p.Y) && decide (p.Y≤1000000)
def segB (s : qt) : Bool:=ptB s.A && ptB s.B && (decide (s.A.X = s.B.X) != decide (s.A.Y = s.B.Y))
theorem q10e {s : qt} (h : segB s = true) : SegV s:=by
  simp only [segB,ptB,Bool.and_eq_true,decide_eq_true_eq,bne_iff_ne,ne_eq,decide_eq_decide] at h;obtain ⟨⟨⟨⟨⟨b,d⟩,g⟩,a⟩,⟨⟨b1,b2⟩,j⟩,f⟩,c⟩:=h;refine ⟨⟨b,d,g,a⟩,⟨b1,b2,j,f⟩,?_⟩;by_cases e1 : s.A.X = s.B.X <;> by_cases k : s.A.Y = s.B.Y <;> simp [e1,k] at c ⊢
def netB (l : List qt) (n : Qq) : Bool:=l.all segB && decide (l.length≤24) && qg4 l n.Nodes && qex l n
theorem q8i {l : List qt} {n : Qq} (h : netB l n = true) : (∀ s∈l,SegV s)∧l.length≤24∧J5 (rowP l) (colP l) n∧Jo n (Uq n)∧Jm l = some (n,0):=by
  simp only [netB,Bool.and_eq_true,List.all_eq_true,decide_eq_true_eq] at h;obtain ⟨⟨⟨q,k⟩,o⟩,p⟩:=h;have j : ∀ s∈l,SegV s:=fun s hs=>q10e (q s hs);obtain ⟨m,e1,_,g,hs,_⟩:=qub k j;have f : m.Nodes = n.Nodes:=qlx g.nodes (quz j o);have O : m.Edges = n.Edges:=qjg (by rw [← f];exact g.edges) (qs8 p)
  have : m = n:=by
    obtain ⟨a,b⟩:=m;obtain ⟨c,d⟩:=n;simp only at f O;rw [f,O]
  subst this;exact ⟨j,k,g,hs,e1⟩
end Go.Sh
namespace Go.Sh
open Go Go.Am
open Classical
theorem q3h (p : qb) : q3f p = some (decide (PtB p)):=by
  unfold q3f;by_cases h : PtB p
  · have a:=h;unfold PtB at a;rw [Q2 h,Qd q9,Qd q9,Q2 (show max (max (max p.X (0 - p.X)) p.Y) (0 - p.Y)≤1000000 by omega),Qb,Q2 (show min p.X p.Y ≥ -1000000 by omega)];rfl
  · have a:=h;unfold PtB at a;rw [Q6 h];by_cases b : (max (max (max p.X (w64 (0 - p.X))) p.Y) (w64 (0 - p.Y)))≤1000000
    · rw [Q2 b,Qb,Q6 (show ¬ min p.X p.Y ≥ -1000000 by omega)];rfl
    · rw [Q6 b];rfl
def dirs : List qb:=[{X:=1,Y:=0},{X:=0,Y:=1},{X:=(-1),Y:=0},{X:=0,Y:=(-1)}]
theorem qjs : q2d [] = some 0:=by
  unfold q2d;have : loop (q5h []) 0 = some (.inl ()):=K7 rfl;rw [this];rfl
theorem qsp (p : qb) : q2e [] p = some 2:=by
  unfold q2e q5i;have : loop (q3g [] p) (0,0) = some 0:=K7 rfl;rw [this];rfl
theorem qoq {p : qb} {h : Nat} {d : qb} (g : h < 4) (hd : dirs[h]? = some d) (hp : PtB p) (f : PtB {X:=p.X + d.X,Y:=p.Y + d.Y}) : Ju [] p (h : Int) 1 = some ([p,{X:=p.X + d.X,Y:=p.Y + d.Y}],0):=by
  have b:=f;unfold PtB at b;simp only at b
  have c : idxA 4 dirs (h : Int) = some d:=by
    unfold idxA;simp only [Int.toNat_natCast]
    first
      | (rw [qr q9];exact hd)
      | (rw [qr ⟨q9,q9⟩];exact hd)
      | simp [hd,g]
  have s0 : J8 1 [] ((h : Int),0,p.X,p.Y,[p]) = some (.inl ((h : Int),1,p.X + d.X,p.Y + d.Y,[p,{X:=p.X + d.X,Y:=p.Y + d.Y}])):=by
    unfold J8;have a : idxA 4 [({X:=1,Y:=0} : qb),({X:=0,Y:=1} : qb),({X:=(-1),Y:=0} : qb),({X:=0,Y:=(-1)} : qb)] (h : Int) = some d:=c;have c0 : decide ((0 : Int) < 1) = true:=rfl;have c2 : decide ((2 : Int) < 2) = false:=rfl;simp only [c0,Qb,qsp,qq,c2,Q4,a];rw [Qd (x:=p.X + d.X) q9,Qd (x:=p.Y + d.Y) q9,q3h,Q2 f];rfl
  have s1 : J8 1 [] ((h : Int),1,p.X + d.X,p.Y + d.Y,[p,{X:=p.X + d.X,Y:=p.Y + d.Y}]) = some (.inr (.inl [p,{X:=p.X + d.X,Y:=p.Y + d.Y}])):=rfl;unfold Ju;have e0 : ((0 : Int) != 0) = false:=rfl;rw [qjs,qq,e0,Q4,q3h,Q2 hp,qq,Bool.not_true,Q4,qq,Q6 (show ¬ (h : Int) > 3 by omega),Q4,qq];have c1 : decide ((1 : Int) < 0) = false:=rfl;have c3 : decide ((1 : Int) > 500) = false:=rfl;rw [c1,Q4,qq,c3,Q4,Kc s0,K7 s1];rfl
theorem qes {h : Nat} {d : qb} (b : h < 4) (hd : dirs[h]? = some d) : q95 dirs d = some (h : Int):=by
  have nx : ∀ (d : qb) (k : Nat) (e : qb),dirs[k]? = some e→k < 4→e≠d→q2x dirs d (k : Int) = some (.inl ((k + 1 : Nat) : Int)):=by
    intro d k e c hk f;unfold q2x;rw [Q2 (show (k : Int) < (dirs.length : Int) by have : dirs.length = 4:=rfl;omega),Qb];have : idx dirs (k : Int) = some e:=by unfold idx;simp [c]
    rw [this,qq,beqP,Q6 (fun h=>f h.symm),Q4,Qd q9];rfl
  have fd : ∀ (d : qb) (k : Nat),dirs[k]? = some d→k < 4→q2x dirs d (k : Int) = some (.inr (.inr (k : Int))):=by
    intro d k c hk;unfold q2x;rw [Q2 (show (k : Int) < (dirs.length : Int) by have : dirs.length = 4:=rfl;omega),Qb];have : idx dirs (k : Int) = some d:=by unfold idx;simp [c]
    rw [this,qq,beqP,Q2 rfl,Qb]
  have key : loop (q2x dirs d) ((0 : Nat) : Int) = some (.inr (h : Int)):=by
    have : h = 0∨h = 1∨h = 2∨h = 3:=by omega
    rcases this with rfl | rfl | rfl | rfl
    · exact K7 (fd d 0 hd b)
    · cases hd;rw [Kc (nx _ 0 _ rfl q9 Q0)];exact K7 (fd _ 1 rfl b)
    · cases hd;rw [Kc (nx _ 0 _ rfl q9 Q0),Kc (nx _ 1 _ rfl q9 Q0)];exact K7 (fd _ 2 rfl b)
    · cases hd;rw [Kc (nx _ 0 _ rfl q9 Q0),Kc (nx _ 1 _ rfl q9 Q0),Kc (nx _ 2 _ rfl q9 Q0)];exact K7 (fd _ 3 rfl b)
  have a : loop (q2x dirs d) 0 = some (.inr (h : Int)):=key;unfold q95;rw [a];rfl
end Go.Sh
namespace Go.Sh
open Go Go.Am
open Classical
structure Ym (v : K5) : Prop where
  kind : 1≤v.Kind∧v.Kind≤4
  at_ : PtB v.At
  weight : 1≤v.Weight∧v.Weight≤1000000
  reach : 0≤v.Reach∧v.Reach≤1000000
noncomputable def Jd (l : List K5) : Int:=if 60 < l.length then 4 else if ∀ v∈l,Ym v then 0 else 8
theorem qmu (v : K5) : ((cond (decide (v.Kind < 1)) (some true) (some (decide (v.Kind > 4)))).bind fun f=>(cond f (some true) ((q3f v.At).bind fun d=>some (!d))).bind fun g=>(cond g (some true) (some (decide (v.Weight < 1)))).bind fun l=>(cond l (some true) (some (decide (v.Weight > 1000000)))).bind fun j=>(cond j (some true) (some (decide (v.Reach < 0)))).bind fun k=>(cond k (some true) (some (decide (v.Reach > 1000000))))) = some (!decide (Ym v)):=by
  rw [q3h];by_cases b : v.Kind < 1
  · simp [b];exact fun h=>by have:=h.kind;omega
  by_cases c : v.Kind > 4
  · simp [b,c];exact fun h=>by have:=h.kind;omega
  by_cases a : PtB v.At
  case neg=>simp [b,c,a];exact fun h=>a h.at_
  by_cases w1 : v.Weight < 1
  · simp [b,c,a,w1];exact fun h=>by have:=h.weight;omega
  by_cases w2 : v.Weight > 1000000
  · simp [b,c,a,w1,w2];exact fun h=>by have:=h.weight;omega
  by_cases m : v.Reach < 0
  · simp [b,c,a,w1,w2,m];exact fun h=>by have:=h.reach;omega
  by_cases n : v.Reach > 1000000
  · simp [b,c,a,w1,w2,m,n];exact fun h=>by have:=h.reach;omega
  · simp [b,c,a,w1,w2,m,n];exact ⟨q9,a,q9,q9⟩
theorem qio {f : Int→Option (Int ⊕ (Unit ⊕ Int))} {l : List K5} (m : l.length≤1000)
    (hs : ∀ k (hk : k < l.length),f (k : Int) = if Ym l[k] then some (.inl (w64 ((k : Int) + 1))) else some (.inr (.inr 8))) (hd : f (l.length : Int) = some (.inr (.inl ()))) : loop f 0 = some (if ∀ v∈l,Ym v then .inl () else .inr 8):=by
  have:=Yv (f:=f) (σ:=Unit) (fun k _=>(k : Int)) l.length (fun k _=>∀ i (hi : i < l.length),i < k→Ym l[i]) (fun o=>o = if ∀ v∈l,Ym v then .inl () else .inr 8) ?_ ?_ (k0:=0) (c0:=()) q9 (fun i hi h=>q9)
  · obtain ⟨b,g,rfl⟩:=this;exact g
  · rintro k _ hk c;have:=hs k hk;by_cases a : Ym l[k]
    · rw [qr a,Qd q9] at this;refine .inl ⟨(),by rw [this];rfl,fun i hi j=>?_⟩;by_cases e : i = k
      · subst e;exact a
      · exact c i hi q9
    · rw [qu a] at this;exact .inr ⟨_,this,by rw [qu (fun h=>a (h _ (Yf hk)))]⟩
  · rintro _ c;refine ⟨_,hd,?_⟩;rw [qr];intro s d;obtain ⟨i,hi,rfl⟩:=List.mem_iff_getElem.1 d;exact c i hi hi
theorem qf2 (l : List K5) : q2d l = some (Jd l):=by
  unfold q2d Jd;by_cases h : 60 < l.length
  · rw [Q2 (show (l.length : Int) > 60 by omega),qr h];rfl
  · rw [Q6 (show ¬ (l.length : Int) > 60 by omega),qu h,Q4,qio (l:=l) q9 (fun k hk=>?_) (by simp only [q5h,dnl',Q4])]
    · by_cases b : ∀ v∈l,Ym v
      · rw [qr b,qr b];rfl
      · rw [qu b,qu b];rfl
    · have hp:=qmu l[k];simp only [q5h,dlt' hk,Qb,Kf hk,qq];simp only [← Option.bind_assoc] at hp ⊢;rw [hp];by_cases a : Ym l[k]
      · rw [qr a,Q2 a];rfl
      · rw [qu a,Q6 a];rfl
theorem qyj (l : List K5) : q8x l = some (Jd l):=by
  unfold q8x Jd;by_cases h : 60 < l.length
  · rw [Q2 (show (l.length : Int) > 60 by omega),qr h];rfl
  · rw [Q6 (show ¬ (l.length : Int) > 60 by omega),qu h,Q4,qio (l:=l) q9 (fun k hk=>?_) (by simp only [q8y,dnl',Q4])]
    · by_cases b : ∀ v∈l,Ym v
      · rw [qr b,qr b];rfl
      · rw [qu b,qu b];rfl
    · have hp:=qmu l[k];rw [q3h,← qn1] at hp;simp only [q8y,dlt' hk,Qb,Kf hk,qq];simp only [← Option.bind_assoc] at hp ⊢;rw [hp];by_cases a : Ym l[k]
      · rw [qr a,Q2 a];rfl
      · rw [qu a,Q6 a];rfl
end Go.Sh
namespace Go.Sh
open Go Go.Am
open Classical
def absI (a : Int) : Int:=max a (0 - a)
def sgn (k dx dy : Int) : Int:=if k = 1 then 1 else if k = 2 then -1 else if k = 3 then (if dy > dx then 1 else if dy < dx then -1 else 0) else (if dy > dx then -1 else if dy < dx then 1 else 0)
def q67 (v : K5) (p : qb) : Int:=if max (absI (p.X - v.At.X)) (absI (p.Y - v.At.Y)) > v.Reach then 0 else sgn v.Kind (absI (p.X - v.At.X)) (absI (p.Y - v.At.Y)) * (v.Weight * (v.Reach + 1 - max (absI (p.X - v.At.X)) (absI (p.Y - v.At.Y))))
theorem qgy (k a b : Int) : sgn k a b = 1∨sgn k a b = -1∨sgn k a b = 0:=by
  unfold sgn
  repeat' split
  all_goals simp
theorem qms {w t : Int} (b : 1≤w∧w≤1000000) (a : 0≤t∧t≤1000001) : 0≤w * t∧w * t≤1000001000000:=by
  have:=Int.mul_le_mul b.2 a.2 a.1 q9;exact ⟨Int.mul_nonneg q9 a.1,q9⟩
theorem qmt {v : K5} (h : Ym v) {p : qb} (hp : PtB p) : -1000001000000≤q67 v p∧q67 v p≤1000001000000:=by
  unfold q67;split
  · omega
  · rename_i a;have hd : 0≤max (absI (p.X - v.At.X)) (absI (p.Y - v.At.Y)):=by unfold absI;omega
    have:=qms h.weight (t:=v.Reach + 1 - max (absI (p.X - v.At.X)) (absI (p.Y - v.At.Y))) (by have:=h.reach;omega);rcases qgy v.Kind (absI (p.X - v.At.X)) (absI (p.Y - v.At.Y)) with e | e | e <;> rw [e] <;> omega
def sumV (p : qb) : List K5→Int
  | []=>0
  | v::l=>q67 v p + sumV p l
theorem q12l (p : qb) (a b : List K5) : sumV p (a ++ b) = sumV p a + sumV p b:=by
  induction a with
  | nil=>simp [sumV]
  | cons s a ih=>simp only [List.cons_append,sumV,ih];omega
theorem qol {p : qb} (hp : PtB p) : ∀ {l : List K5},(∀ v∈l,Ym v)→-1000001000000 * (l.length : Int)≤sumV p l∧sumV p l≤1000001000000 * (l.length : Int)
  | [],_=>by simp [sumV]
  | v::l,h=>by
    have:=qmt (h v qc) hp
    have:=qol hp (l:=l) fun t a=>h t (by simp [a])
    simp only [sumV,List.length_cons];omega
theorem qhv {a b : Int} (c : -1000000≤a∧a≤1000000) (hb : -1000000≤b∧b≤1000000) : (max (w64 (a - b)) (w64 (0 - (w64 (a - b))))) = absI (a - b):=by
  rw [Qd (x:=a - b) q9,Qd q9];rfl
theorem qyb (k b a : Int) (hk : 1≤k∧k≤4) : (cond (k == 1) (some (1 : Int)) (cond (k == 2) (some (-1)) ((cond ((k == 3) == (decide (a > b))) (some (b != a)) (some false)).bind fun f=>cond f (some 1) (cond (b != a) (some (-1)) (some 0))))) = some (sgn k b a):=by
  have g : (b != a) = !decide (b = a):=by rw [bne,beqI]
  rw [g,beqI,beqI,beqI];unfold sgn;have : k = 1∨k = 2∨k = 3∨k = 4:=by omega
  rcases this with rfl | rfl | rfl | rfl
  · simp
  · simp
  · by_cases c : a > b
    · have : ¬ b = a:=by omega
      simp [c,this]
    · by_cases d : a < b
      · have : ¬ b = a:=by omega
        simp [c,d,this]
      · have : b = a:=by omega
        simp [c,d,this]
  · by_cases c : a > b
    · have : ¬ b = a:=by omega
      simp [c,this]
    · by_cases d : a < b
      · have : ¬ b = a:=by omega
        simp [c,d,this]
      · have : b = a:=by omega
        simp [c,d,this]
theorem qt1 {l : List K5} (hl : l.length≤60) (u : ∀ v∈l,Ym v) {p : qb} (hp : PtB p) : q5i l p = some (sumV p l):=by
  have hp':=hp;unfold PtB at hp';have:=Yv (f:=q3g l p) (σ:=Int) (fun k a=>((k : Int),a)) l.length (fun k a=>a = sumV p (l.take k)) (fun a=>a = sumV p l) ?_ ?_ (k0:=0) (c0:=0) q9 (by simp [sumV])
  · obtain ⟨b,r,rfl⟩:=this;have r : loop (q3g l p) (0,0) = some (sumV p l):=r;unfold q5i;rw [r];rfl
  · rintro k a hk rfl;have c:=u _ (Yf hk);have q:=c.at_;unfold PtB at q
    have e1 : sumV p (l.take (k + 1)) = sumV p (l.take k) + q67 l[k] p:=by
      rw [List.take_succ_eq_append_getElem hk,q12l];simp [sumV]
    have hb:=qol hp (l:=l.take k) fun v h=>u v (List.mem_of_mem_take h);have o : (l.take k).length = k:=by simp;omega
    rw [o] at hb;have g:=qmt c hp;refine .inl ⟨sumV p (l.take (k + 1)),?_,rfl⟩;simp only [q3g,dlt' hk,Qb,Kf hk,qq];rw [qhv q9 q9,qhv q9 q9,e1];generalize j : absI (p.X - l[k].At.X) = dx;generalize m : absI (p.Y - l[k].At.Y) = dy;have aa : 0≤dx∧0≤dy:=by rw [← j,← m];unfold absI;omega
    unfold q67 at g ⊢;rw [j,m] at g ⊢;by_cases n : max dx dy > l[k].Reach
    · rw [Q2 n,Qb,qr n,qq,Qd q9,Int.add_zero];rfl
    · rw [qu n] at g;rw [Q6 n,Q4,qu n,qyb _ _ _ c.kind];simp only [qq];have w:=c.weight;have y:=c.reach;have z:=qms w (t:=l[k].Reach + 1 - max dx dy) q9;rw [Qd (x:=l[k].Reach + 1) q9,Qd (x:=l[k].Reach + 1 - max dx dy) q9];have hs : w64 (sgn l[k].Kind dx dy * l[k].Weight) = sgn l[k].Kind dx dy * l[k].Weight:=Qd (by rcases qgy l[k].Kind dx dy with e | e | e <;> rw [e] <;> omega);rw [hs];have d : sgn l[k].Kind dx dy * l[k].Weight * (l[k].Reach + 1 - max dx dy) = sgn l[k].Kind dx dy * (l[k].Weight * (l[k].Reach + 1 - max dx dy)):=Int.mul_assoc _ _ _;rw [d]
      have s : -1000001000000≤sgn l[k].Kind dx dy * (l[k].Weight * (l[k].Reach + 1 - max dx dy))∧sgn l[k].Kind dx dy * (l[k].Weight * (l[k].Reach + 1 - max dx dy))≤1000001000000:=by
        rcases qgy l[k].Kind dx dy with e | e | e <;> rw [e] <;> omega
      rw [Qd (x:=sgn l[k].Kind dx dy * (l[k].Weight * (l[k].Reach + 1 - max dx dy))) q9,Qd (x:=sumV p (l.take k) + _) q9,Qd q9];rfl
  · rintro a rfl;exact ⟨_,by simp only [q3g,dnl',Q4];rfl,by rw [List.take_length]⟩
end Go.Sh
namespace Go.Sh
open Go Go.Am
open Classical
def Zl (l : List K5) (p : qb) : Nat:=if sumV p l > 0 then 0 else if sumV p l < 0 then 1 else 2
theorem qib {l : List K5} (d : l.length≤60) (c : ∀ v∈l,Ym v) {p : qb} (hp : PtB p) : q2e l p = some (Zl l p : Int)∧Nrf:=by
  unfold q2e Zl;rw [qt1 d c hp];simp only [qq];by_cases a : sumV p l > 0
  · simp [a];exact rfl
  · by_cases b : sumV p l < 0
    · simp [a,b];exact rfl
    · simp [a,b];exact rfl
end Go.Sh
namespace Go.Sh
open Go Go.Am
open Classical
def Kd (l : List K5) (p : qb) (h : Nat) : Nat:=if Zl l p < 2∧h % 2≠Zl l p then (h + 1) % 4 else h
def dirV (h : Nat) : qb:=(dirs[h]?).getD {X:=0,Y:=0}
def goV (l : List K5) (p : qb) (h : Nat) : qb:={X:=p.X + (dirV (Kd l p h)).X,Y:=p.Y + (dirV (Kd l p h)).Y}
theorem q4h {l : List K5} {p : qb} {h : Nat} (a : h < 4) : Kd l p h < 4:=by unfold Kd;split <;> omega
theorem qeu {h : Nat} (a : h < 4) : dirs[h]? = some (dirV h):=by
  have : h = 0∨h = 1∨h = 2∨h = 3:=by omega
  rcases this with rfl | rfl | rfl | rfl <;> rfl
theorem qet {h : Nat} (a : h < 4) : -1≤(dirV h).X∧(dirV h).X≤1∧-1≤(dirV h).Y∧(dirV h).Y≤1:=by
  have : h = 0∨h = 1∨h = 2∨h = 3:=by omega
  rcases this with rfl | rfl | rfl | rfl <;> decide
theorem qkj {a h : Nat} (g : h < 4) (f : a < 3) : ((cond (decide ((a : Int) < 2)) (some ((Int.tmod (h : Int) 2) != (a : Int))) (some false)).bind fun c=>(cond c (some (Int.tmod (IntKind.wrap .u8 ((h : Int) + 1)) 4)) (some (h : Int)))) = some (((if a < 2∧h % 2≠a then (h + 1) % 4 else h : Nat)) : Int):=by
  have b : h = 0∨h = 1∨h = 2∨h = 3:=by omega
  have d : a = 0∨a = 1∨a = 2:=by omega
  rcases b with rfl | rfl | rfl | rfl <;> rcases d with rfl | rfl | rfl <;> rfl
theorem q12t {l : List K5} (o : l.length≤60) (n : ∀ v∈l,Ym v) {p : qb} (hp : PtB p) {h : Nat} (k : h < 4) : Ju l p (h : Int) 1 = some (if PtB (goV l p h) then ([p,goV l p h],0) else ([],16)):=by
  have hp':=hp;unfold PtB at hp';have m:=q4h (l:=l) (p:=p) k;have hd:=qeu m;have f:=qet m
  have d : idxA 4 [({X:=1,Y:=0} : qb),({X:=0,Y:=1} : qb),({X:=(-1),Y:=0} : qb),({X:=0,Y:=(-1)} : qb)] (Kd l p h : Int) = some (dirV (Kd l p h)):=by
    unfold idxA;rw [qr q9,Int.toNat_natCast];exact hd
  have r:=qkj (a:=Zl l p) k (by unfold Zl;split <;> (try split) <;> omega)
  have j : q2d l = some 0:=by
    rw [qf2];unfold Jd;rw [qu q9,qr n]
  have c0 : decide ((0 : Int) < 1) = true:=rfl;have e0 : ((0 : Int) != 0) = false:=rfl
  have s0 : J8 1 l ((h : Int),0,p.X,p.Y,[p]) = if PtB (goV l p h) then some (.inl ((Kd l p h : Int),1,(goV l p h).X,(goV l p h).Y,[p,goV l p h])) else some (.inr (.inr ([],16))):=by
    unfold J8;have q : q2e l ({X:=p.X,Y:=p.Y} : qb) = some (Zl l p : Int):=(qib o n hp).1;simp only [c0,Qb,q,qq];rw [← Option.bind_assoc,r,qq];have b:=d;unfold Kd at b ⊢;simp only [b,qq];have g : goV l p h = {X:=p.X + (dirV (if Zl l p < 2∧h % 2≠Zl l p then (h + 1) % 4 else h)).X,Y:=p.Y + (dirV (if Zl l p < 2∧h % 2≠Zl l p then (h + 1) % 4 else h)).Y}:=rfl;unfold Kd at f;rw [Qd (x:=p.X + _) q9,Qd (x:=p.Y + _) q9,← g,q3h,qq];by_cases c : PtB (goV l p h)
    · rw [Q2 c,qr c];rfl
    · rw [Q6 c,qu c];rfl
  unfold Ju;rw [j,qq,e0,Q4,q3h,Q2 hp,qq,Bool.not_true,Q4,qq,Q6 (show ¬ (h : Int) > 3 by omega),Q4,qq];have c1 : decide ((1 : Int) < 0) = false:=rfl;have c3 : decide ((1 : Int) > 500) = false:=rfl;rw [c1,Q4,qq,c3,Q4];by_cases c : PtB (goV l p h)
  · rw [qr c] at s0 ⊢;have s1 : J8 1 l ((Kd l p h : Int),1,(goV l p h).X,(goV l p h).Y,[p,goV l p h]) = some (.inr (.inl [p,goV l p h])):=rfl;rw [Kc s0,K7 s1];rfl
  · rw [qu c] at s0 ⊢;rw [K7 s0];rfl
end Go.Sh
namespace Go.Sh
open Go Go.Am
open Classical
def Run (s : qt) (h : Nat) : Prop:=∃ m : Nat,1≤m∧s.B.X = s.A.X + m * (dirV h).X∧s.B.Y = s.A.Y + m * (dirV h).Y
theorem qnl {p : qb} {h : Nat} : Run {A:=p,B:={X:=p.X + (dirV h).X,Y:=p.Y + (dirV h).Y}} h:=⟨1,q9,qc,qc⟩
theorem qnk {s : qt} {h : Nat} (c : Run s h) : Run {A:=s.A,B:={X:=s.B.X + (dirV h).X,Y:=s.B.Y + (dirV h).Y}} h:=by
  obtain ⟨m,d,b,a⟩:=c;refine ⟨m + 1,q9,?_,?_⟩
  · simp only [b,Int.natCast_add,Int.add_mul];omega
  · simp only [a,Int.natCast_add,Int.add_mul];omega
theorem q4b {h : Nat} (a : h < 4) : dirV h = {X:=1,Y:=0}∨dirV h = {X:=0,Y:=1}∨dirV h = {X:=-1,Y:=0}∨dirV h = {X:=0,Y:=-1}:=by
  have : h = 0∨h = 1∨h = 2∨h = 3:=by omega
  rcases this with rfl | rfl | rfl | rfl
  · exact .inl rfl
  · exact .inr (.inl rfl)
  · exact .inr (.inr (.inl rfl))
  · exact .inr (.inr (.inr rfl))
theorem qvr {p : qb} {h : Nat} (a : h < 4) (z : qb) : Yp {A:=p,B:={X:=p.X + (dirV h).X,Y:=p.Y + (dirV h).Y}} z↔z = p∨z = {X:=p.X + (dirV h).X,Y:=p.Y + (dirV h).Y}:=by
  obtain ⟨b,c⟩:=z;obtain ⟨d,f⟩:=p;unfold Yp;simp only [qb.mk.injEq];rcases q4b a with e | e | e | e <;> rw [e] <;> simp only <;> omega
theorem qvq {s : qt} {h : Nat} (c : h < 4) (d : Run s h) (z : qb) : Yp {A:=s.A,B:={X:=s.B.X + (dirV h).X,Y:=s.B.Y + (dirV h).Y}} z↔Yp s z∨z = {X:=s.B.X + (dirV h).X,Y:=s.B.Y + (dirV h).Y}:=by
  obtain ⟨g,j⟩:=z;obtain ⟨⟨k,n⟩,⟨bx,f⟩⟩:=s;obtain ⟨m,l,a,b⟩:=d;unfold Yp;simp only [qb.mk.injEq] at a b ⊢;rcases q4b c with e | e | e | e <;> rw [e] at a b ⊢ <;> simp only at a b ⊢ <;> omega
end Go.Sh
namespace Go.Sh
open Go Go.Am
def onB (s : qt) (z : qb) : Bool:=decide (min s.A.X s.B.X≤z.X) && decide (z.X≤max s.A.X s.B.X) && (decide (min s.A.Y s.B.Y≤z.Y) && decide (z.Y≤max s.A.Y s.B.Y))
def anyB (l : List qt) (z : qb) : Bool:=l.any fun s=>onB s z
theorem qvo {s : qt} {z : qb} : onB s z = true↔Yp s z:=by
  simp only [onB,Yp,Bool.and_eq_true,decide_eq_true_eq]
theorem q7n {l : List qt} {z : qb} : anyB l z = true↔∃ s∈l,Yp s z:=by
  simp only [anyB,List.any_eq_true,qvo]
theorem qi6 (l : List qt) (z : qb) : q38 l z = anyB l z:=by
  have h : q38 l z = true↔anyB l z = true:=by
    rw [q7n];unfold q38;simp only [List.any_eq_true,decide_eq_true_eq]
  cases a : q38 l z <;> cases b : anyB l z <;> simp_all
theorem qe4 (a b : List qt) (z : qb) : anyB (a ++ b) z = (anyB a z || anyB b z):=by unfold anyB;rw [List.any_append]
theorem q66 {p : qb} : ptB p = true↔PtB p:=by
  simp only [ptB,PtB,Bool.and_eq_true,decide_eq_true_eq,and_assoc]
def ownN (own : List qt) (go : Bool) (p q : qb) : List qt:=match own.getLast? with
  | some s=>if go then own.dropLast ++ [{A:=s.A,B:=q}] else own ++ [{A:=p,B:=q}]
  | none=>[{A:=p,B:=q}]
theorem qd7 (go : Bool) (p q : qb) : ownN [] go p q = [{A:=p,B:=q}]:=rfl
theorem q8n (a : List qt) (s : qt) (go : Bool) (p q : qb) : ownN (a ++ [s]) go p q = if go then a ++ [{A:=s.A,B:=q}] else a ++ [s] ++ [{A:=p,B:=q}]:=by
  simp [ownN]
abbrev J1 (p : qb) (h : Nat) : qb:={X:=p.X + (dirV h).X,Y:=p.Y + (dirV h).Y}
def rowQ (s : qt) (y x : Int) : Prop:=s.A.Y = s.B.Y∧s.A.Y = y∧min s.A.X s.B.X≤x∧x < max s.A.X s.B.X
def colQ (s : qt) (x y : Int) : Prop:=s.A.Y≠s.B.Y∧s.A.X = x∧min s.A.Y s.B.Y≤y∧y < max s.A.Y s.B.Y
theorem qso {s : qt} {h : Nat} (c : h < 4) (d : Run s h) (y x : Int) : rowQ {A:=s.A,B:=J1 s.B h} y x↔rowQ s y x∨rowQ {A:=s.B,B:=J1 s.B h} y x:=by
  obtain ⟨⟨g,k⟩,⟨bx,f⟩⟩:=s;obtain ⟨m,j,a,b⟩:=d;unfold rowQ;simp only at a b ⊢;rcases q4b c with e | e | e | e <;> rw [e] at a b ⊢ <;> simp only at a b ⊢ <;> omega
theorem qsm {s : qt} {h : Nat} (c : h < 4) (d : Run s h) (x y : Int) : colQ {A:=s.A,B:=J1 s.B h} x y↔colQ s x y∨colQ {A:=s.B,B:=J1 s.B h} x y:=by
  obtain ⟨⟨g,k⟩,⟨bx,f⟩⟩:=s;obtain ⟨m,j,a,b⟩:=d;unfold colQ;simp only at a b ⊢;rcases q4b c with e | e | e | e <;> rw [e] at a b ⊢ <;> simp only at a b ⊢ <;> omega
theorem qgu {s : qt} {h : Nat} (d : h < 4) (f : Run s h) (c : PtB s.A) (hb : PtB s.B) : SegV s:=by
  rw [q6h];refine ⟨c,hb,?_⟩;obtain ⟨m,g,a,b⟩:=f;rcases q4b d with e | e | e | e <;> rw [e] at a b <;> simp only at a b <;> omega
structure q44 (own : List qt) (h : Nat) (p : qb) : Prop where
  last : own = []∨∃ a s,own = a ++ [s]∧Run s h∧s.B = p
  val : ∀ s∈own,SegV s
theorem qmd (h : Nat) (p : qb) : q44 [] h p:=⟨.inl rfl,fun s hs=>(by cases hs)⟩
structure qdy (own own' : List qt) (p q : qb) : Prop where
  on : ∀ z,(∃ s∈own',Yp s z)↔(∃ s∈own,Yp s z)∨z = p∨z = q
  row : ∀ y x,(∃ s∈own',rowQ s y x)↔(∃ s∈own,rowQ s y x)∨rowQ {A:=p,B:=q} y x
  col : ∀ x y,(∃ s∈own',colQ s x y)↔(∃ s∈own,colQ s x y)∨colQ {A:=p,B:=q} x y
theorem Jt {α : Type} {a : List α} {s : α} {P : α→Prop} : (∃ t∈a ++ [s],P t)↔(∃ t∈a,P t)∨P s:=by
  constructor
  · rintro ⟨t,c,h⟩;rcases List.mem_append.1 c with b | b
    · exact .inl ⟨t,b,h⟩
    · rw [List.mem_singleton] at b;subst b;exact .inr h
  · rintro (⟨t,b,h⟩ | h)
    · exact ⟨t,List.mem_append_left _ b,h⟩
    · exact ⟨s,qc,h⟩
theorem qmc {own : List qt} {h a : Nat} {p : qb} (c : a < 4) (d : q44 own h p) (hp : PtB p) (f : PtB (J1 p a)) : q44 (own ++ [{A:=p,B:=J1 p a}]) a (J1 p a)∧qdy own (own ++ [{A:=p,B:=J1 p a}]) p (J1 p a):=by
  refine ⟨⟨.inr ⟨own,_,rfl,qnl,rfl⟩,fun s hs=>?_⟩,fun z=>?_,fun y x=>Jt,fun x y=>Jt⟩
  · rcases List.mem_append.1 hs with b | b
    · exact d.val s b
    · rw [List.mem_singleton] at b;subst b;exact qgu c qnl hp f
  · rw [Jt,qvr c]
theorem qme {own : List qt} {h c : Nat} {p : qb} (d : c < 4) (f : q44 own h p) (hp : PtB p) (j : PtB (J1 p c)) :
    q44 (ownN own (c == h) p (J1 p c)) c (J1 p c)∧qdy own (ownN own (c == h) p (J1 p c)) p (J1 p c):=by
  rcases f.last with rfl | ⟨a,s,rfl,g,rfl⟩
  · rw [qd7];exact qmc d f hp j
  · rw [q8n];by_cases e : c = h
    · subst e;rw [beq_self_eq_true,qr rfl];have hs:=f.val s qc;refine ⟨⟨.inr ⟨a,_,rfl,qnk g,rfl⟩,fun t k=>?_⟩,fun z=>?_,fun y x=>?_,fun x y=>?_⟩
      · rcases List.mem_append.1 k with b | b
        · exact f.val t (List.mem_append_left _ b)
        · rw [List.mem_singleton] at b;subst b;exact qgu d (qnk g) ((q6h s).1 hs).1 j
      · rw [Jt,Jt,qvq d g];have l : Yp s s.B:=by unfold Yp;omega
        constructor
        · rintro (b | b | b)
          · exact .inl (.inl b)
          · exact .inl (.inr b)
          · exact .inr (.inr b)
        · rintro ((b | b) | b | b)
          · exact .inl b
          · exact .inr (.inl b)
          · subst b;exact .inr (.inl l)
          · exact .inr (.inr b)
      · rw [Jt,Jt,qso d g,or_assoc]
      · rw [Jt,Jt,qsm d g,or_assoc]
    · have : (c == h) = false:=by simpa using e
      rw [this,qu qc];exact qmc d f hp j
def Zt (l : List K5) (o : qb) : Nat→Nat→qb→List qt→List qt→Int × List qt
  | 0,_,_,out,own=>(0,out ++ own)
  | n + 1,h,p,out,own=>
    if ptB (goV l p h) then
      if 400 < out.length + (ownN own (Kd l p h == h) p (goV l p h)).length then (4,[])
      else if decide (goV l p h = o) || anyB out (goV l p h) || anyB own (goV l p h) then (0,out ++ ownN own (Kd l p h == h) p (goV l p h))
      else Zt l o n (Kd l p h) (goV l p h) out (ownN own (Kd l p h == h) p (goV l p h))
    else (16,[])
def Zz (l : List K5) : List Ku→List qt→Int × List qt
  | [],out=>(0,out)
  | w::ws,out=>if (Zt l w.At w.Steps.toNat w.Head.toNat w.At out []).1 = 0 then Zz l ws (Zt l w.At w.Steps.toNat w.Head.toNat w.At out []).2 else ((Zt l w.At w.Steps.toNat w.Head.toNat w.At out []).1,[])
end Go.Sh
namespace Go.Sh
open Go Go.Am
def q25 (vis : List (qb × Bool)) (segs : List qt) : Prop:=∀ z,K4 false z vis = anyB segs z
theorem q12x : q25 [] []:=fun z=>rfl
theorem q12y {vis : List (qb × Bool)} {out own a : List qt} {p q : qb} (h : q25 vis (out ++ own)) (f : qdy own a p q) : q25 (K8 q true (K8 p true vis)) (out ++ a):=by
  intro z;have b:=f.on z;rw [← q7n,← q7n] at b;rw [q8d,q8d,qe4];have d:=h z;rw [qe4] at d;by_cases e1 : z = q
  · rw [qr e1,b.2 (.inr (.inr e1)),Bool.or_true]
  · rw [qu e1];by_cases c : z = p
    · rw [qr c,b.2 (.inr (.inl c)),Bool.or_true]
    · rw [qu c,d]
      have : anyB own z = anyB a z:=by
        cases j : anyB own z <;> cases g : anyB a z <;> simp_all
      rw [this]
theorem qk8 (l : List K5) (p : qb) (h : Nat) : goV l p h = J1 p (Kd l p h):=rfl
theorem q13d {h : Nat} (a : h < 4) : IntKind.wrap .u8 (h : Int) = (h : Int):=by
  have : h = 0∨h = 1∨h = 2∨h = 3:=by omega
  rcases this with rfl | rfl | rfl | rfl <;> rfl
theorem qun (a b : Nat) : ((a : Int) == (b : Int)) = (a == b):=by
  cases h : (a == b)
  · simp only [beq_eq_false_iff_ne,ne_eq] at h ⊢;omega
  · simp only [beq_iff_eq] at h ⊢;omega
theorem q10i {α : Type} (a : List α) (s t : α) (c : a.length≤1000) : idx (a ++ [s]) (w64 (((a ++ [s]).length : Int) - 1)) = some s∧(a ++ [s]).set (w64 (((a ++ [s]).length : Int) - 1)).toNat t = a ++ [t]:=by
  have b : w64 (((a ++ [s]).length : Int) - 1) = (a.length : Int):=by rw [Qd (by simp;omega)];simp
  rw [b,Int.toNat_natCast];exact ⟨by rw [Kf qc];simp,qc⟩
theorem qwv {own : List qt} {go : Bool} {p q : qb} : own.length≤(ownN own go p q).length∧(ownN own go p q).length≤own.length + 1:=by
  rcases List.eq_nil_or_concat own with rfl | ⟨a,s,rfl⟩
  · exact ⟨qc,by rw [qd7];simp⟩
  · rw [List.concat_eq_append,q8n];cases go <;> simp
theorem q134 {l : List K5} (hl : l.length≤60) (hv : ∀ v∈l,Ym v) (w : Ku) {h k : Nat} {p : qb} {out own : List qt} {vis : List (qb × Bool)}
    (hh : h < 4) (hp : PtB p) (hk : (k : Int) < w.Steps) (aj : k≤1000) (z : own = []↔k = 0) (f : out.length + own.length≤400) :
    Z4 w l ((h : Int),(k : Int),vis,out ++ own,p.X,p.Y) = if ptB (goV l p h) then
      (if 400 < out.length + (ownN own (Kd l p h == h) p (goV l p h)).length then some (.inr (.inr (4,vis,[])))
        else if (decide (goV l p h = w.At) || K4 false (goV l p h) vis) = true then some (.inr (.inl (K8 (goV l p h) true (K8 p true vis),out ++ ownN own (Kd l p h == h) p (goV l p h))))
        else some (.inl ((Kd l p h : Int),((k + 1 : Nat) : Int),K8 (goV l p h) true (K8 p true vis),out ++ ownN own (Kd l p h == h) p (goV l p h),(goV l p h).X,(goV l p h).Y)))
      else some (.inr (.inr (16,vis,[]))):=by
  have hH:=q4h (l:=l) (p:=p) hh;have hd:=qeu hH;have hb:=qet hH;have ht:=q12t hl hv hp hh;have hp':=hp;unfold PtB at hp';have af : Ju l ({X:=p.X,Y:=p.Y} : qb) (h : Int) 1 = _:=ht;have hP : ({X:=p.X,Y:=p.Y} : qb) = p:=rfl;unfold Z4;simp only [Q2 hk,Qb,af];by_cases hq : PtB (goV l p h)
  case neg=>
    rw [qu hq,qu (fun h=>hq (q66.1 h))];rfl
  rw [qr hq,qr (q66.2 hq)];have e0 : ((0 : Int) != 0) = false:=rfl;have u : ∀ a b : qb,idx [a,b] 1 = some b:=fun a b=>rfl
  have hw : ({X:=w64 ((goV l p h).X - p.X),Y:=w64 ((goV l p h).Y - p.Y)} : qb) = dirV (Kd l p h):=by
    unfold goV;generalize dirV (Kd l p h) = d at hb ⊢;obtain ⟨a,b⟩:=d;simp only at hb ⊢;rw [Qd q9,Qd q9];simp only [qb.mk.injEq];omega
  have r:=qes hH hd;unfold dirs at r
  have ah : (cond (decide ((k : Int) > 0)) (some ((Kd l p h : Int) == (h : Int))) (some false)) = some (decide (0 < k) && (Kd l p h == h)):=by
    rw [qun];by_cases g : 0 < k
    · rw [Q2 g,Q2 (show (k : Int) > 0 by omega)];rfl
    · rw [Q6 g,Q6 (show ¬ (k : Int) > 0 by omega)];rfl
  have aa : (cond (decide (0 < k) && (Kd l p h == h)) ((idx (out ++ own) (w64 (((out ++ own).length : Int) - 1))).bind fun j=>some (.inl ((out ++ own).set (w64 (((out ++ own).length : Int) - 1)).toNat ({A:=j.A,B:=goV l p h} : qt)))) ((app 32 (out ++ own) [({A:=({X:=p.X,Y:=p.Y} : qb),B:=goV l p h} : qt)]).bind fun c=>cond (decide ((c.length : Int) > 400)) (some (.inr (4,vis,[]))) (some (.inl c))) : Option ((List qt) ⊕ (Int × (List (qb × Bool)) × List qt))) =
      if 400 < out.length + (ownN own (Kd l p h == h) p (goV l p h)).length then some (.inr (4,vis,[])) else some (.inl (out ++ ownN own (Kd l p h == h) p (goV l p h))):=by
    have y : ∀ t : qt,app 32 (out ++ own) [t] = some (out ++ (own ++ [t])):=by
      intro t;rw [Zu (by simp;omega),List.append_assoc]
    have o : ownN own (Kd l p h == h) p (goV l p h) = own ++ [{A:=p,B:=goV l p h}]→(decide (0 < k) && (Kd l p h == h)) = false→(cond (decide (0 < k) && (Kd l p h == h)) ((idx (out ++ own) (w64 (((out ++ own).length : Int) - 1))).bind fun j=>some (.inl ((out ++ own).set (w64 (((out ++ own).length : Int) - 1)).toNat ({A:=j.A,B:=goV l p h} : qt)))) ((app 32 (out ++ own) [({A:=({X:=p.X,Y:=p.Y} : qb),B:=goV l p h} : qt)]).bind fun c=>cond (decide ((c.length : Int) > 400)) (some (.inr (4,vis,[]))) (some (.inl c))) : Option ((List qt) ⊕ (Int × (List (qb × Bool)) × List qt))) =
      if 400 < out.length + (ownN own (Kd l p h == h) p (goV l p h)).length then some (.inr (4,vis,[])) else some (.inl (out ++ ownN own (Kd l p h == h) p (goV l p h))):=fun e g=>by
      rw [g,Q4,y,qq,e]
      by_cases q : 400 < out.length + (own ++ [({A:=p,B:=goV l p h} : qt)]).length
      · rw [Q2 (by rw [List.length_append];omega),qr q];rfl
      · rw [Q6 (by rw [List.length_append];omega),qu q];rfl
    rcases List.eq_nil_or_concat own with m | ⟨a,s,m⟩
    · refine o (by rw [m];rfl) ?_
      rw [Q6 (by have:=z.1 m;omega),Bool.false_and]
    · rw [List.concat_eq_append] at m
      have ad : 0 < k:=by
        rcases Nat.eq_zero_or_pos k with h1 | h1
        · have:=z.2 h1;rw [m] at this;simp at this
        · exact h1
      by_cases n : (Kd l p h == h) = true
      · rw [n,Q2 ad,Bool.and_self,Qb,m,q8n,qr rfl]
        have ag : (out ++ a).length≤1000:=by rw [m] at f;simp at f ⊢;omega
        obtain ⟨g1,g2⟩:=q10i (out ++ a) s {A:=s.A,B:=goV l p h} ag
        rw [← List.append_assoc,g1,qq,g2]
        rw [qu (by rw [m] at f;simp at f ⊢;omega),List.append_assoc]
      · exact o (by rw [m,q8n,qu n]) (by simp only [Bool.not_eq_true] at n;rw [n,Bool.and_false])
  simp only [qq,e0,Q4,u,hw,r,q13d hH,ah];rw [aa];by_cases q : 400 < out.length + (ownN own (Kd l p h == h) p (goV l p h)).length
  · rw [qr q,qr q];rfl
  · rw [qu q,qu q]
    have hc : (cond (K4 false (goV l p h) vis) (some true) (some (((goV l p h).X == w.At.X) && (((goV l p h).Y == w.At.Y) && true)))) = some (decide (goV l p h = w.At) || K4 false (goV l p h) vis):=by
      rw [beqP];cases K4 false (goV l p h) vis
      · rw [Bool.or_false];rfl
      · rw [Bool.or_true];rfl
    simp only [qq];rw [hc,qq,Qd (x:=(k : Int) + 1) q9];cases (decide (goV l p h = w.At) || K4 false (goV l p h) vis) <;> rfl
end Go.Sh
namespace Go.Sh
open Go Go.Am
theorem q12a {vis : List (qb × Bool)} {out own : List qt} (h : q25 vis (out ++ own)) (q o : qb) : (decide (q = o) || K4 false q vis) = (decide (q = o) || anyB out q || anyB own q):=by
  rw [h q,qe4,Bool.or_assoc]
theorem qwu {own : List qt} {go : Bool} {p q : qb} : ownN own go p q≠[]:=by
  rcases List.eq_nil_or_concat own with rfl | ⟨a,s,rfl⟩
  · rw [qd7];simp
  · rw [List.concat_eq_append,q8n];cases go <;> simp
theorem qov {l : List K5} (g : l.length≤60) (m : ∀ v∈l,Ym v) (w : Ku) (hs : w.Steps≤1000) (out : List qt) :
    ∀ (n : Nat) {h k : Nat} {p : qb} {own : List qt} {vis : List (qb × Bool)},(k : Int) + n = w.Steps→h < 4→PtB p→(own = []↔k = 0)→out.length + own.length≤400→q25 vis (out ++ own)→q44 own h p→
      ∃ b,loop (Z4 w l) ((h : Int),(k : Int),vis,out ++ own,p.X,p.Y) = some (if (Zt l w.At n h p out own).1 = 0 then .inl (b,(Zt l w.At n h p out own).2) else .inr ((Zt l w.At n h p out own).1,b,[]))∧
        ((Zt l w.At n h p out own).1 = 0→q25 b (Zt l w.At n h p out own).2∧(Zt l w.At n h p out own).2.length≤400)
  | 0,h,k,p,own,vis,hk,hh,hp,hk0,hlen,hvis,ho=>by
    refine ⟨vis,?_,fun _=>⟨hvis,by simp only [Zt,List.length_append];omega⟩⟩
    have : Z4 w l ((h : Int),(k : Int),vis,out ++ own,p.X,p.Y) = some (.inr (.inl (vis,out ++ own))):=by
      unfold Z4;rw [Q6 (show ¬ ((k : Int) < w.Steps) by omega),Q4]
    rw [K7 this]
    rfl
  | n + 1,h,k,p,own,vis,hk,hh,hp,hk0,hlen,hvis,ho=>by
    have a:=q134 g m w (h:=h) (k:=k) (p:=p) (out:=out) (own:=own) (vis:=vis) hh hp q9 q9 hk0 hlen;rw [Zt];rw [q12a hvis] at a;by_cases d : ptB (goV l p h) = true
    case neg=>
      rw [qu d] at a ⊢;exact ⟨vis,by rw [K7 a];rfl,fun h=>by cases h⟩
    rw [qr d] at a ⊢;obtain ⟨q,o⟩:=qme (q4h (l:=l) (p:=p) hh) ho hp (q66.1 d);rw [← qk8] at q o;by_cases f : 400 < out.length + (ownN own (Kd l p h == h) p (goV l p h)).length
    · rw [qr f] at a ⊢;exact ⟨vis,by rw [K7 a];rfl,fun h=>by cases h⟩
    rw [qu f] at a ⊢;have c:=q12y hvis o;by_cases j : (decide (goV l p h = w.At) || anyB out (goV l p h) || anyB own (goV l p h)) = true
    · rw [qr j] at a ⊢;exact ⟨_,by rw [K7 a];rfl,fun _=>⟨c,by rw [List.length_append];omega⟩⟩
    · rw [qu j] at a ⊢;obtain ⟨b,e1,r⟩:=qov g m w hs out n (h:=Kd l p h) (k:=k + 1) (p:=goV l p h) q9 (q4h hh) (q66.1 d) ⟨fun h=>absurd h qwu,fun h=>q9⟩ q9 c q;exact ⟨b,by rw [Kc a];exact e1,r⟩
structure q37 (w : Ku) : Prop where
  pt : PtB w.At
  head : 0≤w.Head∧w.Head≤3
  steps : 0≤w.Steps∧w.Steps≤500
abbrev J2 (l : List K5) (w : Ku) (out : List qt) : Int × List qt:=Zt l w.At w.Steps.toNat w.Head.toNat w.At out []
theorem q133 {l : List K5} (m : l.length≤60) (o : ∀ v∈l,Ym v) {w : Ku} (j : q37 w) {out : List qt} {vis : List (qb × Bool)} (c : out.length≤400) (d : q25 vis out) :
    ∃ b a,q35 l w out vis = some ((J2 l w out).1,b,a)∧((J2 l w out).1 = 0→a = (J2 l w out).2∧q25 b a∧a.length≤400):=by
  obtain ⟨hp,q,hs⟩:=j;obtain ⟨b,e1,n⟩:=qov m o w q9 out w.Steps.toNat (h:=w.Head.toNat) (k:=0) (p:=w.At) (own:=[]) (vis:=vis) q9 q9 hp ⟨fun _=>rfl,fun _=>rfl⟩ (by simpa using c) (by rw [List.append_nil];exact d) (qmd _ _);rw [show ((w.Head.toNat : Nat) : Int) = w.Head by omega,List.append_nil] at e1;unfold q35;have g : loop (Z4 w l) (w.Head,0,vis,out,w.At.X,w.At.Y) = _:=e1;rw [g,qq];by_cases f : (J2 l w out).1 = 0
  · refine ⟨b,(J2 l w out).2,?_,fun _=>⟨rfl,n f⟩⟩;rw [qr f,f]
  · refine ⟨b,[],?_,fun h=>absurd h f⟩;rw [qu f]
open Classical in
theorem qc9 {b : Bool} {P : Prop} (h : b = true↔P) : decide P = b:=by
  cases b
  · exact Q6 (fun hp=>by have:=h.2 hp;cases this)
  · exact Q2 (h.1 rfl)
end Go.Sh
namespace Go.Sh
open Go Go.Am
open Classical
theorem qc3 {α β : Type} {f : Int→Option (Int ⊕ (Unit ⊕ β))} {l : List α} {P : α→Prop} {z : β} (m : l.length≤1000)
    (hs : ∀ k (hk : k < l.length),f (k : Int) = if P l[k] then some (.inl (w64 ((k : Int) + 1))) else some (.inr (.inr z))) (hd : f (l.length : Int) = some (.inr (.inl ()))) : loop f 0 = some (if ∀ v∈l,P v then .inl () else .inr z):=by
  have:=Yv (f:=f) (σ:=Unit) (fun k _=>(k : Int)) l.length (fun k _=>∀ i (hi : i < l.length),i < k→P l[i]) (fun o=>o = if ∀ v∈l,P v then .inl () else .inr z) ?_ ?_ (k0:=0) (c0:=()) q9 (fun i hi h=>q9)
  · obtain ⟨b,g,rfl⟩:=this;exact g
  · rintro k _ hk c;have:=hs k hk;by_cases a : P l[k]
    · rw [qr a,Qd q9] at this;refine .inl ⟨(),by rw [this];rfl,fun i hi j=>?_⟩;by_cases e : i = k
      · subst e;exact a
      · exact c i hi q9
    · rw [qu a] at this;exact .inr ⟨_,this,by rw [qu (fun h=>a (h _ (Yf hk)))]⟩
  · rintro _ c;refine ⟨_,hd,?_⟩;rw [qr];intro s d;obtain ⟨i,hi,rfl⟩:=List.mem_iff_getElem.1 d;exact c i hi hi
theorem q131 (w : Ku) (f : 0≤w.Head) : ((cond (!decide (PtB w.At)) (some true) (some (decide (w.Head > 3)))).bind fun b=>(cond b (some true) (some (decide (w.Steps < 0)))).bind fun c=>(cond c (some true) (some (decide (w.Steps > 500))))) = some (!decide (q37 w)):=by
  by_cases a : PtB w.At
  case neg=>simp [a];exact fun h=>a h.pt
  by_cases d : w.Head > 3
  · simp [d,a];exact fun h=>by have:=h.head;omega
  by_cases w1 : w.Steps < 0
  · simp [d,a,w1];exact fun h=>by have:=h.steps;omega
  by_cases w2 : w.Steps > 500
  · simp [d,a,w1,w2];exact fun h=>by have:=h.steps;omega
  · simp [d,a,w1,w2];exact ⟨a,q9,q9⟩
theorem qt8 (a : List Ku) (c : a.length≤1000) (d : ∀ w∈a,0≤w.Head) : loop (q31 a) 0 = some (if ∀ w∈a,q37 w then .inl () else .inr (net0,8))∧Nrf:=by
  constructor
  · refine qc3 c (fun k hk=>?_) (by simp only [q31,dnl',Q4]);have hp:=q131 a[k] (d _ (Yf hk));simp only [q31,dlt' hk,Qb,Kf hk,qq,qfk];simp only [← Option.bind_assoc] at hp ⊢;rw [hp];by_cases b : q37 a[k]
    · rw [qr b,Q2 b];rfl
    · rw [qu b,Q6 b];rfl
  · rfl
theorem neI (a : Int) : (a != 0) = !decide (a = 0):=by rw [bne,beqI]
theorem qkf {l : List K5} (m : l.length≤60) (o : ∀ v∈l,Ym v) (a : List Ku) (k : ∀ w∈a,q37 w) (g : a.length≤1000) :
    ∀ (n i : Nat) {segs : List qt} {vis : List (qb × Bool)},i + n = a.length→q25 vis segs→segs.length≤400→
      loop (Jl a l) ((i : Int),segs,vis) = some (if (Zz l (a.drop i) segs).1 = 0 then .inl (Zz l (a.drop i) segs).2 else .inr (net0,(Zz l (a.drop i) segs).1))∧((Zz l (a.drop i) segs).1 = 0→(Zz l (a.drop i) segs).2.length≤400)
  | 0,i,segs,vis,hi,hvis,hs=>by
    have : a.drop i = []:=List.drop_eq_nil_of_le q9
    rw [this]
    refine ⟨?_,fun _=>hs⟩
    have : Jl a l ((i : Int),segs,vis) = some (.inr (.inl segs)):=by
      unfold Jl;rw [Q6 (show ¬ ((i : Int) < (a.length : Int)) by omega),Q4]
    rw [K7 this];rfl
  | n + 1,i,segs,vis,hi,hvis,hs=>by
    have d : i < a.length:=by omega
    obtain ⟨j,f,e1,q⟩:=q133 m o (k _ (Yf d)) hs hvis;rw [List.drop_eq_getElem_cons d,Zz]
    have c : Jl a l ((i : Int),segs,vis) = if (J2 l a[i] segs).1 = 0 then some (.inl (((i + 1 : Nat) : Int),f,j)) else some (.inr (.inr (net0,(J2 l a[i] segs).1))):=by
      unfold Jl;simp only [Q2 (show ((i : Int) < (a.length : Int)) by omega),Qb,Kf d,qq,e1,neI];rw [Qd q9];by_cases b : (J2 l a[i] segs).1 = 0
      · rw [qr b,Q2 b];rfl
      · rw [qu b,Q6 b];rfl
    by_cases b : (J2 l a[i] segs).1 = 0
    · rw [qr b] at c ⊢;obtain ⟨rfl,p,r⟩:=q b;rw [Kc c];exact qkf m o a k g n (i + 1) q9 p r
    · rw [qu b] at c ⊢;rw [K7 c];exact ⟨by rw [qu b],fun h=>absurd h b⟩
theorem qf3 {l : List K5} (h : Jd l = 0) : l.length≤60∧∀ v∈l,Ym v:=by
  unfold Jd at h;by_cases a : 60 < l.length
  · rw [qr a] at h;cases h
  · rw [qu a] at h;by_cases b : ∀ v∈l,Ym v
    · exact ⟨q9,b⟩
    · rw [qu b] at h;cases h
noncomputable def qcj (l : List K5) (ws : List Ku) : Option (Qq × Int):=
  if Jd l≠0 then some (net0,Jd l) else if 30 < ws.length then some (net0,4) else if ∀ w∈ws,q37 w then (if (Zz l ws []).1 = 0 then Jm (Zz l ws []).2 else some (net0,(Zz l ws []).1)) else some (net0,8)
theorem qpf {α β : Type} (o : Option (α × β)) : (o.bind fun r=>some (r.1,r.2)) = o:=by cases o <;> rfl
theorem qke (l : List K5) (a : List Ku) (m : ∀ w∈a,0≤w.Head) : q19 l a = qcj l a∧Nrf:=by
  unfold q19 qcj;rw [qf2];simp only [qq,neI];by_cases b : Jd l = 0
  case neg=>rw [Q6 b,qr b];exact ⟨rfl,rfl⟩
  rw [Q2 b,qu (fun h=>h b),Bool.not_true,Q4];by_cases g : 30 < a.length
  · rw [Q2 (show (a.length : Int) > 30 by omega),qr g];exact ⟨rfl,rfl⟩
  rw [Q6 (show ¬ (a.length : Int) > 30 by omega),qu g,Q4];obtain ⟨k,n⟩:=qt8 a q9 m;rw [k];by_cases c : ∀ w∈a,q37 w
  case neg=>rw [qu c,qu c];exact ⟨rfl,rfl⟩
  rw [qr c,qr c];obtain ⟨f1,j⟩:=qf3 b;obtain ⟨e1,o⟩:=qkf f1 j a c q9 a.length 0 (segs:=[]) (vis:=[]) q9 q12x qc;rw [List.drop_zero] at e1;have f : loop (Jl a l) (0,[],[]) = _:=e1;rw [qq,f];by_cases d : (Zz l a []).1 = 0
  · rw [qr d,qr d,qq];exact ⟨qpf _,rfl⟩
  · rw [qu d,qu d,qq];exact ⟨rfl,rfl⟩
end Go.Sh
namespace Go.Sh
open Go Go.Am
def qdo (w : Ku) (h k : Nat) (vis : List (qb × Bool)) (segs : List qt) (p q : qb) : Option ((Int × Int × (List (qb × Bool)) × List qt × Int × Int) ⊕ (((List (qb × Bool)) × List qt) ⊕ (Int × (List (qb × Bool)) × List qt))):=
  (cond (K4 false q vis) (some true) (some ((q.X == w.At.X) && ((q.Y == w.At.Y) && true)))).bind fun c=>cond c (some (.inr (.inl (K8 q true (K8 p true vis),segs)))) (some (.inl ((h : Int),((k + 1 : Nat) : Int),K8 q true (K8 p true vis),segs,q.X,q.Y)))
theorem qou (w : Ku) {h : Nat} {d : qb} (l : h < 4) (hd : dirs[h]? = some d) (hk : 0 < w.Steps) (p : qb) (hp : PtB p) (m : PtB {X:=p.X + d.X,Y:=p.Y + d.Y}) (vis : List (qb × Bool)) (segs : List qt) (hs : segs.length < 400) :
    Z4 w [] ((h : Int),0,vis,segs,p.X,p.Y) = qdo w h 0 vis (segs ++ [{A:=p,B:={X:=p.X + d.X,Y:=p.Y + d.Y}}]) p {X:=p.X + d.X,Y:=p.Y + d.Y}:=by
  have hp':=hp;have j:=m;unfold PtB at hp' j;simp only at j;have o:=qoq l hd hp m
  have n : ({X:=w64 (p.X + d.X - p.X),Y:=w64 (p.Y + d.Y - p.Y)} : qb) = d:=by
    rw [Qd q9,Qd q9];obtain ⟨a,b⟩:=d;simp only [qb.mk.injEq];omega
  have c : IntKind.wrap .u8 (h : Int) = (h : Int):=by
    have : h = 0∨h = 1∨h = 2∨h = 3:=by omega
    rcases this with rfl | rfl | rfl | rfl <;> rfl
  have f:=qes l hd;unfold dirs at f;have e0 : ((0 : Int) != 0) = false:=rfl;have g : ∀ a b : qb,idx [a,b] 1 = some b:=fun a b=>rfl;have q : decide ((0 : Int) > 0) = false:=rfl;unfold Z4 qdo;simp only [Q2 hk,Qb];have k : Ju [] ({X:=p.X,Y:=p.Y} : qb) (h : Int) 1 = some ([p,{X:=p.X + d.X,Y:=p.Y + d.Y}],0):=o;simp only [k,qq,e0,Q4,g,n,f,q,c];rw [Zu (by simp;omega)];simp only [qq];rw [Q6 (show ¬ (((segs ++ [({A:={X:=p.X,Y:=p.Y},B:={X:=p.X + d.X,Y:=p.Y + d.Y}} : qt)]).length : Int) > 400) by simp;omega),Q4];simp only [qq];rw [Qd q9];rfl
theorem qdu (w : Ku) {h : Nat} {d : qb} (q : h < 4) (hd : dirs[h]? = some d) {k : Nat} (z : 0 < k) (hk : (k : Int) < w.Steps) (v : k≤1000) (p : qb) (hp : PtB p) (r : PtB {X:=p.X + d.X,Y:=p.Y + d.Y}) (vis : List (qb × Bool)) (segs : List qt) (s : qt) (hs : segs.length≤400) :
    Z4 w [] ((h : Int),(k : Int),vis,segs ++ [s],p.X,p.Y) = qdo w h k vis (segs ++ [{A:=s.A,B:={X:=p.X + d.X,Y:=p.Y + d.Y}}]) p {X:=p.X + d.X,Y:=p.Y + d.Y}:=by
  have hp':=hp;have m:=r;unfold PtB at hp' m;simp only at m;have x:=qoq q hd hp r
  have t : ({X:=w64 (p.X + d.X - p.X),Y:=w64 (p.Y + d.Y - p.Y)} : qb) = d:=by
    rw [Qd q9,Qd q9];obtain ⟨a,b⟩:=d;simp only [qb.mk.injEq];omega
  have f : IntKind.wrap .u8 (h : Int) = (h : Int):=by
    have : h = 0∨h = 1∨h = 2∨h = 3:=by omega
    rcases this with rfl | rfl | rfl | rfl <;> rfl
  have g:=qes q hd;unfold dirs at g;have e0 : ((0 : Int) != 0) = false:=rfl;have j : ∀ a b : qb,idx [a,b] 1 = some b:=fun a b=>rfl;have y : decide ((k : Int) > 0) = true:=Q2 q9;have n : w64 (((segs ++ [s]).length : Int) - 1) = (segs.length : Int):=by rw [Qd (by simp;omega)];simp
  have c : idx (segs ++ [s]) (segs.length : Int) = some s:=by rw [Kf qc];simp
  unfold Z4 qdo;simp only [Q2 hk,Qb];have o : Ju [] ({X:=p.X,Y:=p.Y} : qb) (h : Int) 1 = some ([p,{X:=p.X + d.X,Y:=p.Y + d.Y}],0):=x;simp only [o,qq,e0,Q4,j,t,g,y,f,Qb,beq_self_eq_true,n,c,Int.toNat_natCast];have l : ∀ u : qt,(segs ++ [s]).set segs.length u = segs ++ [u]:=by intro u;simp
  simp only [l];rw [Qd q9];rfl
end Go.Sh
