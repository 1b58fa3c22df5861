/- Sw4 Sw5 Sw6 Sw7 -/
import Derived.Test.YtbknppciefodiaaGreatK12
namespace Go.Sh
open Go Go.Am
noncomputable def barS (l : K7) (b : List qg) : List qg × Int:=if ∀ x∈b,vB (swp l.From l.To x) then mkB (b.map (swp l.From l.To)) else ([],16)
theorem qn6 (v : Qb) : qbe v = some (decide (InV v (-1000000))):=qfa v (-1000000)
theorem qof {a c : Qb} {b : qg} (hb : vB b) : vB (swp a c b)↔InV (swp a c b).Lo (-1000000)∧InV (swp a c b).Hi (-1000000):=by
  unfold vB at hb;unfold vB InV swp;simp only;omega
theorem q125 {l : K7} {b : List qg} (n : LOk l) (f : b.length≤400) (hb : ∀ x∈b,vB x) : qbb l b = some (barS l b):=by
  obtain ⟨_,j,g⟩:=n;unfold InV at j g
  have w : ∀ k (a : k < b.length),({X:=w64 (b[k].Lo.X + (min l.From.X l.To.X)),Y:=w64 (b[k].Lo.Y + (min l.From.Y l.To.Y)),Z:=w64 (b[k].Lo.Z + (min l.From.Z l.To.Z))} : Qb) = (swp l.From l.To b[k]).Lo∧({X:=w64 (b[k].Hi.X + (max l.From.X l.To.X)),Y:=w64 (b[k].Hi.Y + (max l.From.Y l.To.Y)),Z:=w64 (b[k].Hi.Z + (max l.From.Z l.To.Z))} : Qb) = (swp l.From l.To b[k]).Hi:=by
    intro k a;have h:=hb _ (Ki a);unfold vB at h;refine ⟨?_,?_⟩ <;> (unfold swp;simp only;rw [Qk q6,Qk q6,Qk q6])
  unfold qbb barS
  rw [qux f (fun x=>vB (swp l.From l.To x)) (swp l.From l.To) ([],16) (q4z b l) (fun k a o m c=>by
      obtain ⟨d,p2⟩:=(qof (hb _ (Ki a))).1 c;simp only [q4z,dlt a,qy,Qs a,qj,(w k a).1,(w k a).2,qn6,Q7 d,Q7 p2,Bool.not_true,qx,w64s a q6];rw [Y4 (by simp;omega)]
      rfl) (fun k a o m c=>by
      rw [qof (hb _ (Ki a))] at c;simp only [q4z,dlt a,qy,Qs a,qj,(w k a).1,(w k a).2,qn6];by_cases d : InV (swp l.From l.To b[k]).Lo (-1000000)
      · have p2 : ¬ InV (swp l.From l.To b[k]).Hi (-1000000):=fun p2=>c ⟨d,p2⟩;rw [Q7 d,Q6 p2];rfl
      · rw [Q6 d];rfl) (fun o=>by simp only [q4z,dnl,qx])]
  rw [qj];by_cases c : ∀ x∈b,vB (swp l.From l.To x)
  · rw [qq c,qq c];simp only [q113,qj]
  · rw [qp c,qp c]
def sgn (x : Int) : Int:=if x < 0 then -1 else if x > 0 then 1 else 0
def K0 (a c : Qb) (k : Nat) : Qb:={X:=a.X + sgn (c.X - a.X) * k,Y:=a.Y + sgn (c.Y - a.Y) * k,Z:=a.Z + sgn (c.Z - a.Z) * k}
def nL (a c : Qb) : Nat:=(c.X - a.X).natAbs + (c.Y - a.Y).natAbs + (c.Z - a.Z).natAbs
theorem qde (x : Int) : (x < 0∧sgn x = -1)∨(x = 0∧sgn x = 0)∨(x > 0∧sgn x = 1):=by
  unfold sgn;rcases Int.lt_trichotomy x 0 with h | h | h
  · exact .inl ⟨h,by rw [qq h]⟩
  · exact .inr (.inl ⟨h,by rw [qp q6,qp q6]⟩)
  · exact .inr (.inr ⟨h,by rw [qp q6,qq h]⟩)
theorem qxy (x : Int) : q4c x = some (sgn x):=by
  unfold q4c sgn;by_cases h : x < 0
  · rw [Q7 h,qq h];rfl
  · rw [Q6 h,qp h];by_cases a : x > 0
    · rw [Q7 a,qq a];rfl
    · rw [Q6 a,qp a];rfl
theorem qb5 (a c : Qb) (k : Nat) : ((a.X = c.X∧(K0 a c k).X = a.X)∨(c.X < a.X∧(K0 a c k).X = a.X - k)∨(a.X < c.X∧(K0 a c k).X = a.X + k))∧
    ((a.Y = c.Y∧(K0 a c k).Y = a.Y)∨(c.Y < a.Y∧(K0 a c k).Y = a.Y - k)∨(a.Y < c.Y∧(K0 a c k).Y = a.Y + k))∧
    ((a.Z = c.Z∧(K0 a c k).Z = a.Z)∨(c.Z < a.Z∧(K0 a c k).Z = a.Z - k)∨(a.Z < c.Z∧(K0 a c k).Z = a.Z + k)):=by
  have key : ∀ x y : Int,(x = y∧x + sgn (y - x) * k = x)∨(y < x∧x + sgn (y - x) * k = x - k)∨(x < y∧x + sgn (y - x) * k = x + k):=fun x y=>by
    rcases qde (y - x) with ⟨d,b⟩ | ⟨d,b⟩ | ⟨d,b⟩ <;> rw [b] <;> omega
  exact ⟨key _ _,key _ _,key _ _⟩
theorem q97 (a c : Qb) : (nL a c : Int) = max (c.X - a.X) (a.X - c.X) + max (c.Y - a.Y) (a.Y - c.Y) + max (c.Z - a.Z) (a.Z - c.Z):=by
  unfold nL;omega
theorem qbn {p q : Qb} : p = q↔p.X = q.X∧p.Y = q.Y∧p.Z = q.Z:=by
  cases p;cases q;simp
theorem qhg {a c : Qb} (h : Ax a c) : K0 a c (nL a c) = c:=by
  rw [qbn];obtain ⟨f1,b,d⟩:=qb5 a c (nL a c);have:=q97 a c;rcases h with h | h | h <;> omega
theorem q81 (a c : Qb) : K0 a c 0 = a:=by rw [qbn];simp [K0]
theorem q11x {a c : Qb} (h : Ax a c) {k : Nat} (f : k < nL a c) : ¬ ((K0 a c k).X = c.X∧(K0 a c k).Y = c.Y∧(K0 a c k).Z = c.Z):=by
  obtain ⟨f1,b,d⟩:=qb5 a c k;have:=q97 a c;rcases h with h | h | h <;> omega
theorem on1 {a s r p : Int} {k : Nat} (h : (s = a - k∧r = a - (k + 1 : Nat))∨(s = a + k∧r = a + (k + 1 : Nat))) : (min a r≤p∧p≤max a r)↔((min a s≤p∧p≤max a s)∨p = r):=by
  rcases h with ⟨rfl,rfl⟩ | ⟨rfl,rfl⟩ <;> constructor <;> intro h <;> omega
theorem on0 {a p : Int} : (min a a≤p∧p≤max a a)↔p = a:=by omega
theorem qcp {a c : Qb} (h : Ax a c) {k : Nat} (u : k + 1≤nL a c) (p : Qb) : onL a (K0 a c (k + 1)) p↔onL a (K0 a c k) p∨p = K0 a c (k + 1):=by
  obtain ⟨f1,q,t⟩:=qb5 a c k;obtain ⟨w,o,v⟩:=qb5 a c (k + 1);have n:=q97 a c;unfold onL;rw [qbn];rcases h with h | h | h
  · have l : (K0 a c k).X = a.X:=by omega
    have m : (K0 a c k).Y = a.Y:=by omega
    have j : (K0 a c (k + 1)).X = a.X:=by omega
    have g : (K0 a c (k + 1)).Y = a.Y:=by omega
    rw [l,m,j,g,on0,on0,on1 (s:=(K0 a c k).Z) (r:=(K0 a c (k + 1)).Z) (k:=k) q6];constructor
    · rintro ⟨f,d,b | b⟩
      · exact .inl ⟨f,d,b⟩
      · exact .inr ⟨f,d,b⟩
    · rintro (⟨f,d,b⟩ | ⟨f,d,b⟩)
      · exact ⟨f,d,.inl b⟩
      · exact ⟨f,d,.inr b⟩
  · have l : (K0 a c k).X = a.X:=by omega
    have m : (K0 a c k).Z = a.Z:=by omega
    have j : (K0 a c (k + 1)).X = a.X:=by omega
    have g : (K0 a c (k + 1)).Z = a.Z:=by omega
    rw [l,m,j,g,on0,on0,on1 (s:=(K0 a c k).Y) (r:=(K0 a c (k + 1)).Y) (k:=k) q6];constructor
    · rintro ⟨f,b | b,d⟩
      · exact .inl ⟨f,b,d⟩
      · exact .inr ⟨f,b,d⟩
    · rintro (⟨f,b,d⟩ | ⟨f,b,d⟩)
      · exact ⟨f,.inl b,d⟩
      · exact ⟨f,.inr b,d⟩
  · have l : (K0 a c k).Y = a.Y:=by omega
    have m : (K0 a c k).Z = a.Z:=by omega
    have j : (K0 a c (k + 1)).Y = a.Y:=by omega
    have g : (K0 a c (k + 1)).Z = a.Z:=by omega
    rw [l,m,j,g,on0,on0,on1 (s:=(K0 a c k).X) (r:=(K0 a c (k + 1)).X) (k:=k) q6];constructor
    · rintro ⟨b | b,f,d⟩
      · exact .inl ⟨b,f,d⟩
      · exact .inr ⟨b,f,d⟩
    · rintro (⟨b,f,d⟩ | ⟨b,f,d⟩)
      · exact ⟨.inl b,f,d⟩
      · exact ⟨.inr b,f,d⟩
theorem qgi (a p : Qb) : onL a a p↔p = a:=by
  unfold onL;rw [qbn];omega
def ptsL (a c : Qb) : List Qb:=(List.range (nL a c + 1)).map (K0 a c)
theorem qts {a c : Qb} (h : Ax a c) (p : Qb) : onL a c p↔p∈ptsL a c:=by
  have key : ∀ k,k≤nL a c→(onL a (K0 a c k) p↔∃ j,j≤k∧p = K0 a c j):=by
    intro k
    induction k with
    | zero=>intro _;rw [q81,qgi];exact ⟨fun e=>⟨0,Nat.le_refl _,by rw [q81];exact e⟩,fun ⟨j,b,e⟩=>by have : j = 0:=q6;subst this;rw [q81] at e;exact e⟩
    | succ k ih=>
      intro f;rw [qcp h f,ih q6];constructor
      · rintro (⟨j,b,e⟩ | e)
        · exact ⟨j,q6,e⟩
        · exact ⟨k + 1,Nat.le_refl _,e⟩
      · rintro ⟨j,b,e⟩;by_cases d : j = k + 1
        · subst d;exact .inr e
        · exact .inl ⟨j,q6,e⟩
  have:=key (nL a c) (Nat.le_refl _);rw [qhg h] at this;rw [this];simp only [ptsL,List.mem_map,List.mem_range];exact ⟨fun ⟨j,b,e⟩=>⟨j,q6,e.symm⟩,fun ⟨j,b,e⟩=>⟨j,q6,e.symm⟩⟩
theorem q11w {a c : Qb} (h : Ax a c) {k : Nat} (b : k≤nL a c) : onL a c (K0 a c k):=(qts h _).2 (List.mem_map.2 ⟨k,by simp;omega,rfl⟩)
theorem qvu {α : Type} (n : Nat) (f : Nat→α) : (List.range (n + 1)).map f = (List.range n).map f ++ [f n]:=by rw [List.range_succ,List.map_append];rfl
theorem quy {l : K7} (h : LOk l) (q : nL l.From l.To≤1000) : q9m l = some (ptsL l.From l.To):=by
  obtain ⟨a,p,g⟩:=h;unfold InV at p g;unfold q9m;rw [Qk q6,Qk q6,Qk q6];simp only [qxy,qj]
  have key:=Z8 (f:=q6c l (sgn (l.To.X - l.From.X)) (sgn (l.To.Y - l.From.Y)) (sgn (l.To.Z - l.From.Z)))
    (fun k=>((List.range (k + 1)).map (K0 l.From l.To),(K0 l.From l.To k).X,(K0 l.From l.To k).Y,(K0 l.From l.To k).Z)) (nL l.From l.To) (ptsL l.From l.To) (fun k j=>by
      have c:=q11x a j
      have hb : (((K0 l.From l.To k).X == l.To.X) && (((K0 l.From l.To k).Y == l.To.Y) && (((K0 l.From l.To k).Z == l.To.Z) && true))) = false:=by
        rw [Bool.eq_false_iff];intro m;apply c;simpa using m
      have b : K0 l.From l.To (k + 1) = ({X:=w64 ((K0 l.From l.To k).X + sgn (l.To.X - l.From.X)),Y:=w64 ((K0 l.From l.To k).Y + sgn (l.To.Y - l.From.Y)),Z:=w64 ((K0 l.From l.To k).Z + sgn (l.To.Z - l.From.Z))} : Qb):=by
        obtain ⟨f1,r,s⟩:=qb5 l.From l.To k;have o:=q97 l.From l.To;have u:=qde (l.To.X - l.From.X);have v:=qde (l.To.Y - l.From.Y);have t:=qde (l.To.Z - l.From.Z);rw [Qk q6,Qk q6,Qk q6];unfold K0;simp only [Int.natCast_add,Int.mul_add,Int.add_assoc,Int.natCast_one,Int.mul_one,Int.cast_ofNat_Int]
      unfold q6c;simp only [hb,Bool.not_false,qy,q42,qj];rw [← b,Y4 (by simp;omega),qvu (k + 1),show w64 ((K0 l.From l.To k).X + sgn (l.To.X - l.From.X)) = (K0 l.From l.To (k + 1)).X from (congrArg Qb.X b).symm,show w64 ((K0 l.From l.To k).Y + sgn (l.To.Y - l.From.Y)) = (K0 l.From l.To (k + 1)).Y from (congrArg Qb.Y b).symm,show w64 ((K0 l.From l.To k).Z + sgn (l.To.Z - l.From.Z)) = (K0 l.From l.To (k + 1)).Z from (congrArg Qb.Z b).symm]
      rfl) (by
      have d:=qhg a
      have hb : (((K0 l.From l.To (nL l.From l.To)).X == l.To.X) && (((K0 l.From l.To (nL l.From l.To)).Y == l.To.Y) && (((K0 l.From l.To (nL l.From l.To)).Z == l.To.Z) && true))) = true:=by
        rw [d];simp
      unfold q6c;simp only [hb,Bool.not_true,qx]
      rfl) (Nat.zero_le _)
  have n : (((List.range (0 + 1)).map (K0 l.From l.To),(K0 l.From l.To 0).X,(K0 l.From l.To 0).Y,(K0 l.From l.To 0).Z) : List Qb × Int × Int × Int) = ([l.From],l.From.X,l.From.Y,l.From.Z):=by
    rw [q81];simp [q81]
  rw [n] at key;rw [key];rfl
end Go.Sh
namespace Go.Sh
open Go Go.Am
theorem qg9 {b : qg} {v : Qb} (hb : vB b) (a : InV v (-2000000)) : q49 b v = some (movB v b):=by
  unfold vB at hb;unfold InV at a;unfold q49 q42 movB;simp only [qj];rw [Qk q6,Qk q6,Qk q6,Qk q6,Qk q6,Qk q6]
theorem qrx {a c p : Qb} (b : InV a (-1000000)) (d : InV c (-1000000)) (h : onL a c p) : InV p (-1000000):=by
  unfold InV at b d ⊢;unfold onL at h;omega
theorem qfr {v : Qb} (h : InV v (-1000000)) : InV v (-2000000):=by unfold InV at h ⊢;omega
noncomputable def upTo (l : K7) (b : List qg) (k : Nat) : List qg:=b.map (swp l.From (K0 l.From l.To k))
theorem qvq {l : K7} {b : List qg} (hl : LOk l) (hn : nL l.From l.To≤1000) (h5 : b.length≤5) (hb : ∀ x∈b,vB x) : q9p l b = some (barS l b):=by
  have s : ∀ x∈b,ltB x:=fun x w=>(hb x w).1;obtain ⟨r,i1,i2⟩:=id hl;unfold q9p
  rcases Zd b (fun x=>!decide (vB (swp l.From l.To x))) (fun k _=>(([],16) : List qg × Int)) () (q6f b l) (fun k d=>by
    have hv:=hb _ (Ki d);simp only [q6f,dlt d,qy,Qs d,qj,qg9 hv (qfr i1),qg9 hv (qfr i2),qme,w64s d q6];have e:=q12t (a:=l.From) (c:=l.To) (s _ (Ki d))
    by_cases h1 : vB (movB l.From b[k]) <;> by_cases h2 : vB (movB l.To b[k]) <;> simp [h1,h2,e]) (by simp only [q6f,dnl,qx]) with ⟨a1,a2⟩ | ⟨k,d,hc,_,a2⟩
  · have hP : ∀ x∈b,vB (swp l.From l.To x):=fun x w=>by simpa using a1 x w
    rw [a2];simp only [qj,quy hl hn];have lp : (ptsL l.From l.To).length = nL l.From l.To + 1:=by simp [ptsL]
    have gp : ∀ k (d : k < (ptsL l.From l.To).length),(ptsL l.From l.To)[k] = K0 l.From l.To k:=fun k d=>by simp [ptsL]
    have t : ∀ k (d : k < (ptsL l.From l.To).length) (o : List qg),loop (q4b b (ptsL l.From l.To) (o,(k : Int))) (0,[]) = some (b.map (movB (K0 l.From l.To k))):=fun k d o=>by
      have ad:=qfr (qrx i1 i2 (q11w r (k:=k) q6))
      have:=q5i b (movB (K0 l.From l.To k)) [] (fun o=>o) (q4b b (ptsL l.From l.To) (o,(k : Int))) (fun j hj q v=>by
        simp only [q4b,dlt hj,qy,Qs hj,Qs d,qj,gp k d,qg9 (hb _ (Ki hj)) ad,w64s hj q6];rw [Y4 (by simp at v ⊢;omega)]
        rfl) (fun q=>by simp only [q4b,dnl,qx])
      simpa using this
    have u : ∀ k,(upTo l b k).length≤5:=fun k=>by simp [upTo];exact h5
    have g:=Z8 (f:=q4a (ptsL l.From l.To) b) (fun k=>(match k with | 0=>[] | m + 1=>mrgB 2 (upTo l b m) [],(k : Int))) (ptsL l.From l.To).length (mrgB 2 (upTo l b (nL l.From l.To)) []) (fun k d=>by
      unfold q4a;simp only [dlt d,qy,t k d,qj,w64s d q6]
      cases k with
      | zero=>
        have e0 : mrgB 2 ([] : List qg) [] = []:=qga qf .nil
        obtain ⟨q,v⟩:=qkm (L:=[]) (now:=b.map (movB (K0 l.From l.To 0))) (M:=upTo l b 0) qf (by simpa using h5) (u 0) (fun x y z=>by
          unfold upTo;rw [qfk s,q81];constructor
          · rintro ⟨p,hp,n⟩;rw [qgi] at hp;subst hp;exact .inr n
          · rintro (n | n)
            · exact absurd n (qcb _ _ _)
            · exact ⟨_,(qgi _ _).2 rfl,n⟩)
        rw [e0] at v;simp only [v,qj]
      | succ m=>
        obtain ⟨q,v⟩:=qkm (L:=upTo l b m) (now:=b.map (movB (K0 l.From l.To (m + 1)))) (M:=upTo l b (m + 1)) (u m) (by simpa using h5) (u _) (fun x y z=>by
          unfold upTo;rw [qfk s,qfk s];constructor
          · rintro ⟨p,hp,n⟩;rcases (qcp r q6 p).1 hp with hp | hp
            · exact .inl ⟨p,hp,n⟩
            · subst hp;exact .inr n
          · rintro (⟨p,hp,n⟩ | n)
            · exact ⟨p,(qcp r q6 p).2 (.inl hp),n⟩
            · exact ⟨_,(qcp r q6 _).2 (.inr rfl),n⟩)
        simp only [v,qj]) (by
      unfold q4a
      simp only [dnl,qx,lp]) (Nat.zero_le _)
    have g : loop (q4a (ptsL l.From l.To) b) ([],0) = some (mrgB 2 (upTo l b (nL l.From l.To)) []):=g;simp only [g,qj];have eU : upTo l b (nL l.From l.To) = b.map (swp l.From l.To):=by unfold upTo;rw [qhg r]
    rw [eU];unfold barS mkB;rw [qq hP,qp (by simp;omega),qq (by intro y hy;obtain ⟨x,w,rfl⟩:=List.mem_map.1 hy;exact hP x w)];by_cases h4 : 400 < (mrgB 2 (b.map (swp l.From l.To)) []).length
    · rw [Q7 q6,qq h4];rfl
    · rw [Q6 q6,qp h4];rfl
  · have hP : ¬ ∀ x∈b,vB (swp l.From l.To x):=fun h=>by simp [h _ (Ki d)] at hc
    rw [a2];unfold barS;rw [qp hP];rfl
section
variable {α β : Type}
noncomputable def fstE (g : α→β × Int) : List α→Int
  | []=>0
  | a::r=>if (g a).2≠0 then (g a).2 else fstE g r
theorem qk1 {g : α→β × Int} : ∀ {l : List α},fstE g l = 0↔∀ a∈l,(g a).2 = 0
  | []=>by simp [fstE]
  | a::r=>by
    rw [fstE]
    by_cases h : (g a).2 = 0
    · rw [qp (by simp [h]),qk1];simp [h]
    · rw [qq h];simp [h]
theorem qk3 {src : List α} {g : α→β × Int} {f : Int × List β→Option ((Int × List β) ⊕ (List β ⊕ (List β × Int)))}
    (hs : ∀ k (j : k < src.length) (o : List β),o.length = k→f ((k : Int),o) = some (if (g src[k]).2≠0 then .inr (.inr ([],(g src[k]).2)) else .inl (((k + 1 : Nat) : Int),o ++ [(g src[k]).1])))
    (hd : ∀ o,f ((src.length : Int),o) = some (.inr (.inl o))) : loop f (0,[]) = some (if fstE g src = 0 then .inl (src.map fun a=>(g a).1) else .inr ([],fstE g src)):=by
  have key : ∀ (r pre : List α),src = pre ++ r→loop f ((pre.length : Int),pre.map fun a=>(g a).1) = some (if fstE g r = 0 then .inl (src.map fun a=>(g a).1) else .inr ([],fstE g r)):=by
    intro r
    induction r with
    | nil=>
      intro pre h;rw [List.append_nil] at h;subst h;rw [Kj (hd _)];rfl
    | cons a r ih=>
      intro pre h;have j : pre.length < src.length:=by rw [h];simp
      have l : src[pre.length] = a:=by simp [h]
      have c:=hs pre.length j (pre.map fun a=>(g a).1) qf;rw [l] at c;by_cases b : (g a).2 = 0
      · rw [qp (by simp [b])] at c;have d : fstE g (a::r) = fstE g r:=qp (by simp [b]);rw [Y5 c,d];have:=ih (pre ++ [a]) (by rw [h];simp);simpa using this
      · rw [qq b] at c;have d : fstE g (a::r) = (g a).2:=qq b;rw [Kj c,d,qp b]
  exact key src [] rfl
end
noncomputable def q3e (bs : List (List qg)) (l : K7) : List qg:=(idx bs (min l.Depth ((bs.length : Int) - 1))).getD []
noncomputable def barB (bs : List (List qg)) (l : K7) : List qg × Int:=barS l (q3e bs l)
noncomputable def Ke (t : K5) (bs : List (List qg)) : List (List qg) × Int:=
  if chkS t bs≠0 then ([],chkS t bs) else if fstE (barB bs) t.Lines = 0 then (t.Lines.map fun l=>(barB bs l).1,0) else ([],fstE (barB bs) t.Lines)
structure q16 (t : K5) (bs : List (List qg)) : Prop where
  tok : TOk t
  few : bs.length≤20
  brush : ∀ b∈bs,K2 b = 0
  some' : t.Lines≠[]→bs≠[]
  depth : ∀ l∈t.Lines,0≤l.Depth
theorem qez {t : K5} {bs : List (List qg)} : chkS t bs = 0↔q16 t bs:=by
  unfold chkS;constructor
  · intro h;split at h
    · cases h
    rename_i f;split at h
    · cases h
    rename_i k;split at h
    · rename_i a;exact absurd h a
    rename_i a;split at h
    · cases h
    rename_i c;split at h
    · cases h
    rename_i d;refine ⟨Classical.not_not.1 f,q6,qi8 (Classical.not_not.1 a),fun b j=>c ⟨List.length_pos_iff.2 b,by simp [j]⟩,fun l b=>?_⟩;exact Int.not_lt.1 fun g=>d ⟨l,b,g⟩
  · rintro ⟨f,k,a,c,d⟩;rw [qp (not_not_intro f),qp q6,qp (not_not_intro (qej a)),qp (fun h=>c (List.length_pos_iff.1 h.1) (List.length_eq_zero_iff.1 h.2)),qp (fun ⟨l,b,g⟩=>by have:=d l b;omega)]
theorem qbx {t : K5} {bs : List (List qg)} (h : q16 t bs) {l : K7} (b : l∈t.Lines) : idx bs (min l.Depth (w64 ((bs.length : Int) - 1))) = some (q3e bs l)∧q3e bs l∈bs:=by
  have d:=h.few;have f:=h.depth l b;have c : bs.length≠0:=fun e=>h.some' (List.ne_nil_of_mem b) (List.length_eq_zero_iff.1 e);rw [Qk q6];have a : (min l.Depth ((bs.length : Int) - 1)).toNat < bs.length:=by omega
  have e:=J1 (xs:=bs) (i:=min l.Depth ((bs.length : Int) - 1)) (k:=(min l.Depth ((bs.length : Int) - 1)).toNat) q6 a;unfold q3e;rw [e];exact ⟨rfl,Ki a⟩
theorem qib (t : K5) (bs : List (List qg)) (j : t.Lines.length≤1000000) (q : t.Marks.length≤1000000) (m : bs.length≤1000000) : q83 t bs = some (Ke t bs):=by
  unfold q83 Ke;rw [qwr t bs j q m];simp only [qj];by_cases b : chkS t bs = 0
  · have ok:=qez.1 b;rw [qp (not_not_intro b),b,show ((0 : Int) != 0) = false from rfl,qx]
    rw [qk3 (src:=t.Lines) (g:=barB bs) (f:=q84 t bs) (fun k c o r=>by
      have l:=Ki c;obtain ⟨p,n⟩:=qbx ok l;obtain ⟨h,d,_⟩:=Yu.1 (ok.brush _ n);simp only [q84,dlt c,qy,Qs c,qj,p,q125 (ok.tok.2.1 _ l) h d,w64s c j];have e : barS t.Lines[k] (q3e bs t.Lines[k]) = barB bs t.Lines[k]:=rfl;rw [e];by_cases a : (barB bs t.Lines[k]).2 = 0
      · rw [qp (by simp [a]),a,show ((0 : Int) != 0) = false from rfl,qx,Y4 (by simp;omega)];rfl
      · rw [qq a,show ((barB bs t.Lines[k]).2 != 0) = true by simpa using a]
        rfl) (fun o=>by simp only [q84,dnl,qx])]
    by_cases a : fstE (barB bs) t.Lines = 0
    · rw [qq a,qq a];rfl
    · rw [qp a,qp a];rfl
  · rw [qq b,show (chkS t bs != 0) = true by simpa using b];rfl
structure Small (t : K5) (bs : List (List qg)) : Prop where
  lines : t.Lines.length≤12
  marks : t.Marks.length≤50
  many : bs.length≤25
  near : ∀ l∈t.Lines,(InV l.From (-2000000)∧InV l.To (-2000000))∧nL l.From l.To≤90
  few : ∀ b∈bs,b.length≤5
theorem qmg {t : K5} {bs : List (List qg)} (h : Small t bs) : q65 t bs = some (Ke t bs):=by
  have h1:=h.lines;have h2:=h.marks;have z:=h.many;unfold q65 Ke;rw [qvd t q6 q6];simp only [qj];by_cases c : TOk t
  rotate_left
  · have : chkS t bs = 8:=qq c;rw [qp c,this,qq Q2];rfl
  rw [qq c,show ((0 : Int) != 0) = false from rfl,qx];by_cases m : 20 < bs.length
  · have : chkS t bs = 4:=by unfold chkS;rw [qp (not_not_intro c),qq m]
    rw [Q7 (by omega : (bs.length : Int) > 20),qy,this,qq Q2]
  rw [Q6 (by omega : ¬ (bs.length : Int) > 20),qx]
  rw [qif bs q6 (fun e=>(([],e) : List (List qg) × Int)) (q66 bs) (fun k a=>by
    simp only [q66,dlt a,qy,Qs a,qj,w64s a (show bs.length≤1000000 by omega),qm9]
    by_cases h : K2 bs[k] = 0 <;> simp [qen,h]) (by simp only [q66,dnl,qx])]
  by_cases d : badB bs = 0
  rotate_left
  · have : chkS t bs = badB bs:=by unfold chkS;rw [qp (not_not_intro c),qp m,qq d]
    rw [qp d,this,qq d];rfl
  rw [qq d];simp only [qj];by_cases j : 0 < t.Lines.length∧bs.length = 0
  · have : chkS t bs = 6:=by unfold chkS;rw [qp (not_not_intro c),qp m,qp (not_not_intro d),qq j]
    rw [this,qq Q2,Q7 (by omega : (t.Lines.length : Int) > 0),j.2];rfl
  have w : (cond (decide ((t.Lines.length : Int) > 0)) (some ((bs.length : Int) == 0)) (some false)) = some false:=by
    by_cases v : 0 < t.Lines.length
    · have : ((bs.length : Int) == 0) = false:=by
        have : bs.length≠0:=fun e=>j ⟨v,e⟩;simpa using this
      rw [Q7 (by omega : (t.Lines.length : Int) > 0),this];rfl
    · rw [Q6 (by omega : ¬ (t.Lines.length : Int) > 0)];rfl
  rw [w];simp only [qj,qx]
  rcases Zd t.Lines (fun l=>decide (l.Depth < 0)) (fun k _=>(([],2) : List (List qg) × Int)) () (q67 t) (fun k a=>by
    simp only [q67,dlt a,qy,Qs a,qj,w64s a (show t.Lines.length≤1000000 by omega)]
    by_cases hd : t.Lines[k].Depth < 0 <;> simp [hd]) (by simp only [q67,dnl,qx]) with ⟨a1,a2⟩ | ⟨k,a,n,_,a2⟩
  rotate_left
  · have : chkS t bs = 2:=by
      unfold chkS;rw [qp (not_not_intro c),qp m,qp (not_not_intro d),qp j,qq ⟨_,Ki a,by simpa using n⟩]
    rw [a2,this,qq Q2];rfl
  have n : chkS t bs = 0:=by
    unfold chkS;rw [qp (not_not_intro c),qp m,qp (not_not_intro d),qp j,qp (fun ⟨l,hl,hn⟩=>by have:=a1 l hl;simp at this;omega)]
  have ok:=qez.1 n;rw [a2,qp (not_not_intro n)];simp only [qj]
  rw [qk3 (src:=t.Lines) (g:=barB bs) (f:=q68 t bs) (fun k a o y=>by
    have q:=Ki a;obtain ⟨x,s⟩:=qbx ok q;obtain ⟨u,r,_⟩:=Yu.1 (ok.brush _ s);have p:=(h.near _ q).2;simp only [q68,qd2,dlt a,qy,Qs a,qj,x,qvq (ok.tok.2.1 _ q) q6 (h.few _ s) r,w64s a (show t.Lines.length≤1000000 by omega)];have e : barS t.Lines[k] (q3e bs t.Lines[k]) = barB bs t.Lines[k]:=rfl;rw [e];by_cases b : (barB bs t.Lines[k]).2 = 0
    · rw [qp (by simp [b]),b,show ((0 : Int) != 0) = false from rfl,qx,Y4 (by simp;omega)];rfl
    · rw [qq b,show ((barB bs t.Lines[k]).2 != 0) = true by simpa using b]
      rfl) (fun o=>by simp only [q68,dnl,qx])]
  by_cases b : fstE (barB bs) t.Lines = 0
  · rw [qq b,qq b];rfl
  · rw [qp b,qp b];rfl
end Go.Sh
namespace Go.Sh
open Go Go.Am
theorem qia {l : K7} {b : List qg} (h : (barS l b).2 = 0) (k : b.length≤400) : (∀ x∈b,vB (swp l.From l.To x))∧(barS l b).1 = mrgB 2 (b.map (swp l.From l.To)) []∧K2 (barS l b).1 = 0∧∀ x y z,hasB (barS l b).1 x y z↔hasB (b.map (swp l.From l.To)) x y z:=by
  unfold barS at h ⊢;by_cases a : ∀ x∈b,vB (swp l.From l.To x)
  · rw [qq a] at h ⊢;have d : ∀ y∈b.map (swp l.From l.To),vB y:=by intro y j;obtain ⟨x,g,rfl⟩:=List.mem_map.1 j;exact a x g
    unfold mkB at h ⊢;rw [qp (by simp;omega),qq d] at h ⊢;by_cases c : 400 < (mrgB 2 (b.map (swp l.From l.To)) []).length
    · rw [qq c] at h;simp at h
    · rw [qp c];have f:=q3o 2 (p:=b.map (swp l.From l.To)) (q:=[]) (by simp;omega);exact ⟨a,rfl,Yu.2 ⟨by simpa using c,f.vB (InB.mrg (by simp;omega) (qhl d) .nil),f⟩,fun x y z=>q5e (by simp;omega) x y z⟩
  · rw [qp a] at h;simp at h
theorem qp8 {t : K5} {bs : List (List qg)} (h : q16 t bs) {l : K7} (a : l∈t.Lines) : K2 (q3e bs l) = 0:=h.brush _ (qbx h a).2
theorem q8j {t : K5} {bs : List (List qg)} (h : (Ke t bs).2 = 0) : q16 t bs∧(∀ l∈t.Lines,(barB bs l).2 = 0)∧(Ke t bs).1 = t.Lines.map fun l=>(barB bs l).1:=by
  unfold Ke at h ⊢;by_cases b : chkS t bs = 0
  · rw [qp (not_not_intro b)] at h ⊢;by_cases a : fstE (barB bs) t.Lines = 0
    · rw [qq a];exact ⟨qez.1 b,qk1.1 a,rfl⟩
    · rw [qp a] at h;exact absurd h a
  · rw [qq b] at h;exact absurd h b
theorem q8i {t : K5} {bs : List (List qg)} : ∀ b∈(Ke t bs).1,K2 b = 0:=by
  by_cases h : (Ke t bs).2 = 0
  · obtain ⟨g,j,f⟩:=q8j h;rw [f];intro b hb;obtain ⟨l,d,rfl⟩:=List.mem_map.1 hb;exact (qia (j l d) (Yu.1 (qp8 g d)).1).2.2.1
  · have : (Ke t bs).1 = []:=by
      unfold Ke at h ⊢;by_cases c : chkS t bs = 0
      · rw [qp (not_not_intro c)] at h ⊢;by_cases a : fstE (barB bs) t.Lines = 0
        · rw [qq a] at h;exact absurd rfl h
        · rw [qp a]
      · rw [qq c]
    rw [this];intro b hb;cases hb
def q1p (l : K7) : Prop:=(InV l.From (-2000000)∧InV l.To (-2000000))∧(max (max (max (max (max (l.From.X - l.To.X) (l.To.X - l.From.X)) (l.From.Y - l.To.Y)) (l.To.Y - l.From.Y)) (l.From.Z - l.To.Z)) (l.To.Z - l.From.Z))≤30
instance (l : K7) : Decidable (q1p l):=by unfold q1p;infer_instance
theorem qrq (t : K5) (bs : List (List qg)) : q69 t bs = some true∨(q69 t bs = some false∧Small t bs):=by
  unfold q69;by_cases o : 12 < t.Lines.length
  · rw [Q7 (by omega : (t.Lines.length : Int) > 12)];exact .inl rfl
  by_cases p : 50 < t.Marks.length
  · rw [Q6 (by omega : ¬ (t.Lines.length : Int) > 12),Q7 (by omega : (t.Marks.length : Int) > 50)];exact .inl rfl
  by_cases n : 25 < bs.length
  · rw [Q6 (by omega : ¬ (t.Lines.length : Int) > 12),Q6 (by omega : ¬ (t.Marks.length : Int) > 50),Q7 (by omega : (bs.length : Int) > 25)];exact .inl rfl
  rw [Q6 (by omega : ¬ (t.Lines.length : Int) > 12),Q6 (by omega : ¬ (t.Marks.length : Int) > 50),Q6 (by omega : ¬ (bs.length : Int) > 25)];simp only [qx,qj]
  rcases Zd t.Lines (fun l=>!decide (q1p l)) (fun k _=>true) () (q6a t) (fun k a=>by
    simp only [q6a,dlt a,qy,Qs a,qj,w64s a (show t.Lines.length≤1000000 by omega),qea];generalize t.Lines[k] = l;by_cases c : InV l.From (-2000000)
    · by_cases d : InV l.To (-2000000)
      · have m:=c;have g:=d;unfold InV at m g;rw [Qk q6,Qk q6,Qk q6,Qk q6,Qk q6,Qk q6]
        have e : decide (max (max (max (max (max (l.From.X - l.To.X) (l.To.X - l.From.X)) (l.From.Y - l.To.Y)) (l.To.Y - l.From.Y)) (l.From.Z - l.To.Z)) (l.To.Z - l.From.Z) > 30) = !decide (q1p l):=by
          rw [Bool.eq_iff_iff];simp only [decide_eq_true_eq,Bool.not_eq_true',decide_eq_false_iff_not,q1p,c,d,true_and,and_true];omega
        rw [e,Q7 c,Q7 d];cases decide (q1p l) <;> rfl
      · have e : decide (q1p l) = false:=Q6 fun h=>d h.1.2;rw [e,Q7 c,Q6 d];rfl
    · have e : decide (q1p l) = false:=Q6 fun h=>c h.1.1
      rw [e,Q6 c];rfl) (by simp only [q6a,dnl,qx]) with ⟨a1,a2⟩ | ⟨k,a,hc,_,a2⟩
  rotate_left
  · rw [a2];exact .inl rfl
  rw [a2];simp only [qj]
  rcases Zd bs (fun b=>decide (5 < b.length)) (fun k _=>true) () (q6b bs) (fun k a=>by
    simp only [q6b,dlt a,qy,Qs a,qj,w64s a (show bs.length≤1000000 by omega)];by_cases h : 5 < bs[k].length
    · rw [Q7 (by omega : (bs[k].length : Int) > 5)];simp [h]
    · rw [Q6 (by omega : ¬ (bs[k].length : Int) > 5)];simp [h]) (by simp only [q6b,dnl,qx]) with ⟨b1,b2⟩ | ⟨k,a,hc,_,b2⟩
  rotate_left
  · rw [b2];exact .inl rfl
  rw [b2];refine .inr ⟨rfl,q6,q6,q6,fun l j=>?_,fun b hb=>by simpa using b1 b hb⟩;have f : q1p l:=by simpa using a1 l j
  refine ⟨f.1,?_⟩;have:=q97 l.From l.To;have:=f.2;omega
end Go.Sh
namespace Go.Sh
open Go Go.Am
noncomputable def Yh : List qg→List (List qg)→List qg × Int
  | o,[]=>(o,0)
  | o,b::r=>if (jB 2 o b).2≠0 then ([],(jB 2 o b).2) else Yh (jB 2 o b).1 r
theorem qkh {p q : List qg} (hp : K2 p = 0) (d : K2 q = 0) : (jB 2 p q = ([],4))∨((jB 2 p q).2 = 0∧K2 (jB 2 p q).1 = 0∧∀ x y z,hasB (jB 2 p q).1 x y z↔hasB p x y z∨hasB q x y z):=by
  rcases qs5 2 hp d with h | ⟨b,c,a⟩
  · exact .inl h
  · rw [b];exact .inr ⟨rfl,c,fun x y z=>by rw [a,qcd]⟩
theorem qch : ∀ {l : List (List qg)} {o : List qg},K2 o = 0→(∀ b∈l,K2 b = 0)→Yh o l = ([],4)∨((Yh o l).2 = 0∧K2 (Yh o l).1 = 0∧∀ x y z,hasB (Yh o l).1 x y z↔hasB o x y z∨∃ b∈l,hasB b x y z)
  | [],o,ho,_=>.inr ⟨rfl,ho,fun x y z=>by simp [Yh]⟩
  | b::r,o,ho,hb=>by
    rcases qkh ho (hb b qf) with h | ⟨j,m,f⟩
    · left;unfold Yh;rw [h];rfl
    · have e : Yh o (b::r) = Yh (jB 2 o b).1 r:=by rw [Yh,qp (by simp [j])]
      rw [e]
      rcases qch (l:=r) m (fun c a=>hb c (by simp [a])) with g | ⟨n,d,k⟩
      · exact .inl g
      · refine .inr ⟨n,d,fun x y z=>?_⟩
        rw [k,f]
        constructor
        · rintro ((h | h) | ⟨c,a,h⟩)
          · exact .inl h
          · exact .inr ⟨b,qf,h⟩
          · exact .inr ⟨c,by simp [a],h⟩
        · rintro (h | ⟨c,a,h⟩)
          · exact .inl (.inl h)
          · rcases List.mem_cons.1 a with rfl | a
            · exact .inl (.inr h)
            · exact .inr ⟨c,a,h⟩
theorem qkj {src : List (List qg)} (c : ∀ b∈src,K2 b = 0) {f : List qg × Int→Option ((List qg × Int) ⊕ ((List qg) ⊕ (List qg × Int)))}
    (hs : ∀ k (l : k < src.length) (o : List qg),K2 o = 0→f (o,(k : Int)) = some (if (jB 2 o src[k]).2≠0 then .inr (.inr ([],(jB 2 o src[k]).2)) else .inl ((jB 2 o src[k]).1,((k + 1 : Nat) : Int))))
    (hd : ∀ o,f (o,(src.length : Int)) = some (.inr (.inl o))) : loop f ([],0) = some (if (Yh [] src).2 = 0 then .inl (Yh [] src).1 else .inr ([],(Yh [] src).2)):=by
  have key : ∀ (r pre : List (List qg)) (o : List qg),src = pre ++ r→K2 o = 0→loop f (o,(pre.length : Int)) = some (if (Yh o r).2 = 0 then .inl (Yh o r).1 else .inr ([],(Yh o r).2)):=by
    intro r
    induction r with
    | nil=>
      intro pre o h _;rw [List.append_nil] at h;subst h;rw [Kj (hd _)];rfl
    | cons a r ih=>
      intro pre o h n;have l : pre.length < src.length:=by rw [h];simp
      have p : src[pre.length] = a:=by simp [h]
      have d:=hs pre.length l o n;rw [p] at d;have g : K2 a = 0:=c a (by rw [h];simp);rcases qkh n g with j | ⟨m,q,_⟩
      · rw [j,qq Q2] at d;have e : Yh o (a::r) = ([],4):=by unfold Yh;rw [j];rfl
        rw [Kj d,e];rfl
      · rw [qp (by simp [m])] at d;have e : Yh o (a::r) = Yh (jB 2 o a).1 r:=by rw [Yh,qp (by simp [m])]
        rw [Y5 d,e];have:=ih (pre ++ [a]) (jB 2 o a).1 (by rw [h];simp) q;simpa using this
  exact key src [] [] rfl qc1
noncomputable def q82 (t : K5) (bs : List (List qg)) : List qg × Int:=if (Ke t bs).2≠0 then ([],(Ke t bs).2) else Yh [] (Ke t bs).1
theorem qek (t : K5) (bs : List (List qg)) : (Ke t bs).1.length≤t.Lines.length:=by
  by_cases a : (Ke t bs).2 = 0
  · rw [(q8j a).2.2];simp
  · have : (Ke t bs).1 = []:=by
      unfold Ke at a ⊢;split
      · rfl
      · rename_i c;rw [qp c] at a;split at a
        · exact absurd rfl a
        · rename_i b;rw [qp b]
    rw [this];simp
theorem q12d {R : List (List qg) × Int} (c : R.1.length≤1000000) (k : Nat) (b : k < R.1.length) (o : List qg) : q4y R (o,(k : Int)) = some (if (jB 2 o R.1[k]).2≠0 then .inr (.inr ([],(jB 2 o R.1[k]).2)) else .inl ((jB 2 o R.1[k]).1,((k + 1 : Nat) : Int))):=by
  simp only [q4y,dlt b,qy,Qs b,qj,q115,w64s b c];generalize jB 2 o R.1[k] = q;by_cases a : q.2 = 0
  · rw [qp (not_not_intro a),a];rfl
  · rw [qq a,show (q.2 != 0) = true by simpa using a,qy]
theorem q129 (t : K5) (bs : List (List qg)) (d : t.Lines.length≤1000000) (n : t.Marks.length≤1000000) (j : bs.length≤1000000) : qb9 t bs = some (q82 t bs):=by
  unfold qb9 q82;have h:=qek t bs;have c:=q8i (t:=t) (bs:=bs);rw [qib t bs d n j,qj];generalize Ke t bs = R at h c ⊢;by_cases a : R.2 = 0
  · rw [qp (not_not_intro a),a,show ((0 : Int) != 0) = false from rfl,qx];rw [qkj c (f:=q4y R) (fun k m o _=>q12d (Nat.le_trans h d) k m o) (fun o=>by simp only [q4y,dnl,qx])];by_cases b : (Yh [] R.1).2 = 0
    · rw [qq b];simp only [qj];exact congrArg some (Prod.ext rfl b.symm)
    · rw [qp b];rcases qch qc1 c with g | ⟨l,_⟩
      · rw [g];rfl
      · exact absurd l b
  · rw [qq a,show (R.2 != 0) = true by simpa using a,qy]
theorem qic {t : K5} {bs : List (List qg)} (hs : Small t bs) : ∀ b∈(Ke t bs).1,∃ L,L.length≤5∧b = mrgB 2 L []∧b.length≤400:=by
  intro b hb;by_cases a : (Ke t bs).2 = 0
  · obtain ⟨d,n,g⟩:=q8j a;rw [g] at hb;obtain ⟨l,f,rfl⟩:=List.mem_map.1 hb;obtain ⟨p,c⟩:=qbx d f;obtain ⟨o,j,m,_⟩:=qia (n l f) (Yu.1 (d.brush _ c)).1;exact ⟨_,by simpa using hs.few _ c,j,(Yu.1 m).1⟩
  · exfalso;have:=qek t bs
    have : (Ke t bs).1 = []:=by
      unfold Ke at a ⊢;split
      · rfl
      · rename_i k;rw [qp k] at a;split at a
        · exact absurd rfl a
        · rename_i h;rw [qp h]
    rw [this] at hb;cases hb
theorem qvt {t : K5} {bs : List (List qg)} (hs : Small t bs) : q9o t bs = some (q82 t bs):=by
  unfold q9o q82;have s:=qek t bs;have r:=hs.lines;rw [qmg hs,qj];by_cases b : (Ke t bs).2 = 0
  · rw [qp (by simp [b]),b,show ((0 : Int) != 0) = false from rfl,qx]
    rw [qkj q8i (f:=q6e (Ke t bs)) (fun k d o h=>by
      have a : ∀ z,(atB o z).length + (atB (Ke t bs).1[k] z).length≤490:=fun z=>by
        obtain ⟨L,j,e,_⟩:=qic hs _ (Ki d);have m:=Za o z;have p:=(Yu.1 h).1;have q:=qdc (n:=5) j q6 z;rw [e];omega
      simp only [q6e,dlt d,qy,Qs d,qj,qvh 2 o (Ke t bs).1[k] (fun _ _=>a),w64s d (show (Ke t bs).1.length≤1000000 by omega)];by_cases c : (jB 2 o (Ke t bs).1[k]).2 = 0
      · rw [qp (by simp [c]),c,show ((0 : Int) != 0) = false from rfl,qx]
      · rw [qq c,show ((jB 2 o (Ke t bs).1[k]).2 != 0) = true by simpa using c,qy]) (fun o=>by simp only [q6e,dnl,qx])]
    by_cases a : (Yh [] (Ke t bs).1).2 = 0
    · rw [qq a];simp only [qj];exact congrArg some (Prod.ext rfl a.symm)
    · rw [qp a];rcases qch qc1 (q8i (t:=t) (bs:=bs)) with g | ⟨l,_⟩
      · rw [g];rfl
      · exact absurd l a
  · rw [qq b,show ((Ke t bs).2 != 0) = true by simpa using b];rfl
def q18 (p q : K7) : Prop:=p.From≠q.From∧p.From≠q.To∧p.To≠q.From∧p.To≠q.To
instance (p q : K7) : Decidable (q18 p q):=by unfold q18;infer_instance
theorem qoj (p q : Qb) : ((p.X == q.X) && ((p.Y == q.Y) && ((p.Z == q.Z) && true))) = decide (p = q):=by
  rw [Bool.eq_iff_iff];simp [qbn]
theorem qow (p q : K7) : qba p q = some (decide (q18 p q)):=by
  unfold qba q18;simp only [qoj];by_cases b : p.From = q.From <;> by_cases c : p.From = q.To <;> by_cases a : p.To = q.From <;> by_cases d : p.To = q.To <;> simp [b,c,a,d]
def q3n (a b : List qg) : Prop:=∃ x y z,hasB a x y z∧hasB b x y z
theorem qnt (l : List qg) (d : l.length≤1000000) (p : qg→Option Bool) (c : qg→Bool) (h : ∀ v∈l,p v = some (c v)) : q1x l p = some (l.any c):=by
  unfold q1x qa1
  rcases Zd l c (fun k _=>(k : Int)) () (q11 l p) (fun k a=>by
    simp only [q11,dlt a,qy,Qs a,qj,w64s a d,h _ (Ki a)]
    cases c l[k] <;> simp) (by simp only [q11,dnl,qx]) with ⟨h1,h2⟩ | ⟨k,a,hc,_,h2⟩
  · rw [h2];have : l.any c = false:=by rw [List.any_eq_false];exact fun v b=>by rw [h1 v b];simp
    rw [this];rfl
  · rw [h2];have : l.any c = true:=List.any_eq_true.2 ⟨_,Ki a,hc⟩;simp only [qj];rw [this,Q7 q6]
def ovB (p q : qg) : Prop:=((q.Lo.X < p.Hi.X∧p.Lo.X < q.Hi.X)∧q.Lo.Y < p.Hi.Y∧p.Lo.Y < q.Hi.Y)∧q.Lo.Z < p.Hi.Z∧p.Lo.Z < q.Hi.Z
instance (p q : qg) : Decidable (ovB p q):=by unfold ovB;infer_instance
theorem qun (p q : qg) : q87 p q = some (decide (ovB p q)):=by
  unfold q87 ovB;by_cases f : q.Lo.X < p.Hi.X <;> by_cases g : p.Lo.X < q.Hi.X <;> by_cases c : q.Lo.Y < p.Hi.Y <;> by_cases b : p.Lo.Y < q.Hi.Y <;> by_cases d : q.Lo.Z < p.Hi.Z <;> by_cases a : p.Lo.Z < q.Hi.Z <;> simp [f,g,c,b,d,a]
theorem qlp {p q : qg} (hp : ltB p) (a : ltB q) : ovB p q↔∃ x y z,inB p x y z∧inB q x y z:=by
  obtain ⟨l,p2,p3⟩:=hp;obtain ⟨k,o,n⟩:=a;constructor
  · rintro ⟨⟨⟨m,t⟩,h,g⟩,j,c⟩;exact ⟨max p.Lo.X q.Lo.X,max p.Lo.Y q.Lo.Y,max p.Lo.Z q.Lo.Z,⟨q6,q6,q6⟩,⟨q6,q6,q6⟩⟩
  · rintro ⟨x,y,z,⟨s,d,f⟩,⟨b1,b,r⟩⟩;exact ⟨⟨⟨q6,q6⟩,q6,q6⟩,q6,q6⟩
open Classical in
theorem qst {a b : List qg} (n : K2 a = 0) (hb : K2 b = 0) : qbf a b = some (decide (q3n a b)):=by
  obtain ⟨la,m,_⟩:=Yu.1 n;obtain ⟨o,l,_⟩:=Yu.1 hb;unfold qbf
  rw [qnt a q6 _ (fun x=>b.any fun y=>decide (ovB y x)) (fun x c=>by
    unfold qbg;rw [qnt b q6 _ (fun y=>decide (ovB y x)) (fun y _=>qun y x)]
    rfl)]
  simp only [qj];congr 1;rw [Bool.eq_iff_iff];simp only [List.any_eq_true,decide_eq_true_eq];constructor
  · rintro ⟨x,c,y,d,h⟩;obtain ⟨i,j,k,f,g⟩:=(qlp (l y d).1 (m x c).1).1 h;exact ⟨i,j,k,⟨x,c,g⟩,⟨y,d,f⟩⟩
  · rintro ⟨i,j,k,⟨x,c,g⟩,⟨y,d,f⟩⟩;exact ⟨x,c,y,d,(qlp (l y d).1 (m x c).1).2 ⟨i,j,k,f,g⟩⟩
theorem qsz {a b : List qg} (h : a.length + b.length≤100000) : 0 < (mrgB 1 a b).length↔q3n a b:=by
  have d:=q3o 1 h;have hp:=q90 1 h;constructor
  · intro l;obtain ⟨x,f⟩:=List.exists_mem_of_length_pos l;have g:=d.lt x f;have:=(hp x.Lo.X x.Lo.Y x.Lo.Z).1 ⟨x,f,q6,q6,q6⟩;rw [qkc] at this;exact ⟨_,_,_,this⟩
  · rintro ⟨x,y,z,j,k⟩;obtain ⟨c,d,_⟩:=(hp x y z).2 (qkc.2 ⟨j,k⟩);exact List.length_pos_of_mem d
theorem ql8 {α β : Type} [DecidableEq α] (z v : β) (k b : α) : ∀ es : List (α × β),Z9 z b (Ug k v es) = if b = k then v else Z9 z b es
  | []=>by simp [Z9,Ug]
  | (a,w)::r=>by
    unfold Ug
    by_cases h : k = a
    · subst h
      rw [qq rfl]
      by_cases c : b = k <;> simp [Z9,c]
    · rw [qp h]
      have d:=ql8 z v k b r
      by_cases c : b = a
      · subst c
        simp [Z9,Ne.symm h]
      · simp [Z9,c,d]
section
variable (t : K5) (L : List (List qg))
def cl (i k : Nat) : Prop:=i < k∧∃ p q a b,t.Lines[i]? = some p∧t.Lines[k]? = some q∧L[i]? = some a∧L[k]? = some b∧q18 p q∧q3n a b
open Classical in
noncomputable def row (i m : Nat) : List (Int × Int):=((List.range m).filter fun k=>decide (cl t L i k)).map fun (k : Nat)=>((i : Int),(k : Int))
noncomputable def pairs (n m : Nat) : List (Int × Int):=(List.range m).flatMap fun i=>row t L i n
end
open Classical in
theorem qh1 (t : K5) (L : List (List qg)) (i m : Nat) : row t L i (m + 1) = row t L i m ++ if cl t L i m then [((i : Int),(m : Int))] else []:=by
  unfold row;rw [List.range_succ,List.filter_append,List.map_append];by_cases h : cl t L i m <;> simp [h]
theorem qmv (t : K5) (L : List (List qg)) (i : Nat) : ∀ m,m≤i + 1→row t L i m = []
  | 0,_=>rfl
  | m + 1,h=>by
    rw [qh1,qmv t L i m q6,qp (fun a=>by have:=a.1;omega)];rfl
theorem qgn (t : K5) (L : List (List qg)) (n m : Nat) : pairs t L n (m + 1) = pairs t L n m ++ row t L m n:=by
  unfold pairs;rw [List.range_succ,List.flatMap_append];simp
theorem qgz (t : K5) (L : List (List qg)) (i m : Nat) : (row t L i m).length≤m:=by
  unfold row;rw [List.length_map];exact Nat.le_trans (List.length_filter_le _ _) qf
theorem qcr (t : K5) (L : List (List qg)) (n : Nat) : ∀ m,(pairs t L n m).length≤m * n
  | 0=>by simp [pairs]
  | m + 1=>by
    rw [qgn,List.length_append,Nat.succ_mul]
    have:=qcr t L n m
    have:=qgz t L m n
    omega
section
variable {t : K5} {bs : List (List qg)}
noncomputable def q56 (t : K5) (bs : List (List qg)) : List (Int × Int) × Int:=if (Ke t bs).2≠0 then ([],(Ke t bs).2) else (pairs t (Ke t bs).1 t.Lines.length t.Lines.length,0)
open Classical in
theorem qq8 (h1 : t.Lines.length≤2000) (h2 : t.Marks.length≤1000000) (h3 : bs.length≤1000000) : qb8 t bs = some (q56 t bs):=by
  unfold qb8 q56;rw [qib t bs q6 h2 h3,qj];by_cases y : (Ke t bs).2 = 0
  rotate_left
  · rw [qq y,show ((Ke t bs).2 != 0) = true by simpa using y];rfl
  rw [qp (by simp [y]),y,show ((0 : Int) != 0) = false from rfl,qx];have s : (Ke t bs).1.length = t.Lines.length:=by rw [(q8j y).2.2];simp
  have l:=q8i (t:=t) (bs:=bs);generalize Ke t bs = R at y s l ⊢
  have found : ∃ es,loop (q85 R t) (0,[]) = some es∧∀ a b : Nat,Z9 false ((a : Int),(b : Int)) es = decide (b < R.1.length∧cl t R.1 a b):=by
    refine J2 (fun k es=>((k : Int),es)) R.1.length (fun k es=>∀ a b : Nat,Z9 false ((a : Int),(b : Int)) es = decide (b < k∧cl t R.1 a b)) (fun es=>∀ a b : Nat,Z9 false ((a : Int),(b : Int)) es = decide (b < R.1.length∧cl t R.1 a b)) (fun k es m hi=>?_) (fun es hi=>⟨es,by simp only [q85,dnl,qx],hi⟩) (Nat.zero_le _) (fun a b=>by simp [Z9])
    obtain ⟨z,e1,e2⟩:=J2 (f:=q4v ((k : Int),es) t R) (fun i es=>((i : Int),es)) k (fun i es=>∀ a b : Nat,Z9 false ((a : Int),(b : Int)) es = decide ((b < k∨(b = k∧a < i))∧cl t R.1 a b)) (fun es=>∀ a b : Nat,Z9 false ((a : Int),(b : Int)) es = decide (b < k + 1∧cl t R.1 a b)) (fun i es x hi=>by
      have u : k < t.Lines.length:=by omega
      have w : i < t.Lines.length:=by omega
      left
      have v : cl t R.1 i k↔q18 t.Lines[i] t.Lines[k]∧q3n (R.1[i]'(q6)) R.1[k]:=by
        unfold cl;constructor
        · rintro ⟨_,p,q,a,b,d,c,g3,g4,g5,g6⟩;rw [List.getElem?_eq_getElem w] at d;rw [List.getElem?_eq_getElem u] at c;rw [List.getElem?_eq_getElem q6] at g3;rw [List.getElem?_eq_getElem m] at g4;cases d;cases c;cases g3;cases g4;exact ⟨g5,g6⟩
        · rintro ⟨g5,g6⟩;exact ⟨x,_,_,_,_,List.getElem?_eq_getElem w,List.getElem?_eq_getElem u,List.getElem?_eq_getElem q6,List.getElem?_eq_getElem m,g5,g6⟩
      refine ⟨if cl t R.1 i k then Ug ((i : Int),(k : Int)) true es else es,?_,fun a b=>?_⟩
      · have r : i < R.1.length:=by omega
        simp only [q4v,dlt x,qy,Qs w,Qs u,Qs r,Qs m,qj,qow,qst (l _ (Ki r)) (l _ (Ki m)),w64s x (show k≤1000000 by omega)];by_cases d : q18 t.Lines[i] t.Lines[k]
        · by_cases c : q3n R.1[i] R.1[k]
          · rw [qq (v.2 ⟨d,c⟩),Q7 d,Q7 c];rfl
          · rw [qp (fun h=>c (v.1 h).2),Q7 d,Q6 c];rfl
        · rw [qp (fun h=>d (v.1 h).1),Q6 d];rfl
      · have ha:=hi a b;by_cases n : cl t R.1 i k
        · rw [qq n,ql8,ha];by_cases o : a = i∧b = k
          · obtain ⟨rfl,rfl⟩:=o;rw [qq rfl,Q7 ⟨.inr ⟨rfl,q6⟩,n⟩]
          · rw [qp (fun h=>o (by simp only [Prod.mk.injEq] at h;omega))];rw [decide_eq_decide];constructor
            · rintro ⟨d,c⟩;exact ⟨q6,c⟩
            · rintro ⟨d,c⟩;exact ⟨q6,c⟩
        · rw [qp n,ha,decide_eq_decide];constructor
          · rintro ⟨d,c⟩;exact ⟨q6,c⟩
          · rintro ⟨d,c⟩;refine ⟨?_,c⟩;by_cases o : a = i∧b = k
            · obtain ⟨rfl,rfl⟩:=o;exact absurd c n
            · omega) (fun es hi=>⟨es,by simp only [q4v,dnl,qx],fun a b=>by
        rw [hi,decide_eq_decide];constructor
        · rintro ⟨d,c⟩;exact ⟨q6,c⟩
        · rintro ⟨d,c⟩;have:=c.1
          exact ⟨q6,c⟩⟩) (Nat.zero_le k) (c0:=es) (fun a b=>by
        rw [hi a b,decide_eq_decide];constructor
        · rintro ⟨d,c⟩;exact ⟨.inl d,c⟩
        · rintro ⟨d,c⟩;exact ⟨q6,c⟩)
    refine .inl ⟨z,?_,e2⟩;have e1 : loop (q4v ((k : Int),es) t R) (0,es) = some z:=e1;simp only [q85,dlt m,qy,e1,qj,w64s m (show R.1.length≤1000000 by omega)]
  obtain ⟨es,e1,e2⟩:=found;rw [e1];simp only [qj];have e3 : ∀ a b : Nat,b < R.1.length→Z9 false ((a : Int),(b : Int)) es = decide (cl t R.1 a b):=fun a b hb=>by rw [e2,decide_eq_decide];exact ⟨fun h=>h.2,fun h=>⟨hb,h⟩⟩
  have aj : R.1.length * R.1.length≤2000 * 2000:=Nat.mul_le_mul q6 q6
  have j:=Z8 (f:=q4w R es) (fun i=>((i : Int),pairs t R.1 R.1.length i)) R.1.length (pairs t R.1 R.1.length R.1.length) (fun i hi=>by
    have an:=qcr t R.1 R.1.length i;have ai : i * R.1.length≤R.1.length * R.1.length:=Nat.mul_le_mul_right _ (Nat.le_of_lt hi)
    have g:=Z8 (f:=q4x R ((i : Int),pairs t R.1 R.1.length i) es) (fun k=>((k : Int),pairs t R.1 R.1.length i ++ row t R.1 i k)) R.1.length (pairs t R.1 R.1.length i ++ row t R.1 i R.1.length) (fun k m=>by
      have ah:=qgz t R.1 i k;simp only [q4x,dlt m,qy,e3 i k m,w64s m (show R.1.length≤1000000 by omega)];rw [qh1];by_cases n : cl t R.1 i k
      · rw [Q7 n,qq n,qy,Y4 (by simp;omega),List.append_assoc];rfl
      · rw [Q6 n,qp n,List.append_nil];rfl) (by simp only [q4x,dnl,qx]) (Nat.zero_le _)
    have g : loop (q4x R ((i : Int),pairs t R.1 R.1.length i) es) (0,pairs t R.1 R.1.length i) = some (pairs t R.1 R.1.length i ++ row t R.1 i R.1.length):=by
      have e0 : (((0 : Nat) : Int),pairs t R.1 R.1.length i ++ row t R.1 i 0) = ((0 : Int),pairs t R.1 R.1.length i):=by simp [row]
      rw [← e0];exact g
    simp only [q4w,dlt hi,qy,g,qj,w64s hi (show R.1.length≤1000000 by omega),qgn]) (by simp only [q4w,dnl,qx]) (Nat.zero_le _)
  have j : loop (q4w R es) (0,[]) = some (pairs t R.1 R.1.length R.1.length):=j;rw [j,s];rfl
open Classical in
theorem qvs (hs : Small t bs) : q9l t bs = some (q56 t bs):=by
  have h1:=hs.lines;unfold q9l q56;rw [qmg hs,qj];by_cases w : (Ke t bs).2 = 0
  rotate_left
  · rw [qq w,show ((Ke t bs).2 != 0) = true by simpa using w];rfl
  rw [qp (by simp [w]),w,show ((0 : Int) != 0) = false from rfl,qx];have l : (Ke t bs).1.length = t.Lines.length:=by rw [(q8j w).2.2];simp
  have g:=qic hs;generalize Ke t bs = R at w l g ⊢;have ak : R.1.length * R.1.length≤12 * 12:=Nat.mul_le_mul q6 q6
  have d:=Z8 (f:=q47 R t) (fun i=>((i : Int),pairs t R.1 R.1.length i)) R.1.length (pairs t R.1 R.1.length R.1.length) (fun i hi=>by
    have ao:=qcr t R.1 R.1.length i;have aj : i * R.1.length≤R.1.length * R.1.length:=Nat.mul_le_mul_right _ (Nat.le_of_lt hi);have u : i < t.Lines.length:=by omega
    have c:=Z8 (f:=q48 R t ((i : Int),pairs t R.1 R.1.length i)) (fun j=>(((i + 1 + j : Nat) : Int),pairs t R.1 R.1.length i ++ row t R.1 i (i + 1 + j))) (R.1.length - (i + 1)) (pairs t R.1 R.1.length i ++ row t R.1 i R.1.length) (k:=0) (fun j hj=>by
      have y : i + 1 + j < R.1.length:=by omega
      have m : i + 1 + j < t.Lines.length:=by omega
      have ai:=qgz t R.1 i (i + 1 + j);obtain ⟨A,a5,ea,la⟩:=g _ (Ki hi);obtain ⟨B,b5,eb,lb⟩:=g _ (Ki y);obtain ⟨q,hq⟩:=qsc a5 b5 (by rw [← ea];exact la) (by rw [← eb];exact lb);rw [← ea,← eb] at hq;have hm:=qsz (a:=R.1[i]) (b:=R.1[i + 1 + j]) q6
      have n : cl t R.1 i (i + 1 + j)↔q18 t.Lines[i] t.Lines[i + 1 + j]∧q3n R.1[i] R.1[i + 1 + j]:=by
        unfold cl;constructor
        · rintro ⟨_,p,q,a,b,o,s,g3,g4,g5,g6⟩;rw [List.getElem?_eq_getElem u] at o;rw [List.getElem?_eq_getElem m] at s;rw [List.getElem?_eq_getElem hi] at g3;rw [List.getElem?_eq_getElem y] at g4;cases o;cases s;cases g3;cases g4;exact ⟨g5,g6⟩
        · rintro ⟨g5,g6⟩;exact ⟨q6,_,_,_,_,List.getElem?_eq_getElem u,List.getElem?_eq_getElem m,List.getElem?_eq_getElem hi,List.getElem?_eq_getElem y,g5,g6⟩
      have hw : w64 (((i + 1 + j : Nat) : Int) + 1) = ((i + 1 + (j + 1) : Nat) : Int):=by rw [Qk q6];omega
      simp only [q48,dlt y,qy,Qs u,Qs m,Qs hi,Qs y,qj,qoj,hw];rw [show i + 1 + (j + 1) = (i + 1 + j) + 1 by omega,qh1];generalize t.Lines[i] = p at *;generalize t.Lines[i + 1 + j] = r at *;by_cases o : q18 p r
      · obtain ⟨f1,v,x,z⟩:=id o;rw [Q6 f1,Q6 v,Q6 x,Q6 z];simp only [qx,qj,hq];by_cases s : q3n R.1[i] R.1[i + 1 + j]
        · rw [qq (n.2 ⟨o,s⟩),Q7 (by have:=hm.2 s;omega),qy,Y4 (by simp;omega),List.append_assoc];rfl
        · rw [qp (fun h=>s (n.1 h).2),Q6 (fun h=>s (hm.1 q6)),List.append_nil];rfl
      · rw [qp (fun h=>o (n.1 h).1),List.append_nil];by_cases f1 : p.From = r.From
        · rw [Q7 f1];rfl
        by_cases v : p.From = r.To
        · rw [Q6 f1,Q7 v];rfl
        by_cases x : p.To = r.From
        · rw [Q6 f1,Q6 v,Q7 x];rfl
        by_cases z : p.To = r.To
        · rw [Q6 f1,Q6 v,Q6 x,Q7 z];rfl
        exact absurd ⟨f1,v,x,z⟩ o) (by
      rw [show i + 1 + (R.1.length - (i + 1)) = R.1.length by omega]
      simp only [q48,dnl,qx]) (Nat.zero_le _)
    have c : loop (q48 R t ((i : Int),pairs t R.1 R.1.length i)) (((i + 1 : Nat) : Int),pairs t R.1 R.1.length i) = some (pairs t R.1 R.1.length i ++ row t R.1 i R.1.length):=by
      have e0 : (((i + 1 + 0 : Nat) : Int),pairs t R.1 R.1.length i ++ row t R.1 i (i + 1 + 0)) = (((i + 1 : Nat) : Int),pairs t R.1 R.1.length i):=by rw [Nat.add_zero,qmv _ _ _ _ (Nat.le_refl _),List.append_nil]
      rw [← e0];exact c
    simp only [q47,dlt hi,qy,c,qj,w64s hi (show R.1.length≤1000000 by omega),qgn]) (by simp only [q47,dnl,qx]) (Nat.zero_le _)
  have d : loop (q47 R t) (0,[]) = some (pairs t R.1 R.1.length R.1.length):=d;rw [d,l];rfl
theorem qwo (p : List (Int × Int)) (b : p.length≤1000000) : q9n p p = some true:=by
  unfold q9n;rw [show ((p.length : Int) != (p.length : Int)) = false by simp,qx]
  rcases Zd p (fun _=>false) (fun k _=>false) () (q6d p p) (fun k a=>by
    simp only [q6d,dlt a,qy,Qs a,qj,w64s a b,beq_self_eq_true,Bool.and_true,Bool.not_true,qx]
    rfl) (by simp only [q6d,dnl,qx]) with ⟨a1,a2⟩ | ⟨k,a,hc,_,a2⟩
  · rw [a2];rfl
  · cases hc
theorem qq9 (a : t.Lines.length≤12) : (q56 t bs).1.length≤144:=by
  unfold q56;split
  · simp
  · have:=qcr t (Ke t bs).1 t.Lines.length t.Lines.length;have:=Nat.mul_le_mul a a;simp only;omega
theorem q121 : (q82 t bs).1.length≤400:=by
  unfold q82;split
  · simp
  · rcases qch qc1 (q8i (t:=t) (bs:=bs)) with g | ⟨_,g,_⟩
    · rw [g];simp
    · exact (Yu.1 g).1
theorem q13i (t : K5) (bs : List (List qg)) : qci t bs = some true:=by
  unfold qci;rcases qrq t bs with h | ⟨h,hs⟩
  · rw [h];rfl
  rw [h];have a:=hs.lines;have c:=hs.marks;have b:=hs.many;simp only [qj,qx,q129 t bs q6 q6 q6,qvt hs,qq8 (t:=t) (bs:=bs) q6 q6 q6,qvs hs];rw [sameBox _ _ (by have:=q121 (t:=t) (bs:=bs);omega),qwo _ (by have:=qq9 (t:=t) (bs:=bs) a;omega)];simp
end
end Go.Sh
