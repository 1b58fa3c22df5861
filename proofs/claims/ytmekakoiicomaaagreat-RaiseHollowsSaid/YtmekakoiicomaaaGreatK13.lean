/- Rs4 Qb2 Pf3 Rs5 Rs6 Rs7 Rs8 Rh3 Rh4 Rh5 Rh6 Rh7 Rh8 Rh9 Pt8a Rh10 Pt6a Ru1 -/
import Derived.Test.YtmekakoiicomaaaGreatK12
namespace Go.Sh
open Go Go.Am
theorem qto {α β γ : Type} (l : List α) (_ : l.length≤1000000) (g : γ→α→γ) (fin : γ→β) (f : γ × Int→Option ((γ × Int) ⊕ β))
    (hs : ∀ k (h : k < l.length) (s : γ),f (s,(k : Int)) = some (.inl (g s l[k],((k + 1 : Nat) : Int)))) (hd : ∀ s,f (s,(l.length : Int)) = some (.inr (fin s))) (s : γ) :
    loop f (s,0) = some (fin (l.foldl g s)):=by
  have key:=Z6 (f:=f) (fun k=>((l.take k).foldl g s,(k : Int))) l.length (fin (l.foldl g s)) (fun k a=>by
    rw [hs k a,List.take_succ_eq_append_getElem a,List.foldl_append];rfl) (by rw [List.take_length,hd]) (Nat.zero_le _)
  exact key
theorem qiz (x : Int) : w64 x = if 9223372036854775808≤x % 18446744073709551616 then x % 18446744073709551616 - 18446744073709551616 else x % 18446744073709551616:=by
  unfold w64 IntKind.wrap;simp [IntKind.bits,IntKind.signed]
theorem q16z (x y : Int) (h : x % 18446744073709551616 = y % 18446744073709551616) : w64 x = w64 y:=by rw [qiz,qiz,h]
theorem q170 (x : Int) : w64 x % 18446744073709551616 = x % 18446744073709551616:=by rw [qiz];split <;> omega
theorem q16y (a b : Int) : w64 (w64 a + b) = w64 (a + b):=q16z _ _ (by have:=q170 a;omega)
theorem qym {x y z : Int} (c : 0≤x∧x≤2000000) (a : 0≤y∧y≤2000000) (b : 0≤z∧z≤2000000) : (0≤x * y∧x * y≤4000000000000)∧0≤x * y * z∧x * y * z≤8000000000000000000:=by
  have d : 0≤x * y:=Int.mul_nonneg c.1 a.1;have f : x * y≤2000000 * 2000000:=Int.mul_le_mul c.2 a.2 a.1 q6;have h : 0≤x * y * z:=Int.mul_nonneg d b.1;have g : x * y * z≤4000000000000 * 2000000:=Int.mul_le_mul q6 b.2 b.1 q6;omega
theorem q16x {b : qk} (h : vB b) : w64 ((w64 ((w64 (b.Hi.X - b.Lo.X)) * (w64 (b.Hi.Y - b.Lo.Y)))) * (w64 (b.Hi.Z - b.Lo.Z))) = volB b:=by
  unfold vB at h;rw [Qm (x:=b.Hi.X - b.Lo.X) q6,Qm (x:=b.Hi.Y - b.Lo.Y) q6,Qm (x:=b.Hi.Z - b.Lo.Z) q6];have:=qym (x:=b.Hi.X - b.Lo.X) (y:=b.Hi.Y - b.Lo.Y) (z:=b.Hi.Z - b.Lo.Z) q6 q6 q6;rw [Qm (x:=(b.Hi.X - b.Lo.X) * (b.Hi.Y - b.Lo.Y)) q6,Qm q6];rfl
theorem qle {α : Type} (f : α→Int) : ∀ (l : List α) (n m : Int),n = w64 m→l.foldl (fun n b=>w64 (n + f b)) n = w64 (m + sumL f l)
  | [],n,m,h=>by simp [sumL,h]
  | b::l,n,m,h=>by
    rw [List.foldl_cons,qle f l _ (m + f b) (by rw [h,q16y]),sumL,Int.add_assoc]
theorem qld {α γ : Type} {f g : γ→α→γ} : ∀ {l : List α} {s : γ},(∀ b∈l,∀ s,f s b = g s b)→l.foldl f s = l.foldl g s
  | [],_,_=>rfl
  | b::l,s,h=>by rw [List.foldl_cons,List.foldl_cons,h b qg,qld fun c a=>h c (by simp [a])]
theorem qsh (N : Nat) (P : Int→Int→Int→Prop) : 0≤cnt3 N P∧cnt3 N P≤2 * N * (2 * N * (2 * N * 1)):=by
  constructor
  · exact qiw fun x _ _=>qiw fun y _ _=>qiw fun z _ _=>qmc.1
  · rw [← qiu (N:=N) (c:=1),← qiu,← qiu];exact qfg fun x _ _=>qfg fun y _ _=>qfg fun z _ _=>qmc.2
theorem q16t {l : List qk} (h : Kh l = 0) : 0≤volL l∧volL l≤8000000000000000000:=by
  obtain ⟨c,b,a⟩:=J1.1 h;rw [q16u a b];have:=qsh 1000000 (hasB l);omega
noncomputable def volume (l : List qk) : Int × Int:=if Kh l≠0 then (0,Kh l) else (volL l,0)
theorem q16w {l : List qk} (h : Kh l = 0) : l.foldl (fun n b=>w64 (n + w64 ((w64 ((w64 (b.Hi.X - b.Lo.X)) * (w64 (b.Hi.Y - b.Lo.Y)))) * (w64 (b.Hi.Z - b.Lo.Z))))) 0 = volL l:=by
  obtain ⟨c,a,d⟩:=J1.1 h;rw [qld (g:=fun n b=>w64 (n + volB b)) fun b hb s=>by rw [q16x (a b hb)]];rw [qle volB l 0 0 (by rw [Qm q6])];have:=q16t h;rw [Qm (by unfold volL at this;omega),Int.zero_add];rfl
theorem q15c (l : List qk) : q8t l = some (volume l):=by
  unfold q8t volume;rw [qcm,qn];by_cases h : Kh l = 0
  · rw [Q2 (by simp [h]),h,show ((0 : Int) != 0) = false from rfl,Q4];have c:=(J1.1 h).1
    rw [qto l q6 (fun n b=>w64 (n + w64 ((w64 ((w64 (b.Hi.X - b.Lo.X)) * (w64 (b.Hi.Y - b.Lo.Y)))) * (w64 (b.Hi.Z - b.Lo.Z))))) (fun n=>n) (q8u l) (fun k a s=>by
      simp only [q8u,dlt a,Q5,K3 a,qn,qf8,w64s a q6]) (fun s=>by simp only [q8u,dnl,Q4]) 0,q16w h]
    rfl
  · have : (Kh l != 0) = true:=by simpa using h
    rw [Q1 h,this,Q5]
theorem qu8 {b : qk} {l : List qk} {x y z : Int} : hasB (b::l) x y z↔inB b x y z∨hasB l x y z:=by
  constructor
  · rintro ⟨c,a,h⟩;rcases List.mem_cons.1 a with rfl | a
    · exact .inl h
    · exact .inr ⟨c,a,h⟩
  · rintro (h | ⟨c,a,h⟩)
    · exact ⟨b,qg,h⟩
    · exact ⟨c,by simp [a],h⟩
instance (b : qk) (x y z : Int) : Decidable (inB b x y z):=by unfold inB;infer_instance
instance qsy : (l : List qk)→(x y z : Int)→Decidable (hasB l x y z)
  | [],x,y,z=>isFalse (qdy x y z)
  | b::l,x,y,z=>by
    have:=qsy l x y z
    exact decidable_of_iff _ qu8.symm
theorem q154 (b : qk) (v : Q0) : q5y b v = some (decide (inB b v.X v.Y v.Z)):=by
  unfold q5y inB;by_cases f : b.Lo.X≤v.X <;> by_cases c : v.X < b.Hi.X <;> by_cases h : b.Lo.Y≤v.Y <;> by_cases d : v.Y < b.Hi.Y <;> by_cases g : b.Lo.Z≤v.Z <;> by_cases a : v.Z < b.Hi.Z <;> simp [f,c,h,d,g,a]
theorem q156 (l : List qk) (v : Q0) (f : l.length≤1000000) : qcn l v = some (decide (hasB l v.X v.Y v.Z)):=by
  unfold qcn q5l qb2
  rcases q1u l (fun b=>decide (inB b v.X v.Y v.Z)) (fun k _=>(k : Int)) () (q2e l (fun c=>q5y c v)) (fun k a=>by
    simp only [q2e,dlt a,Q5,K3 a,qn,q154,w64s a f]
    by_cases d : inB l[k] v.X v.Y v.Z <;> simp [d]) (by simp only [q2e,dnl,Q4]) with ⟨h1,h2⟩ | ⟨k,a,hc,_,h2⟩
  · rw [h2];simp only [qn];congr 1;rw [show decide ((-1 : Int) ≥ 0) = false from rfl];refine (Qs ?_).symm;rintro ⟨b,hb,h⟩;have:=h1 b hb;simp at this;exact this h
  · rw [h2];simp only [qn];congr 1;rw [Qr (by omega : (k : Int) ≥ 0)];refine (Qr ?_).symm;exact ⟨l[k],Kf a,of_decide_eq_true hc⟩
end Go.Sh
namespace Go.Sh
open Go Go.Am
end Go.Sh
namespace Go.Sh
open Go Go.Am
abbrev V3:=Q0 × Q0 × Q0
def zeroV : Q0:=⟨0,0,0⟩
noncomputable def axT (t : Nat) : V3:=match q3a (t : Int) with
  | some m=>m
  | none=>(zeroV,zeroV,zeroV)
theorem qdt : ∀ t : Nat,t < 24→q3a (t : Int) = some (axT t):=by decide +kernel
def Zs (v : Q0) : Prop:=-1≤v.X∧v.X≤1∧-1≤v.Y∧v.Y≤1∧-1≤v.Z∧v.Z≤1
instance (v : Q0) : Decidable (Zs v):=by unfold Zs;infer_instance
theorem qfx : ∀ t : Nat,t < 24→Zs (axT t).1∧Zs (axT t).2.1∧Zs (axT t).2.2:=by decide +kernel
theorem qr2 : ∀ t : Nat,t < 24→∀ u : Nat,u < 24→axT t = axT u→t = u:=by decide +kernel
theorem qr3 : axT 0 = (⟨1,0,0⟩,⟨0,1,0⟩,⟨0,0,1⟩):=by decide +kernel
def mulV (m : V3) (v : Q0) : Q0:=⟨v.X * m.1.X + v.Y * m.2.1.X + v.Z * m.2.2.X,v.X * m.1.Y + v.Y * m.2.1.Y + v.Z * m.2.2.Y,v.X * m.1.Z + v.Y * m.2.1.Z + v.Z * m.2.2.Z⟩
def addV (a b : Q0) : Q0:=⟨a.X + b.X,a.Y + b.Y,a.Z + b.Z⟩
def J9 (v : Q0) (n : Int) : Prop:=-n≤v.X∧v.X≤n∧-n≤v.Y∧v.Y≤n∧-n≤v.Z∧v.Z≤n
theorem qvn {a b : Int} {n : Int} (c : -n≤a∧a≤n) (hb : -1≤b∧b≤1) : -n≤a * b∧a * b≤n:=by
  have : b = -1∨b = 0∨b = 1:=by omega
  rcases this with rfl | rfl | rfl <;> simp <;> omega
theorem qn5 {m : V3} {v : Q0} {n : Int} (c : Zs m.1∧Zs m.2.1∧Zs m.2.2) (d : J9 v n) :
    (∀ a∈[v.X * m.1.X,v.Y * m.2.1.X,v.Z * m.2.2.X,v.X * m.1.Y,v.Y * m.2.1.Y,v.Z * m.2.2.Y,v.X * m.1.Z,v.Y * m.2.1.Z,v.Z * m.2.2.Z],-n≤a∧a≤n):=by
  obtain ⟨⟨w,x,a3,f,a5,u⟩,⟨b1,p,t,q,g,l⟩,⟨c1,c2,c3,c4,o,y⟩⟩:=c;obtain ⟨z,j,h,r,s,k⟩:=d;intro a b;simp only [List.mem_cons,List.not_mem_nil,or_false] at b;rcases b with rfl | rfl | rfl | rfl | rfl | rfl | rfl | rfl | rfl <;> exact qvn ⟨by assumption,by assumption⟩ ⟨by assumption,by assumption⟩
theorem qvm {m : V3} {v : Q0} {n : Int} (a : Zs m.1∧Zs m.2.1∧Zs m.2.2) (c : J9 v n) : J9 (mulV m v) (3 * n):=by
  have b:=qn5 a c;simp only [List.mem_cons,List.not_mem_nil,or_false,forall_eq_or_imp,forall_eq] at b;unfold J9 mulV;simp only;omega
theorem qdw {m : V3} {v : Q0} (a : Zs m.1∧Zs m.2.1∧Zs m.2.2) (c : J9 v 1000000000000) : q6k m v = some (mulV m v):=by
  have b:=qn5 a c;simp only [List.mem_cons,List.not_mem_nil,or_false,forall_eq_or_imp,forall_eq] at b;unfold q6k mulV;congr 2
  · rw [Qm (x:=v.X * m.1.X) q6,Qm (x:=v.Y * m.2.1.X) q6,Qm (x:=v.Z * m.2.2.X) q6,Qm (x:=v.X * m.1.X + _) q6,Qm q6]
  · rw [Qm (x:=v.X * m.1.Y) q6,Qm (x:=v.Y * m.2.1.Y) q6,Qm (x:=v.Z * m.2.2.Y) q6,Qm (x:=v.X * m.1.Y + _) q6,Qm q6]
  · rw [Qm (x:=v.X * m.1.Z) q6,Qm (x:=v.Y * m.2.1.Z) q6,Qm (x:=v.Z * m.2.2.Z) q6,Qm (x:=v.X * m.1.Z + _) q6,Qm q6]
noncomputable def J5 (t : Nat) (at_ v : Q0) : Q0:=addV (mulV (axT t) v) at_
theorem qtx {f : Ka} {t : Nat} {v : Q0} (g : f.Turn = t) (h : t < 24) (d : J9 f.At 1000000000000) (a : J9 v 1000000000000) : q9q f v = some (J5 t f.At v):=by
  have c:=qfx t h;unfold q9q;rw [g,qdt t h];simp only [qn,qdw c a];have b:=qvm c a;unfold J9 at b d;unfold J5 addV;rw [Qm q6,Qm q6,Qm q6]
theorem qvo {u : Nat} (h : u < 24) : q9r (axT u) = some (u : Int):=by
  have key:=J6 (f:=q6j (axT u)) (σ:=Unit) (fun k _=>(k : Int)) 24 (fun k _=>k≤u) (fun b=>b = .inr (u : Int)) ?_ ?_ (k0:=0) (c0:=()) q6 q6
  · obtain ⟨b,j,rfl⟩:=key;have j : loop (q6j (axT u)) 0 = some (.inr (u : Int)):=j;unfold q9r;rw [j];rfl
  · intro k _ l n;have hb : decide ((k : Int) < 24) = true:=Qr q6;simp only [q6j,hb,Q5,qdt k l,qn];by_cases e : k = u
    · subst e;exact .inr ⟨.inr (k : Int),qg,rfl⟩
    · have g : axT k≠axT u:=fun o=>e (qr2 k l u h o);refine .inl ⟨(),?_,q6⟩
      have m : IntKind.u8.wrap ((k : Int) + 1) = ((k + 1 : Nat) : Int):=by
        simp [IntKind.wrap,IntKind.bits,IntKind.signed];omega
      have d : ((axT k).1.X == (axT u).1.X && ((axT k).1.Y == (axT u).1.Y && ((axT k).1.Z == (axT u).1.Z && ((axT k).2.1.X == (axT u).2.1.X && ((axT k).2.1.Y == (axT u).2.1.Y && ((axT k).2.1.Z == (axT u).2.1.Z && ((axT k).2.2.X == (axT u).2.2.X && ((axT k).2.2.Y == (axT u).2.2.Y && ((axT k).2.2.Z == (axT u).2.2.Z && true))))))))) = false:=by
        rw [Bool.eq_false_iff];intro c;simp only [Bool.and_eq_true,beq_iff_eq] at c;apply g;generalize axT k = a at c ⊢;generalize axT u = b at c ⊢;obtain ⟨⟨a1,a2,a3⟩,⟨p,a5,a6⟩,⟨t,q,v⟩⟩:=a;obtain ⟨⟨b1,y,z⟩,⟨x,s,w⟩,⟨r,b8,b9⟩⟩:=b;simp only at c;obtain ⟨rfl,rfl,rfl,rfl,rfl,rfl,rfl,rfl,rfl,_⟩:=c;rfl
      rw [d,m];rfl
  · intro _ hi;omega
def qke (n m : V3) : V3:=(mulV n m.1,mulV n m.2.1,mulV n m.2.2)
noncomputable def Uh (t u : Nat) : Nat:=match (List.range 24).find? (fun v=>decide (axT v = qke (axT u) (axT t))) with
  | some v=>v
  | none=>0
theorem qsl : ∀ t : Nat,t < 24→∀ u : Nat,u < 24→Uh t u < 24∧axT (Uh t u) = qke (axT u) (axT t):=by decide +kernel
theorem qsm : ∀ u : Nat,u < 24→Uh 0 u = u:=by decide +kernel
theorem qiy {v : Q0} (h : Zs v) : J9 v 1000000000000:=by unfold Zs at h;unfold J9;omega
theorem q176 {f g : Ka} {t u : Nat} (l : f.Turn = t) (c : g.Turn = u) (h : t < 24) (a : u < 24) (d : J9 f.At 1000000000000) (n : J9 g.At 1000000000000) : q9s f g = some ⟨(Uh t u : Nat),J5 u g.At f.At⟩:=by
  have b:=qfx u a;obtain ⟨b1,j,m⟩:=qfx t h;unfold q9s;rw [l,c,qdt t h,qdt u a];simp only [qn];have k:=qdw b (qiy b1);have p:=qdw b (qiy j);have o:=qdw b (qiy m)
  have key : loop (q3b (axT u)) (0,[(axT t).1,(axT t).2.1,(axT t).2.2]) = some [mulV (axT u) (axT t).1,mulV (axT u) (axT t).2.1,mulV (axT u) (axT t).2.2]:=by
    rw [Kn (a':=((1 : Int),[mulV (axT u) (axT t).1,(axT t).2.1,(axT t).2.2])) (by simp [q3b,idxA,k,Qm])];rw [Kn (a':=((2 : Int),[mulV (axT u) (axT t).1,mulV (axT u) (axT t).2.1,(axT t).2.2])) (by simp [q3b,idxA,p,Qm])];rw [Kn (a':=((3 : Int),[mulV (axT u) (axT t).1,mulV (axT u) (axT t).2.1,mulV (axT u) (axT t).2.2])) (by simp [q3b,idxA,o,Qm])];exact Km (by simp [q3b])
  rw [key];simp only [qn,arr3];obtain ⟨c1,c2⟩:=qsl t h u a;have : (mulV (axT u) (axT t).1,mulV (axT u) (axT t).2.1,mulV (axT u) (axT t).2.2) = axT (Uh t u):=c2.symm;rw [this,qvo c1,qtx c a n d];rfl
def InV (v : Q0) (lo : Int) : Prop:=lo≤v.X∧v.X≤1000000∧lo≤v.Y∧v.Y≤1000000∧lo≤v.Z∧v.Z≤1000000
instance (v : Q0) (lo : Int) : Decidable (InV v lo):=by unfold InV;infer_instance
theorem qgl (v : Q0) (lo : Int) : q4c v lo = some (decide (InV v lo)):=by
  unfold q4c;by_cases a : min (min v.X v.Y) v.Z ≥ lo
  · by_cases b : max (max v.X v.Y) v.Z≤1000000
    · have : InV v lo:=by unfold InV;omega
      simp only [Qr a,Qr b,Qr this,Q5,qn]
    · have : ¬ InV v lo:=by unfold InV;omega
      simp only [Qr a,Qs b,Qs this,Q5,qn]
  · have : ¬ InV v lo:=by unfold InV;omega
    simp only [Qs a,Qs this,Q4,qn]
def FOk (f : Ka) : Prop:=f.Turn < 24∧InV f.At (-1000000)
instance (f : Ka) : Decidable (FOk f):=by unfold FOk;infer_instance
def SOk (s : K0) : Prop:=FOk s.Frame∧InV s.Size 0
instance (s : K0) : Decidable (SOk s):=by unfold SOk;infer_instance
theorem qk2 {P Q : Prop} [Decidable P] [Decidable Q] {R : Prop} [Decidable R] (h : R↔P∧Q) : ((cond (decide (¬ P)) (some true) ((some (decide Q)).bind fun a=>some (!a))).bind fun c3=>cond c3 (some (8 : Int)) (some 0)) = some (if R then 0 else 8):=by
  by_cases p : P <;> by_cases q : Q <;> simp [p,q,h]
theorem q9m (f : Ka) : q2n f = some (if FOk f then 0 else 8):=by
  unfold q2n;rw [qgl];have e : decide (f.Turn ≥ 24) = decide (¬ f.Turn < 24):=by rw [decide_eq_decide];omega
  rw [e];exact qk2 Iff.rfl
theorem qvr {P : Prop} [Decidable P] {a : Int} (h : a≠0) : ((if P then (0 : Int) else a) != 0) = decide (¬ P):=by
  by_cases p : P <;> simp [p,h]
theorem ql3 (s : K0) : q9p s = some (if SOk s then 0 else 8):=by
  unfold q9p;rw [q9m,qgl];simp only [qn,qvr (show (8 : Int)≠0 by omega)];exact qk2 Iff.rfl
theorem qma {v : Q0} {lo : Int} (h : InV v lo) (a : -1000000≤lo) : J9 v 1000000000000:=by unfold InV at h;unfold J9;omega
def q17e : Ka:=⟨0,⟨0,0,0⟩⟩
def Z2 : K0:=⟨⟨0,⟨0,0,0⟩⟩,⟨0,0,0⟩⟩
theorem qqn {f g : Ka} {t u : Nat} (l : f.Turn = t) (k : g.Turn = u) (a : FOk f) (d : FOk g) :
    q9o f g = some (if FOk ⟨(Uh t u : Nat),J5 u g.At f.At⟩ then (⟨(Uh t u : Nat),J5 u g.At f.At⟩,0) else (q17e,16)):=by
  unfold q9o;rw [q9m,q9m,Q1 a,Q1 d];have j : ((0 : Int) != 0) = false:=rfl;simp only [qn,j,Q4];have b : t < 24:=by have:=a.1;omega
  have c : u < 24:=by have:=d.1;omega
  rw [q176 l k b c (qma a.2 q6) (qma d.2 q6)];simp only [qn,q9m];by_cases h : FOk ⟨(Uh t u : Nat),J5 u g.At f.At⟩
  · simp only [Q1 h];rfl
  · simp only [Q2 h];rfl
theorem qj9 {s : K0} {a z : Q0} {t u : Nat} (j : s.Frame.Turn = u) (hs : SOk s) (d : t < 24) (c : InV a (-1000000)) (k : InV z 0) :
    Jx s a z (t : Int) = some (if FOk ⟨(Uh t u : Nat),J5 u s.Frame.At a⟩ then (⟨⟨(Uh t u : Nat),J5 u s.Frame.At a⟩,z⟩,0) else (Z2,16)):=by
  unfold Jx;have b : FOk ⟨(t : Int),a⟩:=⟨by show (t : Int) < 24;omega,c⟩
  rw [ql3,Q1 hs,q9m,Q1 b,qgl,Qr k];have g : ((0 : Int) != 0) = false:=rfl;simp only [qn,g,Q4,Bool.not_true];rw [qqn (f:=⟨(t : Int),a⟩) rfl j b hs.1];by_cases h : FOk ⟨(Uh t u : Nat),J5 u s.Frame.At a⟩
  · simp only [Q1 h];rfl
  · simp only [Q2 h];rfl
theorem qqj {s : K0} {a z : Q0} {t : Int} (hs : ¬ SOk s) : Jx s a z t = some (Z2,8):=by
  unfold Jx;rw [ql3,Q2 hs];rfl
theorem quf (u : Nat) (a : Q0) : J5 u a ⟨0,0,0⟩ = a:=by
  unfold J5 addV mulV;simp
end Go.Sh
namespace Go.Sh
open Go Go.Am
noncomputable def qez (l : List qk) (z : Int) : List qf × Int:=if Kh l≠0 then ([],Kh l) else (atB l z,0)
theorem q15a (l : List qk) (z : Int) : qcp l z = some (qez l z):=by
  unfold qcp qez;rw [qcm,qn];by_cases h : ¬ Kh l = 0
  · have : (Kh l != 0) = true:=by simpa using h
    rw [Q1 h,this,Q5]
  replace h:=Classical.not_not.1 h;have a:=(J1.1 h).1;rw [Q2 (by simp [h]),h,show ((0 : Int) != 0) = false from rfl,Q4];have e : qf7 = q2g:=rfl;rw [e,q44 l a z];rfl
def rowOk (a b c : Int) : Prop:=(a = 1∧b = 0∧c = 0)∨(a = -1∧b = 0∧c = 0)∨(a = 0∧b = 1∧c = 0)∨(a = 0∧b = -1∧c = 0)∨(a = 0∧b = 0∧c = 1)∨(a = 0∧b = 0∧c = -1)
instance (a b c : Int) : Decidable (rowOk a b c):=by unfold rowOk;infer_instance
def q15o (p q : Q0) : qk:={Lo:=({X:=min p.X q.X,Y:=min p.Y q.Y,Z:=min p.Z q.Z} : Q0),Hi:=({X:=max p.X q.X,Y:=max p.Y q.Y,Z:=max p.Z q.Z} : Q0)}
noncomputable def qny (t : Nat) (at_ : Q0) (b : qk) : qk:=q15o (J5 t at_ b.Lo) (J5 t at_ b.Hi)
noncomputable def place (l : List qk) (f : Ka) : List qk × Int:=
  if Kh l≠0 then ([],Kh l) else if ¬ FOk f then ([],8) else if ∀ b∈l,vB (qny f.Turn.toNat f.At b) then mkB (l.map (qny f.Turn.toNat f.At)) else ([],16)
end Go.Sh
namespace Go.Sh
open Go Go.Am
end Go.Sh
namespace Go.Sh
open Go Go.Am
def grpR : List qf→List (Grp ql)
  | []=>[]
  | r::l=>match grpR l with
    | g::gs=>if g.lo = r.X0∧g.hi = r.X1 then ⟨g.lo,g.hi,ysp r::g.sec⟩::gs else ⟨r.X0,r.X1,[ysp r]⟩::g::gs
    | []=>[⟨r.X0,r.X1,[ysp r]⟩]
def grpB : List qk→List (Grp qf)
  | []=>[]
  | r::l=>match grpB l with
    | g::gs=>if g.lo = r.Lo.Z∧g.hi = r.Hi.Z then ⟨g.lo,g.hi,U8 r::g.sec⟩::gs else ⟨r.Lo.Z,r.Hi.Z,[U8 r]⟩::g::gs
    | []=>[⟨r.Lo.Z,r.Hi.Z,[U8 r]⟩]
theorem qlx : ∀ l : List qf,K7 putR (grpR l) = l
  | []=>rfl
  | r::l=>by
    have a:=qlx l
    unfold grpR
    split
    · rename_i g d h
      rw [h] at a
      split
      · rename_i b
        obtain ⟨b,c⟩:=b
        rw [← a]
        simp only [K7,List.flatMap_cons,List.map_cons,List.cons_append,b,c]
        congr 1
      · rw [← a];rfl
    · rename_i h
      rw [h] at a
      rw [← a];rfl
theorem qlw : ∀ l : List qk,K7 putB (grpB l) = l
  | []=>rfl
  | r::l=>by
    have a:=qlw l
    unfold grpB
    split
    · rename_i g d h
      rw [h] at a
      split
      · rename_i b
        obtain ⟨b,c⟩:=b
        rw [← a]
        simp only [K7,List.flatMap_cons,List.map_cons,List.cons_append,b,c]
        congr 1
      · rw [← a];rfl
    · rename_i h
      rw [h] at a
      rw [← a];rfl
instance {σ : Type} [DecidableEq σ] (gs : List (Grp σ)) : Decidable (CanG gs):=by unfold CanG;infer_instance
instance (s : List ql) : Decidable (Can s):=by unfold Can;infer_instance
def isR (l : List qf) : Prop:=CanG (grpR l)∧∀ g∈grpR l,Can g.sec
instance (l : List qf) : Decidable (isR l):=by unfold isR;infer_instance
def isB (l : List qk) : Prop:=CanG (grpB l)∧∀ g∈grpB l,isR g.sec
instance (l : List qk) : Decidable (isB l):=by unfold isB;infer_instance
theorem isR.can {l : List qf} (h : isR l) : CanR l:=⟨grpR l,(qlx l).symm,h.1,h.2⟩
theorem isB.can {l : List qk} (h : isB l) : CanB l:=⟨grpB l,(qlw l).symm,h.1,fun g a=>(h.2 g a).can⟩
theorem qjy {l : List qk} (h : l.length≤400∧(∀ b∈l,vB b)∧isB l) : Kh l = 0:=J1.2 ⟨h.1,h.2.1,h.2.2.can⟩
theorem qvi {kind : Int} {p q out : List qk} (h : p.length + q.length≤100000) (a : CanB out) (b : ∀ x y z,Y9 kind (hasB p x y z) (hasB q x y z)↔hasB out x y z) : mrgB kind p q = out:=
  qjs (qhk kind h) a fun x y z=>by rw [qgw kind h];exact b x y z
theorem qun {kind : Int} {p q out : List qk} (hp : Kh p = 0) (a : Kh q = 0) (b : CanB out) (d : out.length≤400) (c : ∀ x y z,Y9 kind (hasB p x y z) (hasB q x y z)↔hasB out x y z) : jB kind p q = (out,0):=by
  have f:=(J1.1 hp).1;have g:=(J1.1 a).1;have e:=qvi (kind:=kind) (p:=p) (q:=q) q6 b c;unfold jB;rw [Q2 (by simp [hp]),Q2 (by simp [a]),e,Q2 q6]
def bx (x y z u v w : Int) : qk:={Lo:=({X:=x,Y:=y,Z:=z} : Q0),Hi:=({X:=u,Y:=v,Z:=w} : Q0)}
instance (kind : Int) (a b : Prop) [Decidable a] [Decidable b] : Decidable (Y9 kind a b):=by unfold Y9;infer_instance
end Go.Sh
namespace Go.Sh
open Go Go.Am
end Go.Sh
namespace Go.Sh
open Go Go.Am
def Nb (a b : qf) : Prop:=(a.X0 = b.X0∧a.X1 = b.X1∧a.Y1≤b.Y0)∨a.X1≤b.X0
theorem qdf {l : List qf} (h : CanR l) : l.Pairwise Nb:=by
  obtain ⟨o,rfl,j,f⟩:=h;unfold K7;rw [List.pairwise_flatMap];refine ⟨fun g m=>?_,j.2.imp fun {g k} c a d b hb=>?_⟩
  · rw [List.pairwise_map];exact (f g m).2.imp fun {a b} n=>.inl ⟨rfl,rfl,by unfold putR;simp only;omega⟩
  · obtain ⟨x,_,rfl⟩:=List.mem_map.1 d;obtain ⟨y,_,rfl⟩:=List.mem_map.1 hb;exact .inr c.1
def Ze (s : Int × Int × Int × Int) (v : qf) : Int × Int × Int × Int:=(min s.1 v.X0,min s.2.1 v.Y0,max s.2.2.1 v.X1,max s.2.2.2 v.Y1)
def Kb : List qf→qf
  | []=>⟨0,0,0,0⟩
  | r::l=>let t:=(r::l).foldl Ze (r.X0,r.Y0,r.X1,r.Y1);⟨t.1,t.2.1,t.2.2.1,t.2.2.2⟩
theorem qm7 : ∀ (l : List qf) (s : Int × Int × Int × Int),((l.foldl Ze s).1≤s.1∧(l.foldl Ze s).2.1≤s.2.1∧s.2.2.1≤(l.foldl Ze s).2.2.1∧s.2.2.2≤(l.foldl Ze s).2.2.2)∧
    ∀ v∈l,(l.foldl Ze s).1≤v.X0∧(l.foldl Ze s).2.1≤v.Y0∧v.X1≤(l.foldl Ze s).2.2.1∧v.Y1≤(l.foldl Ze s).2.2.2
  | [],s=>⟨⟨Int.le_refl _,Int.le_refl _,Int.le_refl _,Int.le_refl _⟩,qg⟩
  | r::l,s=>by
    obtain ⟨c,b⟩:=qm7 l (Ze s r)
    have e : Ze s r = (min s.1 r.X0,min s.2.1 r.Y0,max s.2.2.1 r.X1,max s.2.2.2 r.Y1):=rfl
    rw [List.foldl_cons]
    rw [e] at c b ⊢
    simp only at c
    refine ⟨⟨q6,q6,q6,q6⟩,fun v a=>?_⟩
    rcases List.mem_cons.1 a with rfl | a
    · exact ⟨q6,q6,q6,q6⟩
    · exact b v a
theorem qm8 {a b c d : Int} : ∀ (l : List qf) (s : Int × Int × Int × Int),(a≤s.1∧b≤s.2.1∧s.2.2.1≤c∧s.2.2.2≤d)→(∀ v∈l,a≤v.X0∧b≤v.Y0∧v.X1≤c∧v.Y1≤d)→
    a≤(l.foldl Ze s).1∧b≤(l.foldl Ze s).2.1∧(l.foldl Ze s).2.2.1≤c∧(l.foldl Ze s).2.2.2≤d
  | [],s,h,_=>h
  | r::l,s,h,hl=>by
    have g:=hl r qg
    rw [List.foldl_cons]
    refine qm8 l _ ?_ fun v f=>hl v (by simp [f])
    unfold Ze
    simp only
    omega
theorem q26 {l : List qf} : ∀ v∈l,(Kb l).X0≤v.X0∧(Kb l).Y0≤v.Y0∧v.X1≤(Kb l).X1∧v.Y1≤(Kb l).Y1:=by
  cases l with
  | nil=>simp
  | cons r l=>exact fun v a=>(qm7 (r::l) (r.X0,r.Y0,r.X1,r.Y1)).2 v a
theorem qh5 {a b c d : Int} {l : List qf} (f : l≠[]) (h : ∀ v∈l,a≤v.X0∧b≤v.Y0∧v.X1≤c∧v.Y1≤d) : a≤(Kb l).X0∧b≤(Kb l).Y0∧(Kb l).X1≤c∧(Kb l).Y1≤d:=by
  cases l with
  | nil=>exact absurd rfl f
  | cons r l=>exact qm8 (r::l) (r.X0,r.Y0,r.X1,r.Y1) (h r qg) h
theorem qzs {l : List qf} (b : Kr l = 0) (g : l≠[]) : qaq l = some (Kb l,0):=by
  obtain ⟨h,_,_⟩:=q2j.1 b;unfold qaq;rw [qao,b,qn,show ((0 : Int) != 0) = false from rfl,Q4]
  cases l with
  | nil=>exact absurd rfl g
  | cons r l=>
    have c : (((r::l).length : Int) == 0) = false:=by simp;omega
    have d : idx (r::l) 0 = some r:=rfl;rw [c,Q4,d,qn]
    have this : loop (q5g (r::l)) (0,r.X0,r.Y0,r.X1,r.Y1) = some ((r::l).foldl Ze (r.X0,r.Y0,r.X1,r.Y1)):=by
      have key:=Z6 (f:=q5g (r::l)) (fun k=>((k : Int),((r::l).take k).foldl Ze (r.X0,r.Y0,r.X1,r.Y1))) (r::l).length ((r::l).foldl Ze (r.X0,r.Y0,r.X1,r.Y1)) (fun k a=>by
        rw [List.take_succ_eq_append_getElem a,List.foldl_append];simp only [q5g,dlt a,Q5,K3 a,qn,w64s a (by omega : (r::l).length≤1000000)]
        rfl) (by rw [List.take_length];simp only [q5g,dnl,Q4]) (Nat.zero_le _)
      exact key
    rw [this];rfl
end Go.Sh
namespace Go.Sh
open Go Go.Am
def Z4 (o : List qf) (x : qf) : List qf:=if x.X0 < x.X1∧x.Y0 < x.Y1 then o ++ [x] else o
theorem qfr (x : qf) (o : List qf) (h : o.length≤100000) : q4q x o = some (Z4 o x):=by
  unfold q4q Z4;by_cases a : x.X0 < x.X1
  · by_cases b : x.Y0 < x.Y1
    · rw [Q1 ⟨a,b⟩];simp only [a,b,decide_true,Q5,qn];rw [Y3 (by simp;omega)];rfl
    · rw [Q2 (fun h=>b h.2)];simp only [a,b,decide_true,decide_false,Q5,Q4,qn]
  · rw [Q2 (fun h=>a h.1)];simp only [a,decide_false,Q4,qn]
theorem q69 (o : List qf) (x : qf) : (Z4 o x).length≤o.length + 1:=by unfold Z4;split <;> simp
theorem qqo {o : List qf} {r : qf} {x y : Int} : hasR (Z4 o r) x y↔hasR o x y∨(r.X0≤x∧x < r.X1∧r.Y0≤y∧y < r.Y1):=by
  unfold Z4;split
  · unfold hasR;constructor
    · rintro ⟨t,a,h⟩;rcases List.mem_append.1 a with a | a
      · exact .inl ⟨t,a,h⟩
      · obtain rfl:=List.mem_singleton.1 a;exact .inr h
    · rintro (⟨t,a,h⟩ | h)
      · exact ⟨t,by simp [a],h⟩
      · exact ⟨r,qg,h⟩
  · rename_i b;exact ⟨.inl,fun h=>h.elim (fun h=>h) fun h=>absurd (⟨q6,q6⟩ : r.X0 < r.X1∧r.Y0 < r.Y1) b⟩
theorem qqp {o : List qf} {r t : qf} (h : t∈Z4 o r) : t∈o∨(t = r∧r.X0 < r.X1∧r.Y0 < r.Y1):=by
  unfold Z4 at h;split at h
  · rename_i a;rcases List.mem_append.1 h with h | h
    · exact .inl h
    · exact .inr ⟨List.mem_singleton.1 h,a⟩
  · exact .inl h
def inHo (h t : qf) : Prop:=(h.X0≤t.X0∧t.X0 < t.X1∧t.X1≤h.X1)∧(h.Y0≤t.Y0∧t.Y0 < t.Y1∧t.Y1≤h.Y1)
def endS (l : List qf) (k : Nat) : Prop:=∀ (h1 : k - 1 < l.length) (h2 : k < l.length),l[k].X0≠l[k - 1].X0
def qt1 (l : List qf) (k : Nat) (x y : Int) : Prop:=∃ (h0 : 0 < k) (h1 : k - 1 < l.length),x < l[k - 1].X0∨(x < l[k - 1].X1∧(y < l[k - 1].Y1∨endS l k))
structure Miss (l : List qf) (h : qf) (k : Nat) (o : List qf) : Prop where
  pts : ∀ x y,hasR o x y↔(h.X0≤x∧h.Y0≤y∧y < h.Y1)∧qt1 l k x y∧¬ hasR l x y
  box : ∀ t∈o,inHo h t
  len : o.length≤3 * k
def fstB (l : List qf) (k : Nat) (hk : k < l.length) : Bool:=decide (k = 0∨l[k - 1].X0≠l[k].X0)
def lstB (l : List qf) (k : Nat) (hk : k < l.length) : Bool:=decide (if h2 : k + 1 < l.length then l[k + 1].X0≠l[k].X0 else True)
def Ut (l : List qf) (h : qf) (k : Nat) (hk : k < l.length) (o : List qf) : List qf:=
  let o1:=cond (fstB l k hk && decide (0 < k)) (Z4 o ⟨l[k - 1].X1,h.Y0,l[k].X0,h.Y1⟩) o
  let o2:=Z4 o1 ⟨l[k].X0,cond (fstB l k hk) h.Y0 l[k - 1].Y1,l[k].X1,l[k].Y0⟩
  cond (lstB l k hk) (Z4 o2 ⟨l[k].X0,l[k].Y1,l[k].X1,h.Y1⟩) o2
theorem qvg {l : List qf} {h : qf} (p : l.length≤1000) {k : Nat} (a : k < l.length) {o : List qf} (w : o.length≤3 * k) :
    q2r l (h,0) ((k : Int),o) = some (.inl (((k + 1 : Nat) : Int),Ut l h k a o)):=by
  have s : w64 ((l.length : Int) - 1) = (l.length : Int) - 1:=Qm q6;have g : w64 ((k : Int) + 1) = ((k + 1 : Nat) : Int):=w64s a q6
  have u : (cond ((k : Int) == 0) (some true) ((idx l (w64 ((k : Int) - 1))).bind fun d=>some (d.X0 != l[k].X0))) = some (fstB l k a):=by
    unfold fstB;by_cases b : k = 0
    · subst b;rfl
    · have t : ((k : Int) == 0) = false:=by simp;omega
      have hi : idx l (w64 ((k : Int) - 1)) = some l[k - 1]:=by rw [Qm q6];exact Zu q6 q6
      rw [t,Q4,hi,qn];congr 1;by_cases e : l[k - 1].X0 = l[k].X0 <;> simp [e,b]
  have r : (cond ((k : Int) == (l.length : Int) - 1) (some true) ((idx l ((k + 1 : Nat) : Int)).bind fun c=>some (c.X0 != l[k].X0))) = some (lstB l k a):=by
    unfold lstB;by_cases j : k + 1 < l.length
    · have : ((k : Int) == (l.length : Int) - 1) = false:=by simp;omega
      rw [this,Q4,K3 j,qn];congr 1;simp only [j,dif_pos];by_cases e : l[k + 1].X0 = l[k].X0 <;> simp [e]
    · have : ((k : Int) == (l.length : Int) - 1) = true:=by simp;omega
      rw [this,Q5];congr 1;simp [j]
  have v : decide ((k : Int) > 0) = decide (0 < k):=decide_eq_decide.2 q6;have hi : 0 < k→idx l (w64 ((k : Int) - 1)) = some l[k - 1]:=fun b=>by rw [Qm q6];exact Zu q6 q6
  have m : fstB l k a = false→0 < k:=fun h=>by
    unfold fstB at h;have:=of_decide_eq_false h;omega
  unfold q2r Ut;simp only [dlt a,Q5,K3 a,qn,s,g,u,r,v];have n:=fun x=>qfr x o q6;have q:=fun x y=>qfr x (Z4 o y) (by have:=q69 o y;omega);have f:=fun x y z=>qfr x (Z4 (Z4 o y) z) (by have:=q69 o y;have:=q69 (Z4 o y) z;omega)
  cases hb : fstB l k a with
  | true=>
    by_cases b : 0 < k
    · cases p : lstB l k a <;> simp only [Qr b,Q5,Q4,qn,hi b,Bool.not_true,Bool.true_and,n,q,f]
    · cases p : lstB l k a <;> simp only [Qs b,Q5,Q4,qn,Bool.not_true,Bool.true_and,n,q,f]
  | false=>
    have b:=m hb;cases p : lstB l k a <;> simp only [Q5,Q4,qn,hi b,Bool.not_false,Bool.false_and,n,q,f]
theorem qvl (l : List qf) (h : qf) (k : Nat) (a : k < l.length) (o : List qf) : (Ut l h k a o).length≤o.length + 3:=by
  unfold Ut;have d:=fun x=>q69 o x;have c:=fun x y=>q69 (Z4 o y) x;have b:=fun x y z=>q69 (Z4 (Z4 o y) z) x;cases fstB l k a <;> cases decide (0 < k) <;> cases lstB l k a <;> simp only [Bool.and_self,Bool.and_true,Bool.and_false,Bool.true_and,Bool.false_and,Q5,Q4] <;> grind
end Go.Sh
namespace Go.Sh
open Go Go.Am
theorem Uu {l : List qf} (c : l.Pairwise Nb) {i j : Nat} (hi : i < l.length) (b : j < l.length) (a : i < j) : Nb l[i] l[j]:=List.pairwise_iff_getElem.1 c i j hi b a
theorem qgx {l : List qf} {x y : Int} (h : hasR l x y) : ∃ (j : Nat) (a : j < l.length),l[j].X0≤x∧x < l[j].X1∧l[j].Y0≤y∧y < l[j].Y1:=by
  obtain ⟨r,b,h⟩:=h;obtain ⟨j,a,rfl⟩:=List.mem_iff_getElem.1 b;exact ⟨j,a,h⟩
theorem qvu {l : List qf} (a : l.Pairwise Nb) (g : ∀ r∈l,r.X0 < r.X1∧r.Y0 < r.Y1) {k : Nat} (b : k < l.length) (q : 0 < k) {x y : Int} (u : l[k - 1].X1≤x) (o : x < l[k].X0) : ¬ hasR l x y:=by
  intro h;obtain ⟨j,f,s,t,v,m⟩:=qgx h;have n:=g _ (Kf b);have p:=g _ (Kf (show k - 1 < l.length by omega));rcases Nat.lt_trichotomy j k with c | c | c
  · rcases Nat.lt_or_ge j (k - 1) with d | d
    · rcases Uu a f (show k - 1 < l.length by omega) d with e | e <;> omega
    · obtain rfl : j = k - 1:=by omega
      omega
  · subst c;omega
  · rcases Uu a b f c with e | e <;> omega
theorem qn6 {l : List qf} (b : l.Pairwise Nb) (m : ∀ r∈l,r.X0 < r.X1∧r.Y0 < r.Y1) {k : Nat} (f : k < l.length) {x y : Int} (h1 : l[k].X0≤x) (s : x < l[k].X1) (u : y < l[k].Y0)
    (h4 : k = 0∨l[k - 1].X0≠l[k].X0∨l[k - 1].Y1≤y) : ¬ hasR l x y:=by
  intro h;obtain ⟨j,g,w,z,a3,p⟩:=qgx h;have q:=m _ (Kf f);rcases Nat.lt_trichotomy j k with c | c | c
  · have t:=m _ (Kf (show k - 1 < l.length by omega));have v:=m _ (Kf g);have n:=Uu b (show k - 1 < l.length by omega) f q6;have a:=Uu b g f c;rcases Nat.lt_or_ge j (k - 1) with d | d
    · have o:=Uu b g (show k - 1 < l.length by omega) d;unfold Nb at n a o;omega
    · obtain rfl : j = k - 1:=by omega
      unfold Nb at n a;omega
  · subst c;omega
  · have a:=Uu b f g c;unfold Nb at a;omega
theorem qn7 {l : List qf} (g : l.Pairwise Nb) (n : ∀ r∈l,r.X0 < r.X1∧r.Y0 < r.Y1) {k : Nat} (b : k < l.length) {x y : Int} (v : l[k].X0≤x) (p : x < l[k].X1) (h3 : l[k].Y1≤y)
    (q : ∀ p : k + 1 < l.length,l[k + 1].X0≠l[k].X0) : ¬ hasR l x y:=by
  intro h;obtain ⟨j,m,a1,a2,z,a4⟩:=qgx h;have vk:=n _ (Kf b);have u:=n _ (Kf m);rcases Nat.lt_trichotomy j k with c | c | c
  · have f:=Uu g m b c;unfold Nb at f;omega
  · subst c;omega
  · have a : k + 1 < l.length:=by omega
    have w:=n _ (Kf a);have s:=Uu g b a q6;have o:=q a;unfold Nb at s;rcases Nat.lt_or_ge (k + 1) j with d | d
    · have t:=Uu g a m d;unfold Nb at t;omega
    · obtain rfl : j = k + 1:=by omega
      omega
end Go.Sh
namespace Go.Sh
open Go Go.Am
theorem qn4 {l : List qf} {h : qf} {k : Nat} {a : k < l.length} {o : List qf} {x y : Int} :
    hasR (Ut l h k a o) x y↔hasR o x y∨((fstB l k a = true∧0 < k)∧l[k - 1].X1≤x∧x < l[k].X0∧h.Y0≤y∧y < h.Y1)∨
      (l[k].X0≤x∧x < l[k].X1∧(cond (fstB l k a) h.Y0 l[k - 1].Y1)≤y∧y < l[k].Y0)∨(lstB l k a = true∧l[k].X0≤x∧x < l[k].X1∧l[k].Y1≤y∧y < h.Y1):=by
  have b:=fun (o : List qf) (r : qf)=>qqo (o:=o) (r:=r) (x:=x) (y:=y);unfold Ut;grind
theorem qlo {l : List qf} {k : Nat} {a : k < l.length} : fstB l k a = true↔k = 0∨l[k - 1].X0≠l[k].X0:=by unfold fstB;exact decide_eq_true_iff
theorem qe5 {l : List qf} {k : Nat} {a : k < l.length} : lstB l k a = true↔∀ b : k + 1 < l.length,l[k + 1].X0≠l[k].X0:=by
  unfold lstB;simp
def seen (l : List qf) (k : Nat) (hk : k < l.length) (x y : Int) : Prop:=x < l[k].X0∨(x < l[k].X1∧(y < l[k].Y1∨lstB l k hk = true))
theorem qve {l : List qf} {h : qf} (j : l.Pairwise Nb) (g : ∀ r∈l,r.X0 < r.X1∧r.Y0 < r.Y1) (f : 0 < l.length) (n : l[0].X0≤h.X0) (x y : Int) (hb : h.X0≤x∧h.Y0≤y∧y < h.Y1) :
    hasR (Ut l h 0 f []) x y↔seen l 0 f x y∧¬ hasR l x y:=by
  have k : fstB l 0 f = true:=qlo.2 (.inl rfl);have p:=g _ (Kf f);rw [qn4,k];unfold seen;have o:=fun (a : l[0].X0≤x) (b : x < l[0].X1) (c : y < l[0].Y0)=>qn6 j g f a b c (.inl rfl);have q:=fun (a : l[0].X0≤x) (b : x < l[0].X1) (c : l[0].Y1≤y) (d : lstB l 0 f = true)=>qn7 j g f a b c (qe5.1 d);have m : l[0].X0≤x→x < l[0].X1→l[0].Y0≤y→y < l[0].Y1→hasR l x y:=fun a b c d=>⟨l[0],Kf f,a,b,c,d⟩
  have n4:=q4f x y;grind
end Go.Sh
namespace Go.Sh
open Go Go.Am
theorem qvq {a b : qf} (h : Nb a b) (c : a.X0 < a.X1) (e : a.X0 = b.X0) : a.X1 = b.X1∧a.Y1≤b.Y0:=by unfold Nb at h;omega
theorem qvp {a b : qf} (h : Nb a b) (e : a.X0≠b.X0) : a.X1≤b.X0:=by unfold Nb at h;omega
theorem qvc {a b : qf} {x y c d : Int} {F L f : Bool} {R P : Prop} (g : Nb a b) (k : a.X0 < a.X1) (s : b.X0 < b.X1) (l : b.Y0 < b.Y1) (p : c≤y) (v : y < d) (t : P)
    (j : F = true↔a.X0≠b.X0) (h : L = true↔b.X0≠a.X0)
    (u : a.X1≤x→x < b.X0→¬ R) (o : b.X0≤x→x < b.X1→y < b.Y0→(a.X0≠b.X0∨a.Y1≤y)→¬ R) (r : b.X0≤x→x < b.X1→b.Y1≤y→f = true→¬ R) (q : b.X0≤x→x < b.X1→b.Y0≤y→y < b.Y1→R) :
    (((x < a.X0∨(x < a.X1∧(y < a.Y1∨L = true)))∧¬ R)∨((F = true∧P)∧a.X1≤x∧x < b.X0∧c≤y∧y < d)∨(b.X0≤x∧x < b.X1∧(cond F c a.Y1)≤y∧y < b.Y0)∨(f = true∧b.X0≤x∧x < b.X1∧b.Y1≤y∧y < d))↔
      (x < b.X0∨(x < b.X1∧(y < b.Y1∨f = true)))∧¬ R:=by
  by_cases e : a.X0 = b.X0
  · have n : F = false:=by rw [← Bool.not_eq_true,j];simp [e]
    have f1 : L = false:=by rw [← Bool.not_eq_true,h];simp [e]
    have m:=qvq g k e;grind
  · have n : F = true:=j.2 e;have f1 : L = true:=h.2 fun a=>e a.symm;have m:=qvp g e;grind
theorem qvf {l : List qf} {h : qf} (m : l.Pairwise Nb) (j : ∀ r∈l,r.X0 < r.X1∧r.Y0 < r.Y1) {k : Nat} (f : k + 1 < l.length) (g : k < l.length) {o : List qf} {x y : Int} (q : h.Y0≤y) (t : y < h.Y1)
    (s : hasR o x y↔seen l k g x y∧¬ hasR l x y) :
    hasR (Ut l h (k + 1) f o) x y↔seen l (k + 1) f x y∧¬ hasR l x y:=by
  have p:=j _ (Kf g);have n:=j _ (Kf f);have v : fstB l (k + 1) f = true↔l[k].X0≠l[k + 1].X0:=by rw [qlo];simp
  have u : lstB l k g = true↔l[k + 1].X0≠l[k].X0:=by rw [qe5];exact ⟨fun a=>a f,fun a _=>a⟩
  rw [qn4,s]
  exact qvc (Uu m g f (Nat.lt_succ_self k)) p.1 n.1 n.2 q t (Nat.succ_pos k) v u
    (fun a b=>qvu m j f (Nat.succ_pos k) a b) (fun a b c d=>qn6 m j f a b c (.inr d)) (fun a b c d=>qn7 m j f a b c (qe5.1 d))
    (fun a b c d=>⟨l[k + 1],Kf f,a,b,c,d⟩)
def Zp (l : List qf) (h : qf) : Nat→List qf
  | 0=>[]
  | k + 1=>if hk : k < l.length then Ut l h k hk (Zp l h k) else Zp l h k
theorem qa2 {l : List qf} {h : qf} {k : Nat} (a : k < l.length) : Zp l h (k + 1) = Ut l h k a (Zp l h k):=by rw [Zp,dif_pos a]
theorem qhh (l : List qf) (h : qf) : ∀ k,(Zp l h k).length≤3 * k
  | 0=>by simp [Zp]
  | k + 1=>by
    have b:=qhh l h k
    by_cases a : k < l.length
    · rw [qa2 a];have:=qvl l h k a (Zp l h k);omega
    · rw [Zp,dif_neg a];omega
theorem qn0 {l : List qf} {h : qf} (c : l.Pairwise Nb) (b : ∀ r∈l,r.X0 < r.X1∧r.Y0 < r.Y1) (f : ∀ r∈l,h.Y0≤r.Y0) (d : ∀ g : 0 < l.length,l[0].X0≤h.X0) {x y : Int} (hb : h.X0≤x∧h.Y0≤y∧y < h.Y1) :
    ∀ (k : Nat) (a : k < l.length),hasR (Zp l h (k + 1)) x y↔seen l k a x y∧¬ hasR l x y
  | 0,a=>by rw [qa2 a];exact qve c b a (d a) x y hb
  | k + 1,a=>by
    rw [qa2 a]
    exact qvf c b a q6 hb.2.1 hb.2.2 (qn0 c b f d hb k q6)
theorem qvk {l : List qf} {h : qf} (w : l.Pairwise Nb) (hi : ∀ v∈l,h.X0≤v.X0∧h.Y0≤v.Y0∧v.X1≤h.X1∧v.Y1≤h.Y1) (m : ∀ r∈l,r.X0 < r.X1∧r.Y0 < r.Y1) {k : Nat} {c : k < l.length} {o : List qf} (g : ∀ t∈o,inHo h t) :
    ∀ t∈Ut l h k c o,inHo h t:=by
  have y:=hi _ (Kf c);have s:=m _ (Kf c);have x:=hi _ (Kf (show k - 1 < l.length by omega));have u:=m _ (Kf (show k - 1 < l.length by omega))
  have add1 : ∀ (o : List qf) (r : qf),(∀ t∈o,inHo h t)→(r.X0 < r.X1→r.Y0 < r.Y1→inHo h r)→∀ t∈Z4 o r,inHo h t:=by
    intro o r q n t d;rcases qqp d with d | ⟨rfl,a,b⟩
    · exact q t d
    · exact n a b
  unfold Ut
  have p : ∀ t∈(cond (fstB l k c && decide (0 < k)) (Z4 o ⟨l[k - 1].X1,h.Y0,l[k].X0,h.Y1⟩) o),inHo h t:=by
    cases (fstB l k c && decide (0 < k)) with
    | false=>exact g
    | true=>
      refine add1 _ _ g fun a b=>?_;unfold inHo;simp only at a b ⊢;omega
  have f : h.Y0≤cond (fstB l k c) h.Y0 l[k - 1].Y1:=by
    cases fstB l k c
    · simp only [Q4];omega
    · simp only [Q5];omega
  have j:=add1 _ ⟨l[k].X0,cond (fstB l k c) h.Y0 l[k - 1].Y1,l[k].X1,l[k].Y0⟩ p fun a b=>by
    unfold inHo;simp only at a b ⊢;omega
  cases lstB l k c with
  | false=>exact j
  | true=>
    refine add1 _ _ j fun a b=>?_;unfold inHo;simp only at a b ⊢;omega
theorem qhg {l : List qf} {h : qf} (b : l.Pairwise Nb) (hi : ∀ v∈l,h.X0≤v.X0∧h.Y0≤v.Y0∧v.X1≤h.X1∧v.Y1≤h.Y1) (a : ∀ r∈l,r.X0 < r.X1∧r.Y0 < r.Y1) : ∀ (k : Nat),∀ t∈Zp l h k,inHo h t
  | 0=>by simp [Zp]
  | k + 1=>by
    by_cases c : k < l.length
    · rw [qa2 c];exact qvk b hi a (qhg b hi a k)
    · rw [Zp,dif_neg c];exact qhg b hi a k
def q1j (l : List qf) : List qf:=Zp l (Kb l) l.length
theorem qm4 (l : List qf) : (q1j l).length≤3 * l.length:=qhh _ _ _
theorem qre {l : List qf} (b : CanR l) (a : 0 < l.length) : ∀ r∈l,l[0].X0≤r.X0:=by
  intro r d;obtain ⟨j,c,rfl⟩:=List.mem_iff_getElem.1 d;have g:=(b.lt _ (Kf a)).1;rcases Nat.eq_zero_or_pos j with rfl | f
  · omega
  · rcases Uu (qdf b) a c f with e | e <;> omega
theorem qrf {l : List qf} (c : CanR l) (a : l.length - 1 < l.length) : ∀ r∈l,r.X1≤l[l.length - 1].X1:=by
  intro r f;obtain ⟨j,d,rfl⟩:=List.mem_iff_getElem.1 f;have g:=(c.lt _ (Kf a)).1;rcases Nat.lt_or_ge j (l.length - 1) with b | b
  · rcases Uu (qdf c) d a b with e | e <;> omega
  grind
theorem qh4 {l : List qf} (a : CanR l) : ∀ t∈q1j l,inHo (Kb l) t:=qhg (qdf a) q26 a.lt _
theorem qm5 {l : List qf} (j : CanR l) (g : l≠[]) {x y : Int} (s : (Kb l).X0≤x∧x < (Kb l).X1) (p : (Kb l).Y0≤y∧y < (Kb l).Y1) : hasR (q1j l) x y↔¬ hasR l x y:=by
  have m : 0 < l.length:=List.length_pos_iff.2 g;have h : l.length - 1 < l.length:=by omega
  have t:=qrf j h;have o : (Kb l).X1≤l[l.length - 1].X1:=(qh5 (a:=(Kb l).X0) (b:=(Kb l).Y0) (c:=l[l.length - 1].X1) (d:=(Kb l).Y1) g fun v f=>⟨(q26 v f).1,(q26 v f).2.1,t v f,(q26 v f).2.2.2⟩).2.2.1;have k : ∀ m : 0 < l.length,l[0].X0≤(Kb l).X0:=fun m=>(qh5 (a:=l[0].X0) (b:=(Kb l).Y0) (c:=(Kb l).X1) (d:=(Kb l).Y1) g fun v f=>⟨qre j m v f,(q26 v f).2.1,(q26 v f).2.2.1,(q26 v f).2.2.2⟩).1;have key:=qn0 (qdf j) j.lt (fun r q=>(q26 r q).2.1) k (x:=x) (y:=y) ⟨s.1,p⟩ (l.length - 1) h;rw [show l.length - 1 + 1 = l.length from by omega] at key;unfold q1j;rw [key];have u : lstB l (l.length - 1) h = true:=qe5.2 fun n=>absurd n q6;unfold seen;grind
end Go.Sh
namespace Go.Sh
open Go Go.Am
theorem qoy {α : Type} (f : α→α) {l : List α} {k : Nat} (a : k < l.length) : ((l.take k).map f ++ l.drop k).set k (f l[k]) = (l.take (k + 1)).map f ++ l.drop (k + 1):=by
  have e : k - ((l.take k).map f).length = 0:=by simp;omega
  rw [List.set_append_right _ _ (by simp;omega),e,List.take_succ_eq_append_getElem a,List.map_append,List.append_assoc,List.drop_eq_getElem_cons a];rfl
def Kl (d : Int) (r : qf) : qf:=⟨r.X0 - d,r.Y0 - d,r.X1 + d,r.Y1 + d⟩
def Jd (g r : qf) : qf:=⟨max r.X0 g.X0,r.Y0,min r.X1 g.X1,r.Y1⟩
def offX (g r : qf) : Bool:=decide (r.X1≤g.X0∨g.X1≤r.X0)
theorem qho (g r : qf) : q28 r g = some (offX g r):=by
  unfold q28 offX;grind
theorem qlv {r : qf} {d : Int} (a : (-1000000≤r.X0∧r.X0≤1000000)∧(-1000000≤r.Y0∧r.Y0≤1000000)∧(-1000000≤r.X1∧r.X1≤1000000)∧(-1000000≤r.Y1∧r.Y1≤1000000)) (hd : -1000000≤d∧d≤1000000) :
    q4p r d = some (Kl d r):=by
  unfold q4p Kl;rw [Qm q6,Qm q6,Qm q6,Qm q6]
theorem qug {h t : qf} (b : (-1000000≤h.X0∧h.X0≤1000000)∧(-1000000≤h.Y0∧h.Y0≤1000000)∧(-1000000≤h.X1∧h.X1≤1000000)∧(-1000000≤h.Y1∧h.Y1≤1000000)) (a : inHo h t) :
    (-1000000≤t.X0∧t.X0≤1000000)∧(-1000000≤t.Y0∧t.Y0≤1000000)∧(-1000000≤t.X1∧t.X1≤1000000)∧(-1000000≤t.Y1∧t.Y1≤1000000):=by
  unfold inHo at a;omega
theorem qud {l : List qf} (f : ∀ r∈l,vR r) : (-1000000≤(Kb l).X0∧(Kb l).X0≤1000000)∧(-1000000≤(Kb l).Y0∧(Kb l).Y0≤1000000)∧(-1000000≤(Kb l).X1∧(Kb l).X1≤1000000)∧(-1000000≤(Kb l).Y1∧(Kb l).Y1≤1000000):=by
  cases l with
  | nil=>decide
  | cons r l=>
    have k:=qh5 (a:=-1000000) (b:=-1000000) (c:=1000000) (d:=1000000) (l:=r::l) qg fun v h=>by
      have:=f v h;unfold vR at this;omega
    have j:=q26 (l:=r::l) r qg;have g:=f r qg;unfold vR at g;omega
theorem qvd {l : List qf} {h : qf} (b : l.length≤1000) : loop (q2r l (h,0)) (0,[]) = some (Zp l h l.length):=by
  have key:=Z6 (f:=q2r l (h,0)) (fun k=>((k : Int),Zp l h k)) l.length (Zp l h l.length) (fun k a=>by
    rw [qa2 a]
    exact qvg b a (qhh l h k)) (by simp only [q2r,dnl,Q4]) (Nat.zero_le _)
  exact key
theorem qu5 {b : qf × List qf} {d : Int} (l : b.2.length≤1000) (hd : -1000000≤d∧d≤1000000)
    (h : ∀ r∈b.2,(-1000000≤r.X0∧r.X0≤1000000)∧(-1000000≤r.Y0∧r.Y0≤1000000)∧(-1000000≤r.X1∧r.X1≤1000000)∧(-1000000≤r.Y1∧r.Y1≤1000000)) :
    loop (q4i b d) (0,b.2) = some (b.2.map (Kl d)):=by
  have key:=Z6 (f:=q4i b d) (fun k=>((k : Int),(b.2.take k).map (Kl d) ++ b.2.drop k)) b.2.length (b.2.map (Kl d)) (fun k a=>by
    have g : ((b.2.take k).map (Kl d) ++ b.2.drop k).length = b.2.length:=by simp;omega
    have c : k < ((b.2.take k).map (Kl d) ++ b.2.drop k).length:=by omega
    have j : ((b.2.take k).map (Kl d) ++ b.2.drop k)[k] = b.2[k]:=by
      rw [List.getElem_append_right (by simp;omega)];simp [List.length_take,Nat.min_eq_left (Nat.le_of_lt a)]
    simp only [q4i,dlt a,Q5,K3 c,qn,j,qlv (h _ (Kf a)) hd,w64s a q6,Int.toNat_natCast]
    rw [qoy (Kl d) a]) (by simp only [q4i,dnl,Q4,List.take_length,List.drop_length,List.append_nil]) (Nat.zero_le _)
  grind
theorem qsz {g : qf} {l : List qf} (hl : l.length≤1000) {k0 : Nat} (m : k0 < l.length) (hb : ∀ j (h : j < k0),offX g (l[j]'(q6)) = false) (hc : offX g l[k0] = true) :
    ∃ row,loop (q2s g) ((k0 : Int),w64 ((k0 : Int) + 1),l) = some (((l.filter fun r=>!offX g r).length : Int),row)∧row.length = l.length∧row.take (l.filter fun r=>!offX g r).length = l.filter fun r=>!offX g r:=by
  let q : qf→Bool:=fun r=>!offX g r
  have o : (l.take (k0 + 1)).filter q = l.take k0:=by
    rw [List.take_succ_eq_append_getElem m,List.filter_append];have : [l[k0]].filter q = []:=by simp [q,hc]
    rw [this,List.append_nil,List.filter_eq_self];intro a ha;obtain ⟨j,hj,rfl⟩:=List.mem_iff_getElem.1 ha;grind
  have ag : ∀ j,((l.take j).filter q).length≤j:=fun j=>Nat.le_trans (List.length_filter_le _ _) (by simp;omega)
  obtain ⟨b,z,x⟩:=J6 (f:=q2s g) (fun k (c : List qf)=>((((l.take k).filter q).length : Int),(k : Int),c)) l.length
    (fun k c=>k0 < k∧c.length = l.length∧c.take ((l.take k).filter q).length = (l.take k).filter q∧c.drop k = l.drop k)
    (fun b=>b.1 = ((l.filter q).length : Int)∧b.2.length = l.length∧b.2.take (l.filter q).length = l.filter q)
    (fun k c u ⟨i0,i1,i2,i3⟩=>.inl (by
      have d : k < c.length:=by omega
      have v : c[k] = l[k]:=by
        have e1 : (c.drop k)[0]? = (l.drop k)[0]?:=by rw [i3]
        simpa [u,d] using e1
      have t : decide ((k : Int) < (c.length : Int)) = true:=dlt d
      have hn : ((l.take k).filter q).length < k:=by
        have : (l.take k).filter q = (l.take k0) ++ ((l.take k).drop (k0 + 1)).filter q:=by
          conv=>lhs;rw [← List.take_append_drop (k0 + 1) (l.take k)]
          rw [List.filter_append,List.take_take,Nat.min_eq_left q6,o]
        rw [this,List.length_append];have:=List.length_filter_le q ((l.take k).drop (k0 + 1));simp at this ⊢;omega
      rw [List.take_succ_eq_append_getElem u,List.filter_append]
      cases s : offX g l[k] with
      | true=>
        refine ⟨c,?_,q6,i1,?_,?_⟩
        · simp only [q2s,t,Q5,K3 d,qn,v,qho,s,Bool.not_true,Q4,w64s u q6];simp [q,s]
        · simp [q,s];exact i2
        · rw [← List.drop_drop,i3,List.drop_drop]
      | false=>
        have p : ((l.take k).filter q).length < c.length:=by omega
        refine ⟨c.set ((l.take k).filter q).length l[k],?_,q6,by simp [i1],?_,?_⟩
        · have e2 : w64 ((((l.take k).filter q).length : Int) + 1) = ((((l.take k).filter q).length + 1 : Nat) : Int):=w64s p q6;simp only [q2s,t,Q5,K3 d,qn,v,qho,s,Bool.not_false,K3 p,w64s u q6,e2,Int.toNat_natCast];simp [q,s]
        · have e3 : [l[k]].filter q = [l[k]]:=by simp [q,s]
          rw [e3,List.length_append,List.length_singleton,List.take_succ_eq_append_getElem (by simpa using p),List.take_set_of_le (Nat.le_refl _),i2];simp
        · rw [List.drop_set_of_lt q6,← List.drop_drop,i3,List.drop_drop]))
    (fun c ⟨i0,i1,i2,i3⟩=>⟨(((l.filter q).length : Int),c),by
      have : decide ((l.length : Int) < (c.length : Int)) = false:=Qs q6
      simp only [q2s,this,Q4,List.take_length],rfl,i1,by rw [List.take_length] at i2;exact i2⟩)
    (k0:=k0 + 1) (c0:=l) q6 ⟨q6,rfl,by rw [o];simp [Nat.min_eq_left (Nat.le_of_lt m)],rfl⟩
  obtain ⟨n,row⟩:=b;obtain ⟨rfl,h3,y⟩:=x;refine ⟨row,?_,h3,y⟩;rw [← z];congr 1;have w : ((l.take (k0 + 1)).filter q).length = k0:=by rw [o];simp;omega
  rw [w,w64s m q6]
theorem qt0 {g : qf} {l : List qf} (p : l.length≤1000) :
    ∃ row,((q5m l (fun c=>q28 c g)).bind fun b=>cond (b == (-1)) (some ((0,l.length),l)) ((loop (q2s g) (b,w64 (b + 1),l)).bind fun a=>(sub2 a.2.length a.1 a.2.length).bind fun f=>(sub2 a.2.length 0 a.1).bind fun d=>some (d,clrw a.2 f ({X0:=0,Y0:=0,X1:=0,Y1:=0} : qf)))) = some ((0,(l.filter fun r=>!offX g r).length),row)∧
      row.length = l.length∧row.take (l.filter fun r=>!offX g r).length = l.filter fun r=>!offX g r:=by
  have hs : ∀ (k : Nat) (h : k < l.length),q1p l (fun c=>q28 c g) (k : Int) = some (if offX g l[k] = true then .inr (.inr (k : Int)) else .inl ((k + 1 : Nat) : Int)):=by
    intro k h;simp only [q1p,dlt h,Q5,K3 h,qn,w64s h (by omega : l.length≤1000000),qho];grind
  have hd : q1p l (fun c=>q28 c g) (l.length : Int) = some (.inr (.inl ())):=by simp only [q1p,dnl,Q4]
  unfold q5m;rcases q1u l (offX g) (fun k _=>(k : Int)) () _ hs hd with ⟨w,m⟩ | ⟨k,t,x,hb,m⟩
  · rw [m];have y : (l.filter fun r=>!offX g r) = l:=List.filter_eq_self.2 fun r s=>by simp [w r s]
    grind
  · rw [m];obtain ⟨row,u,o,z⟩:=qsz p t (fun j v=>hb j v) x;have q : (l.filter fun r=>!offX g r).length≤l.length:=List.length_filter_le _ _;refine ⟨clrw row ((l.filter fun r=>!offX g r).length,l.length - (l.filter fun r=>!offX g r).length) ⟨0,0,0,0⟩,?_,?_,?_⟩
    · have n : ((k : Int) == -1) = false:=by simp
      simp only [qn,n,Q4,u,sub2,o];grind
    · rw [qdi (by show _ + (_ - _)≤_;omega),o]
    · unfold clrw splice;grind
theorem qse {g : qf} {b : (Nat × Nat) × List qf} (j : b.1.1 = 0) (q : b.2.length≤1000) (t : b.1.2≤b.2.length) :
    ∃ row,loop (q4j b g) (b.1,0,b.2) = some (b.1,row)∧row.length = b.2.length∧row.take b.1.2 = (b.2.take b.1.2).map (Jd g):=by
  obtain ⟨⟨o,n⟩,l⟩:=b;simp only at j q t ⊢;subst j
  have key:=Z6 (f:=q4j ((0,n),l) g) (fun k=>((0,n),(k : Int),(l.take k).map (Jd g) ++ l.drop k)) n ((0,n),(l.take n).map (Jd g) ++ l.drop n) (fun k m=>by
    have a : k < l.length:=by omega
    have p : ((l.take k).map (Jd g) ++ l.drop k).length = l.length:=by simp;omega
    have s : ((l.take k).map (Jd g) ++ l.drop k)[k]? = some l[k]:=by
      rw [List.getElem?_append_right (by simp;omega)];simp [List.length_take,Nat.min_eq_left (Nat.le_of_lt a),a]
    have d : ∀ xs : List qf,idxW xs (0,n) (k : Int) = xs[k]?:=fun xs=>by
      unfold idxW;rw [Q1 (by simp;omega)];simp
    have c : ∀ v,(((l.take k).map (Jd g) ++ l.drop k).set k v)[k]? = some v:=fun v=>by
      rw [List.getElem?_set_self q6]
    have h : decide ((k : Int) < (((0,n) : Nat × Nat).2 : Int)) = true:=Qr (by simpa using m);have r : (((0,n) : Nat × Nat).1 : Int) + (k : Int) = (k : Int):=by simp
    simp only [q4j,h,Q5,d,s,qn,r,Int.toNat_natCast,c,w64s m q6,List.set_set]
    exact congrArg (fun x=>some (Sum.inl ((0,n),((k + 1 : Nat) : Int),x))) (qoy (Jd g) a)) (by
      have : decide ((n : Int) < (((0,n) : Nat × Nat).2 : Int)) = false:=Qs qg
      simp only [q4j,this,Q4]) (Nat.zero_le _)
  grind
def q25 (d : Int) (g : qf) (l : List qf) : List qf:=(((q1j l).map (Kl d)).filter fun r=>!offX g r).map (Jd g)
noncomputable def shrR (d : Int) (l : List qf) : List qf × Int:=
  if l = [] then ([],0) else
    let g:=Kl (-d) (Kb l)
    if g.X1≤g.X0∨g.Y1≤g.Y0 then ([],0) else if 400 < (mrgR 3 [g] (q25 d g l)).length then ([],4) else (mrgR 3 [g] (q25 d g l),0)
theorem qh3 (d : Int) (g : qf) (l : List qf) : (q25 d g l).length≤3 * l.length:=by
  unfold q25;rw [List.length_map];refine Nat.le_trans (List.length_filter_le _ _) ?_;rw [List.length_map];exact qm4 l
theorem qwz {l : List qf} {d : Int} (a : Kr l = 0) (hd : 0≤d∧d≤1000000) : qa5 l d = some 0:=by
  unfold qa5;rw [qao,a];grind
theorem qp4 {l : List qf} {d : Int} (o : Kr l = 0) (hl : l.length≤160) (hd : 0≤d∧d≤1000000) : q6s l d = some (shrR d l):=by
  unfold q6s shrR;rw [qwz o hd];simp only [qn,bne_self_eq_false,Q4];by_cases k : l = []
  · grind
  · have h0 : ((l.length : Int) == 0) = false:=by have:=List.length_pos_iff.2 k;simp;omega
    obtain ⟨_,hv,f⟩:=q2j.1 o;have w:=qud hv;have a:=qh4 f;have y:=qm4 l;have hm : loop (q2r l (Kb l,0)) (0,[]) = some (q1j l):=qvd q6;rw [Q2 k,h0,Q4,qzs o k];simp only [qn,hm];have hw : w64 (0 - d) = -d:=by rw [Qm q6];omega
    have j : q4p ({X0:=(Kb l).X0,Y0:=(Kb l).Y0,X1:=(Kb l).X1,Y1:=(Kb l).Y1} : qf) (-d) = some (Kl (-d) (Kb l)):=qlv w q6;rw [hw,j];simp only [qn];generalize hg : Kl (-d) (Kb l) = g;by_cases hx : g.X1≤g.X0
    · grind
    · rw [Qs (by omega : ¬ g.X0 ≥ g.X1),Q4];simp only [qn];by_cases hy : g.Y1≤g.Y0
      · grind
      · rw [Q2 q6,Qs (by omega : ¬ g.Y0 ≥ g.Y1),Q4,qu5 (b:=(Kb l,q1j l)) (by simp only;omega) q6 (fun r n=>qug w (a r n))];simp only [qn];obtain ⟨row,e1,v,e3⟩:=qt0 (g:=g) (l:=(q1j l).map (Kl d)) (by rw [List.length_map];omega);rw [e1];simp only [qn];have h : (((q1j l).map (Kl d)).filter fun r=>!offX g r).length≤row.length:=by rw [v];exact List.length_filter_le _ _
        obtain ⟨s,f1,f2,x⟩:=qse (g:=g) (b:=((0,(((q1j l).map (Kl d)).filter fun r=>!offX g r).length),row)) rfl (by simp only;rw [v,List.length_map];omega) (by simpa using h);rw [f1];simp only [qn];simp only at f2 x;rw [Jn,Q1 (by simp only;omega)];simp only [qn,List.drop_zero,x,e3];have hq : ((((q1j l).map (Kl d)).filter fun r=>!offX g r).map (Jd g)) = q25 d g l:=rfl;rw [hq];have am:=qh3 d g l
        have m : vlo (ysp g):=by
          subst hg;unfold Kl at hy ⊢;unfold vlo ysp;grind
        rw [qrj (p:=[g]) (q:=q25 d g l) (by simp;omega) (by simpa using m) (fun r c=>by
          unfold q25 at c;obtain ⟨t,z,rfl⟩:=List.mem_map.1 c;obtain ⟨u,hu,rfl⟩:=List.mem_map.1 (List.mem_filter.1 z).1;have h1:=a u hu;unfold inHo at h1;unfold vlo ysp Jd Kl;simp only
          omega)]
        simp
end Go.Sh
namespace Go.Sh
open Go Go.Am
def Deep (l : List qf) (d x y : Int) : Prop:=∀ x' y',(x - d≤x'∧x'≤x + d)→(y - d≤y'∧y'≤y + d)→hasR l x' y'
theorem Deep.self {l : List qf} {d x y : Int} (h : Deep l d x y) (hd : 0≤d) : hasR l x y:=h x y q6 q6
theorem qlz {l : List qf} {d x y : Int} (hd : 0≤d) (f : ∀ r∈l,r.X0 < r.X1∧r.Y0 < r.Y1) :
    hasR (l.map (Kl d)) x y↔∃ c b,((x - d≤c∧c≤x + d)∧(y - d≤b∧b≤y + d))∧hasR l c b:=by
  constructor
  · rintro ⟨r,g,h⟩;obtain ⟨t,a,rfl⟩:=List.mem_map.1 g;have:=f t a;unfold Kl at h;simp only at h;exact ⟨max (x - d) t.X0,max (y - d) t.Y0,q6,t,a,q6⟩
  · rintro ⟨c,b,h,t,a,j⟩;refine ⟨Kl d t,List.mem_map.2 ⟨t,a,rfl⟩,?_⟩;unfold Kl;grind
theorem qly {q : List qf} {g : qf} {x y : Int} (c : g.X0≤x∧x < g.X1) : hasR ((q.filter fun r=>!offX g r).map (Jd g)) x y↔hasR q x y:=by
  constructor
  · rintro ⟨r,b,h⟩;obtain ⟨t,a,rfl⟩:=List.mem_map.1 b;unfold Jd at h;simp only at h;exact ⟨t,(List.mem_filter.1 a).1,q6⟩
  · rintro ⟨t,a,h⟩;refine ⟨Jd g t,List.mem_map.2 ⟨t,List.mem_filter.2 ⟨a,?_⟩,rfl⟩,?_⟩
    · unfold offX;grind
    · unfold Jd;grind
noncomputable def shrS (d : Int) (l : List qf) : List qf:=
  if l = [] then [] else
    let g:=Kl (-d) (Kb l)
    if g.X1≤g.X0∨g.Y1≤g.Y0 then [] else mrgR 3 [g] (q25 d g l)
theorem qp2 (d : Int) (l : List qf) : shrR d l = if 400 < (shrS d l).length then ([],4) else (shrS d l,0):=by
  unfold shrR shrS;grind
theorem q11q {d : Int} {l : List qf} (a : l.length≤160) : CanR (shrS d l):=by
  unfold shrS;split
  · exact .nil
  · simp only;split
    · exact .nil
    · exact qa3 3 (by have:=qh3 d (Kl (-d) (Kb l)) l;simp;omega)
theorem q11r {d : Int} {l : List qf} (m : CanR l) (u : l.length≤160) (hd : 0≤d) (x y : Int) : hasR (shrS d l) x y↔Deep l d x y:=by
  unfold shrS;split
  · rename_i h;subst h;exact ⟨fun h=>absurd h (q4f x y),fun h=>absurd (h.self hd) (q4f x y)⟩
  · rename_i g
    have f : ∀ c b,hasR l c b→(Kb l).X0≤c∧c < (Kb l).X1∧(Kb l).Y0≤b∧b < (Kb l).Y1:=by
      rintro c b ⟨r,j,h⟩;have:=q26 r j;omega
    have p : Deep l d x y→(Kl (-d) (Kb l)).X0≤x∧x < (Kl (-d) (Kb l)).X1∧(Kl (-d) (Kb l)).Y0≤y∧y < (Kl (-d) (Kb l)).Y1:=by
      intro h;have q:=f _ _ (h (x - d) (y - d) q6 q6);have a:=f _ _ (h (x + d) (y + d) q6 q6);unfold Kl;grind
    simp only;split
    · exact ⟨fun h=>absurd h (q4f x y),fun h=>by have:=p h;omega⟩
    · rw [q9t 3 (by have:=qh3 d (Kl (-d) (Kb l)) l;simp;omega),qh2]
      have q : hasR [Kl (-d) (Kb l)] x y↔(Kl (-d) (Kb l)).X0≤x∧x < (Kl (-d) (Kb l)).X1∧(Kl (-d) (Kb l)).Y0≤y∧y < (Kl (-d) (Kb l)).Y1:=by
        unfold hasR;simp
      rw [q];constructor
      · rintro ⟨a,k⟩ c b o n;refine Classical.byContradiction fun s=>k ?_;unfold q25;rw [qly ⟨a.1,a.2.1⟩,qlz hd fun r j=>by have:=qh4 m r j;unfold inHo at this;omega];refine ⟨c,b,⟨o,n⟩,(qm5 m g ?_ ?_).2 s⟩
        · unfold Kl at a;simp only at a;omega
        · unfold Kl at a;simp only at a;omega
      · intro h;have a:=p h;refine ⟨a,fun k=>?_⟩;unfold q25 at k;rw [qly ⟨a.1,a.2.1⟩,qlz hd fun r j=>by have:=qh4 m r j;unfold inHo at this;omega] at k;obtain ⟨c,b,⟨o,n⟩,t⟩:=k;refine (qm5 m g ?_ ?_).1 t (h c b o n)
        · unfold Kl at a;simp only at a;omega
        · unfold Kl at a;simp only at a;omega
theorem q11s {d : Int} {l : List qf} (a : CanR l) (b : l.length≤160) (hd : 0≤d) {x y : Int} (h : hasR (shrS d l) x y) : hasR l x y:=((q11r a b hd x y).1 h).self hd
end Go.Sh
namespace Go.Sh
open Go Go.Am
theorem qoq (s : Mg qf qk) (a b : Int) (c : List qf) (hl : (s.flat putB).length + c.length≤1000000) :
    q7a (s.flat putB) s.sec (s.done.length : Int) s.hi a b c = some ((addM putB s a b c).sec,((addM putB s a b c).done.length : Int),(addM putB s a b c).hi,(addM putB s a b c).flat putB):=by
  have w : (s.flat putB).length = s.done.length + s.sec.length:=by simp [Mg.flat]
  have d : s.sec.length≤1000000:=by omega
  unfold q7a;rcases q15 putB s a b c with ⟨p,r,x,m⟩ | ⟨p,m⟩
  · have hb : decide ((c.length : Int) > 0) = true:=Qr (by have:=List.length_pos_iff.2 p;omega);have y : (s.hi == a) = true:=by simpa using x
    rw [r] at hb;rw [m,r];simp only [hb,Q5,y,qn,q6e _ _ d,decide_true]
    have:=q6g (fun v : qk=>({Lo:=v.Lo,Hi:=({X:=v.Hi.X,Y:=v.Hi.Y,Z:=b} : Q0)} : qk)) s.done (s.sec.map (putB s.lo s.hi)) (by simp;omega) (q7b b) (fun k o f u=>by
      have l : (s.done ++ s.sec.map (putB s.lo s.hi)).length = (s.flat putB).length:=rfl
      simp only [q7b,dlt f,Q5,K3 f,qn,w64s f q6,Int.toNat_natCast]) (fun o=>by simp only [q7b,dnl,Q4])
    rw [show s.flat putB = s.done ++ s.sec.map (putB s.lo s.hi) from rfl,this];simp only [qn,Mg.flat,List.map_map];rfl
  · rw [m]
    have z : ((cond (decide ((c.length : Int) > 0)) (some (s.hi == a)) (some false)).bind fun g=>(cond g ((q2c s.sec c).bind fun j=>some j) (some false))) = some false:=by
      by_cases l : c = []
      · subst l;simp
      · have hb : decide ((c.length : Int) > 0) = true:=Qr (by have:=List.length_pos_iff.2 l;omega);simp only [hb,Q5,qn,q6e _ _ d];by_cases q : s.hi = a
        · have t : s.sec≠c:=fun h=>p ⟨l,h.symm,q⟩;simp [q,t]
        · have : (s.hi == a) = false:=by simpa using q
          simp [this]
    have n:=q3f c (putB a b) (s.flat putB) (fun o=>(c,((s.flat putB).length : Int),b,o)) (q7c c a b (s.flat putB)) (fun k f o u=>by
      simp only [q7c,dlt f,Q5,K3 f,qn,w64s f q6];rw [Y3 (by simp;omega)]
      rfl) (fun o=>by simp only [q7c,dnl,Q4])
    rw [← Option.bind_assoc,z];simp only [qn,Q4,n];simp [Mg.flat]
def zAt : Int→List Kk→Nat→Int
  | z,[],_=>z
  | z,_::_,0=>z
  | z,s::r,k + 1=>zAt (z + s.Height) r k
theorem qfk (z : Int) (l : List Kk) : zAt z l 0 = z:=by cases l <;> rfl
theorem qj5 : ∀ (l : List Kk) (z : Int) (k : Nat) (h : k < l.length),zAt z l (k + 1) = zAt z l k + l[k].Height
  | [],_,_,h=>absurd h qg
  | s::r,z,0,_=>by simp [zAt,qfk]
  | s::r,z,k + 1,h=>by
    have:=qj5 r (z + s.Height) k (by simpa using h)
    simpa [zAt] using this
def Ye : Int→List Kk→List (Int × Int × List qf)
  | _,[]=>[]
  | z,s::r=>(z,z + s.Height,s.Region)::Ye (z + s.Height) r
theorem qip : ∀ (l : List Kk) (z : Int),(Ye z l).length = l.length
  | [],_=>rfl
  | s::r,z=>by simp [Ye,qip r]
theorem qio : ∀ (l : List Kk) (z : Int) (k : Nat) (h : k < l.length) (a : k < (Ye z l).length),(Ye z l)[k] = (zAt z l k,zAt z l (k + 1),l[k].Region)
  | [],_,_,h,_=>absurd h qg
  | s::r,z,0,_,_=>by simp [Ye,zAt,qfk]
  | s::r,z,k + 1,h,a=>by
    have:=qio r (z + s.Height) k (by simpa using h) (by simpa [Ye] using a)
    simpa [Ye,zAt] using this
end Go.Sh
namespace Go.Sh
open Go Go.Am
section
variable {σ β : Type} (put : Int→Int→σ→β)
def secT : List (Int × Int × List σ)→Int→List σ
  | [],_=>[]
  | t::r,x=>if t.1≤x∧x < t.2.1 then t.2.2 else secT r x
theorem qow {c x : Int} : ∀ {l : List (Int × Int × List σ)},(∀ t∈l,c≤t.1)→x < c→secT l x = []
  | [],_,_=>rfl
  | t::r,h,hx=>by
    have b:=h t qg
    rw [secT,Q2 q6]
    exact qow (fun u a=>h u (by simp [a])) hx
theorem InvG.up {s : Mg σ β} {f : List (Grp σ)} {a b : Int} (h : InvG put s f a) (c : a≤b) : InvG put s f b:=by
  rcases Int.lt_or_eq_of_le c with j | rfl
  · exact ⟨h.done,h.can,fun g d=>by have:=h.le g d;omega,fun _ g d k=>by have:=h.le g (by simp [d]);omega⟩
  · exact h
end
section
variable {σ β : Type} [DecidableEq σ] (put : Int→Int→σ→β)
theorem qla : ∀ (l : List (Int × Int × List σ)) (c : Int) (s : Mg σ β) (g : List (Grp σ)),(∀ t∈l,c≤t.1∧t.1 < t.2.1)→l.Pairwise (fun t u=>t.2.1≤u.1)→InvG put s g c→
    ∃ f,(Qv put s l).flat put = K7 put f∧CanG f∧∀ x,secG f x = if x < c then secG (g ++ curG s) x else secT l x
  | [],c,s,g,_,_,hi=>by
    refine ⟨g ++ curG s,qgo put s g hi.done,hi.can,fun x=>?_⟩
    by_cases h : x < c
    · rw [Q1 h]
    · rw [Q2 h];exact q3p hi.le q6
  | t::l,c,s,g,h1,h2,hi=>by
    have q:=h1 t qg
    have hp:=List.pairwise_cons.1 h2
    have o : ∀ u∈l,t.2.1≤u.1:=hp.1
    obtain ⟨k,j,m⟩:=qme (b:=t.2.1) (c:=t.2.2) put q.2 (hi.up put q.1)
    obtain ⟨n,r,w,v⟩:=qla l t.2.1 _ k (fun u p=>⟨o u p,(h1 u (by simp [p])).2⟩) hp.2 j
    refine ⟨n,r,w,fun x=>?_⟩
    rw [v x,m x]
    by_cases h : x < c
    · rw [Q1 q6,Q2 q6,Q1 h]
    · rw [Q2 h,secT]
      by_cases a : t.1≤x∧x < t.2.1
      · rw [Q1 a,Q1 a,Q1 a.2]
      · rw [Q2 a,Q2 a]
        by_cases d : x < t.2.1
        · rw [Q1 d,qow o d]
          exact q3p hi.le q6
        · rw [Q2 d]
end
noncomputable def hsteps (d : Int) (gs : List (Grp qf)) : List (Int × Int × List qf):=gs.map fun g=>(g.lo,g.hi,shrS d g.sec)
theorem qp3 (d : Int) : shrS d [] = []:=by unfold shrS;rw [Q1 rfl]
theorem qox (d : Int) (x : Int) : ∀ a : List (Grp qf),secT (hsteps d a) x = shrS d (secG a x)
  | []=>(qp3 d).symm
  | g::a=>by
    have b:=qox d x a
    unfold hsteps at b ⊢
    rw [List.map_cons,secT,secG,b]
    split <;> rfl
theorem qm9 {α : Type} {xs : List α} {i : Int} {k : Nat} (h : i = k) : idx xs i = xs[k]?:=by subst h;simp [idx]
theorem q11v {p : List qk} {pre post : List (Grp qf)} {g : Grp qf} (hp : p = K7 putB (pre ++ g::post)) (m : p.length≤1000) (w : g.lo < g.hi) (c : ∀ k∈post,g.hi≤k.lo) (v : qk) (r : v.Lo.Z = g.lo) :
    loop (q5b p v) (((K7 putB pre).length : Int),[]) = some ((((K7 putB (pre ++ [g])).length : Nat) : Int),g.sec):=by
  have hp2 : p = K7 putB pre ++ (g.sec.map (putB g.lo g.hi) ++ K7 putB post):=by
    rw [hp,q6i];simp [K7]
  have s : (K7 putB (pre ++ [g])).length = (K7 putB pre).length + g.sec.length:=by rw [q6i];simp [K7]
  have o : p.length = (K7 putB pre).length + (g.sec.length + (K7 putB post).length):=by rw [hp2];simp
  have l : ∀ k (h : k < g.sec.length),p[(K7 putB pre).length + k]? = some (putB g.lo g.hi g.sec[k]):=fun k h=>by
    rw [hp2,List.getElem?_append_right q6,List.getElem?_append_left (by simp;omega)];simp [h]
  rw [s]
  have key:=Z6 (f:=q5b p v) (fun k=>((((K7 putB pre).length + k : Nat) : Int),g.sec.take k)) g.sec.length ((((K7 putB pre).length + g.sec.length : Nat) : Int),g.sec) (fun k j=>by
    have a : decide ((((K7 putB pre).length + k : Nat) : Int) < (p.length : Int)) = true:=Qr q6;have n : w64 ((((K7 putB pre).length + k : Nat) : Int) + 1) = (((K7 putB pre).length + (k + 1) : Nat) : Int):=by rw [Qm q6];omega
    have u : ((putB g.lo g.hi g.sec[k]).Lo.Z == v.Lo.Z) = true:=by rw [r];simp [putB]
    simp only [q5b,a,Q5,qm9 rfl,l k j,qn,u,n];rw [Y3 (by simp;omega),List.take_succ_eq_append_getElem j]
    rfl) (by
    have b : (cond (decide ((((K7 putB pre).length + g.sec.length : Nat) : Int) < (p.length : Int))) ((idx p (((K7 putB pre).length + g.sec.length : Nat) : Int)).bind fun d=>some (d.Lo.Z == v.Lo.Z)) (some false)) = some false:=by
      by_cases a : (K7 putB pre).length + g.sec.length < p.length
      · rw [Qr q6,Q5,K3 a,qn]
        have q : p[(K7 putB pre).length + g.sec.length]∈K7 putB post:=by
          have e : p[(K7 putB pre).length + g.sec.length]? = (K7 putB post)[0]?:=by
            rw [hp2,List.getElem?_append_right q6,List.getElem?_append_right qg];simp
          rw [List.getElem?_eq_getElem a] at e;exact List.mem_of_getElem? e.symm
        obtain ⟨k,j,t,_,e⟩:=qeb.1 q;rw [e];have:=c k j;congr 1;have : ¬ k.lo = v.Lo.Z:=by omega
        simpa [putB] using this
      · rw [Qs q6,Q4]
    simp only [q5b,b,qn,Q4,List.take_length]) (Nat.zero_le _)
  simpa using key
theorem qm6 {p : List qk} {d : Int} (hd : 0≤d∧d≤1000000) (q : p.length≤160) {j : List (Grp qf)} (hp : p = K7 putB j) (v : CanG j) (hc : ∀ g∈j,Kr g.sec = 0) :
    ∀ (rest pre : List (Grp qf)) (s : Mg qf qk),j = pre ++ rest→(s.flat putB).length≤400 * pre.length→
      loop (q3j p d) (((K7 putB pre).length : Int),s.sec,(s.done.length : Int),s.hi,s.flat putB) =
        some (if ∃ g∈rest,400 < (shrS d g.sec).length then .inr ([],4) else .inl ((Qv putB s (hsteps d rest)).sec,((Qv putB s (hsteps d rest)).done.length : Int),(Qv putB s (hsteps d rest)).hi,(Qv putB s (hsteps d rest)).flat putB))
  | [],pre,s,hpre,hs=>by
    have e : j = pre:=by simpa using hpre
    subst e
    rw [Q2 qg]
    refine Km ?_
    have f : decide ((((K7 putB j).length : Nat) : Int) < (p.length : Int)) = false:=by rw [hp];exact dnl
    simp only [q3j,f,Q4]
    rfl
  | g::rest,pre,s,hpre,hs=>by
    have u : g∈j:=by rw [hpre];simp
    have t:=v.1 g u
    have ai : p.length = (K7 putB pre).length + (g.sec.length + (K7 putB rest).length):=by rw [hp,hpre,q6i];simp [K7]
    have y : 0 < g.sec.length:=List.length_pos_iff.2 t.2
    have n:=v.2
    rw [hpre] at n
    have m : ∀ k∈rest,g.hi≤k.lo:=fun k c=>((List.pairwise_cons.1 (List.pairwise_append.1 n).2.1).1 k c).1
    have z : pre.length≤160:=by
      have : ∀ l : List (Grp qf),(∀ g∈l,g.sec≠[])→l.length≤(K7 putB l).length:=by
        intro l
        induction l with
        | nil=>simp
        | cons a l ih=>
          intro h;have h1:=ih fun k c=>h k (by simp [c]);have h2:=List.length_pos_iff.2 (h a qg);have e : (K7 putB (a::l)).length = a.sec.length + (K7 putB l).length:=by simp [K7]
          simp only [List.length_cons];omega
      have:=this pre fun k c=>(v.1 k (by rw [hpre];simp [c])).2;omega
    have f : decide (((K7 putB pre).length : Int) < (p.length : Int)) = true:=Qr q6
    have hx : p[(K7 putB pre).length]? = some (putB g.lo g.hi g.sec[0]):=by
      have e : K7 putB (g::rest) = g.sec.map (putB g.lo g.hi) ++ K7 putB rest:=by simp [K7]
      rw [hp,hpre,q6i,e,List.getElem?_append_right q6,List.getElem?_append_left (by simp;omega)];simp [y]
    have aa:=q11v (p:=p) (pre:=pre) (post:=rest) (g:=g) (by rw [hp,hpre]) q6 t.1 m (putB g.lo g.hi g.sec[0]) rfl
    have ab:=hc g u
    have ae : g.sec.length≤160:=by omega
    have ac:=qp4 ab ae hd
    have b : q3j p d (((K7 putB pre).length : Int),s.sec,(s.done.length : Int),s.hi,s.flat putB) = if 400 < (shrS d g.sec).length then some (.inr (.inr ([],4))) else
        some (.inl ((((K7 putB (pre ++ [g])).length : Nat) : Int),(addM putB s g.lo g.hi (shrS d g.sec)).sec,((addM putB s g.lo g.hi (shrS d g.sec)).done.length : Int),(addM putB s g.lo g.hi (shrS d g.sec)).hi,(addM putB s g.lo g.hi (shrS d g.sec)).flat putB)):=by
      simp only [q3j,f,Q5,qm9 rfl,hx,qn,aa,ac,qp2]
      split
      · rfl
      · rename_i o
        have r:=qoq s g.lo g.hi (shrS d g.sec) q6
        have hz : (putB g.lo g.hi g.sec[0]).Lo.Z = g.lo∧(putB g.lo g.hi g.sec[0]).Hi.Z = g.hi:=⟨rfl,rfl⟩
        simp only [bne_self_eq_false,Q4,hz.1,hz.2,r,qn]
    by_cases o : 400 < (shrS d g.sec).length
    · rw [Q1 o] at b
      rw [Q1 ⟨g,qg,o⟩]
      exact Km b
    · rw [Q2 o] at b
      rw [Kn b]
      have ak:=qjb putB s g.lo g.hi (shrS d g.sec)
      have ih:=qm6 hd q hp v hc rest (pre ++ [g]) (addM putB s g.lo g.hi (shrS d g.sec)) (by rw [hpre];simp) (by simp only [List.length_append,List.length_singleton];omega)
      rw [ih]
      have e1 : (∃ k∈g::rest,400 < (shrS d k.sec).length)↔∃ k∈rest,400 < (shrS d k.sec).length:=by
        constructor
        · rintro ⟨k,c,w⟩;rcases List.mem_cons.1 c with rfl | c
          · exact absurd w o
          · exact ⟨k,c,w⟩
        · rintro ⟨k,c,w⟩;exact ⟨k,by simp [c],w⟩
      by_cases x : ∃ k∈rest,400 < (shrS d k.sec).length
      · rw [Q1 x,Q1 (e1.2 x)]
      · rw [Q2 x,Q2 (fun h=>x (e1.1 h))]
        rfl
theorem ql7 {c : List (Grp qf)} {g : Grp qf} (h : g∈c) : g.sec.length≤(K7 putB c).length:=by
  obtain ⟨a,b,rfl⟩:=List.append_of_mem h;rw [q6i];have : K7 putB (g::b) = g.sec.map (putB g.lo g.hi) ++ K7 putB b:=by simp [K7]
  rw [this];simp only [List.length_append,List.length_map];omega
theorem quc {p : List qk} {d : Int} (hc : Kh p = 0) (hl : p.length≤160) (hd : 1≤d∧d≤1000000) :
    ∃ q,CanB q∧(∀ z,atB q z = shrS d (atB p z))∧qal p d = some (if 400 < q.length then ([],4) else (q,0)):=by
  obtain ⟨ai,hv,f,hp,l,aj⟩:=J1.1 hc;have v : ∀ z,atB p z = secG f z:=fun z=>by rw [hp,q43 l]
  have af : ∀ g∈f,Kr g.sec = 0:=fun g a=>by
    have n:=l.1 g a;have e:=v g.lo;rw [q7n l g a g.lo (Int.le_refl _) n.1] at e;rw [← e];exact q98 hc g.lo
  have aa : (hsteps d f).Pairwise (fun t u=>t.2.1≤u.1):=by
    unfold hsteps;rw [List.pairwise_map];exact l.2.imp fun h=>h.1
  have ag : ∀ c : Int,(∀ g∈f,c≤g.lo)→∀ t∈hsteps d f,c≤t.1∧t.1 < t.2.1:=fun c ad t y=>by
    obtain ⟨g,a,rfl⟩:=List.mem_map.1 y;exact ⟨ad g a,(l.1 g a).1⟩
  have r : ∀ g∈f,-1000000≤g.lo:=fun g a=>by
    have n:=l.1 g a;obtain ⟨t,y⟩:=List.exists_mem_of_ne_nil _ n.2;have:=hv (putB g.lo g.hi t) (by rw [hp];exact qeb.2 ⟨g,a,t,y,rfl⟩);unfold vB putB at this;simp only at this;omega
  obtain ⟨b,e1,w,e3⟩:=qla putB (hsteps d f) (-1000000) (Qt : Mg qf qk) [] (ag _ r) aa ⟨rfl,⟨by simp [curG,Qt],by simp [curG,Qt]⟩,by simp [curG,Qt],qg⟩
  have j : ∀ z,secG b z = shrS d (secG f z):=fun z=>by
    rw [e3 z];by_cases hz : z < -1000000
    · rw [Q1 hz,q2x r hz,qp3];rfl
    · rw [Q2 hz,qox]
  have o : ∀ z,(secG f z).length≤160:=fun z=>by
    rcases qav (x:=z) f with e | ⟨g,a,_,_,e⟩
    · rw [e];simp
    · rw [e];have:=ql7 a;rw [← hp] at this;omega
  have m : CanB (K7 putB b):=⟨b,rfl,w,fun g a=>by
    have h1:=q7n w g a g.lo (Int.le_refl _) (w.1 g a).1;rw [← h1,j]
    exact q11q (o _)⟩
  refine ⟨K7 putB b,m,fun z=>by rw [q43 w,j,v],?_⟩;have key:=qm6 (d:=d) q6 hl hp l af f [] (Qt : Mg qf qk) rfl (by simp [Qt,Mg.flat]);have s : loop (q3j p d) (0,[],0,0,[]) = some (if ∃ g∈f,400 < (shrS d g.sec).length then .inr ([],4) else .inl ((Qv putB Qt (hsteps d f)).sec,((Qv putB Qt (hsteps d f)).done.length : Int),(Qv putB Qt (hsteps d f)).hi,(Qv putB (Qt : Mg qf qk) (hsteps d f)).flat putB)):=key;unfold qal;rw [qcm,hc];simp only [qn,bne_self_eq_false,Q4];rw [Qs (by omega : ¬ d < 1),Qs (by omega : ¬ d > 1000000)];simp only [Q4,qn,s];by_cases h4 : ∃ g∈f,400 < (shrS d g.sec).length
  · rw [Q1 h4];obtain ⟨g,a,h5⟩:=h4
    have h6 : (shrS d g.sec).length≤(K7 putB b).length:=by
      have e:=j g.lo;rw [q7n l g a g.lo (Int.le_refl _) (l.1 g a).1] at e;rw [← e];rcases qav (x:=g.lo) b with e' | ⟨k,hk,_,_,e'⟩
      · rw [e'];simp
      · rw [e'];exact ql7 hk
    rw [Q1 q6];rfl
  · rw [Q2 h4];simp only [qn,e1];by_cases h7 : 400 < (K7 putB b).length
    · rw [Q1 h7,Qr (by omega : (((K7 putB b).length : Nat) : Int) > 400)];rfl
    · rw [Q2 h7,Qs (by omega : ¬ (((K7 putB b).length : Nat) : Int) > 400)];rfl
end Go.Sh
namespace Go.Sh
open Go Go.Am
theorem qoa (z : Int) : q78 z = some (decide (q17 z)):=ql6 z
noncomputable def qhx (p : List qf) (a b : Int) : List qk × Int:=
  if Kr p≠0 then ([],Kr p) else if q17 a∧q17 b∧a < b then (p.map (putB a b),0) else ([],2)
theorem q11w (p : List qf) (n : p.length≤400) (a b : Int) : qan 0 0 a b p = some (p,0,b,p.map (putB a b)):=by
  unfold qan
  have m : ((cond (decide ((p.length : Int) > 0)) (some ((0 : Int) == a)) (some false)).bind fun d=>(cond d ((q2c [] p).bind fun c=>some c) (some false))) = some false:=by
    by_cases j : p = []
    · subst j;simp
    · rw [q6e [] p qg];have : ([] : List qf)≠p:=fun h=>j h.symm;rw [Qs this];cases (decide ((p.length : Int) > 0)) <;> cases ((0 : Int) == a) <;> rfl
  have g:=q3f p (putB a b) [] (fun o=>(p,(0 : Int),b,o)) (q79 p a b) (fun k f o l=>by
    simp only [q79,dlt f,Q5,K3 f,qn,w64s f q6];rw [Y3 (by simp at l ⊢;omega)]
    rfl) (fun o=>by simp only [q79,dnl,Q4])
  rw [← Option.bind_assoc,m];simp only [qn,Q4,g,List.nil_append]
theorem qzd (p : List qf) (a b : Int) : q77 p a b = some (qhx p a b):=by
  unfold q77 qhx;rw [qao,qn];by_cases f : Kr p = 0
  · have j : (Kr p != 0) = false:=by simp [f]
    have k:=(qk0 f).1;rw [j,Q4,Q2 (by simp [f])];simp only [qoa,qn,q11w p k];by_cases c : q17 a
    · by_cases hb : q17 b
      · by_cases d : a < b
        · have g : ¬ (b≤a):=by omega
          have l : decide (((p.map (putB a b)).length : Int) > 400) = false:=Qs (by simp;omega);rw [Q1 ⟨c,hb,d⟩];simp only [c,hb,decide_true,Bool.not_true,Q4,qn,ge_iff_le,g,decide_false,l]
        · have g : b≤a:=by omega
          rw [Q2 (fun h=>d h.2.2)];simp only [c,hb,decide_true,Bool.not_true,Q4,qn,ge_iff_le,g,Q5]
      · rw [Q2 (fun h=>hb h.2.1)];simp only [c,hb,decide_true,decide_false,Bool.not_true,Bool.not_false,Q4,qn,Q5]
    · rw [Q2 (fun h=>c h.1)];simp only [c,decide_false,Bool.not_false,qn,Q5]
  · have j : (Kr p != 0) = true:=by simpa using f
    rw [j,Q5,Q1 f]
end Go.Sh
namespace Go.Sh
open Go Go.Am
def colS (s : List qk) (x y : Int) : List ql:=s.flatMap fun b=>if decide (b.Lo.X≤x∧x < b.Hi.X) && decide (b.Lo.Y≤y∧y < b.Hi.Y) then [{Lo:=b.Lo.Z,Hi:=b.Hi.Z}] else []
theorem qkd (s : List qk) (x y : Int) : (colS s x y).length≤s.length:=by
  unfold colS
  induction s with
  | nil=>simp
  | cons r l ih=>
    simp only [List.flatMap_cons,List.length_append,List.length_cons];have : (if (decide (r.Lo.X≤x∧x < r.Hi.X) && decide (r.Lo.Y≤y∧y < r.Hi.Y)) = true then [({Lo:=r.Lo.Z,Hi:=r.Hi.Z} : ql)] else []).length≤1:=by split <;> simp
    omega
theorem qsk {s : List qk} (h : ∀ b∈s,vB b) (x y : Int) : ∀ t∈colS s x y,vld t:=by
  intro t c;unfold colS at c;rw [List.mem_flatMap] at c;obtain ⟨b,hb,a⟩:=c;split at a
  · obtain rfl:=List.mem_singleton.1 a;have:=h b hb;unfold vB at this;unfold vld;simp only;omega
  · cases a
noncomputable def column (s : List qk) (x y : Int) : List ql × Int:=if Kh s≠0 then ([],Kh s) else (Zw 2 (colS s x y) [],0)
theorem qz8 (s : List qk) (x y : Int) : qai s x y = some (column s x y):=by
  unfold qai column;rw [qcm,qn];by_cases h : ¬ Kh s = 0
  · have : (Kh s != 0) = true:=by simpa using h
    rw [Q1 h,this,Q5]
  replace h:=Classical.not_not.1 h;obtain ⟨p,f,_⟩:=J1.1 h;rw [Q2 (by simp [h]),h,show ((0 : Int) != 0) = false from rfl,Q4]
  have:=J0 s q6 (fun b=>if decide (b.Lo.X≤x∧x < b.Hi.X) && decide (b.Lo.Y≤y∧y < b.Hi.Y) then [({Lo:=b.Lo.Z,Hi:=b.Hi.Z} : ql)] else []) [] (fun o=>o) (q76 s x y) (fun k a o d=>by
    have n : o.length≤k:=by rw [d,List.nil_append];have:=qkd (s.take k) x y;rw [List.length_take,Nat.min_eq_left q6] at this;exact this
    simp only [q76,dlt a,Q5,K3 a,qn,w64s a q6];by_cases l : s[k].Lo.X≤x <;> by_cases g : x < s[k].Hi.X <;> by_cases m : s[k].Lo.Y≤y <;> by_cases j : y < s[k].Hi.Y <;> simp [l,g,m,j]
    all_goals (rw [Y3 (by simp;omega)];rfl)) (fun o=>by simp only [q76,dnl,Q4])
  rw [List.nil_append] at this
  have c : q3x (colS s x y) = some (Zw 2 (colS s x y) [],0):=by
    have:=qkd s x y;rw [qms];unfold qe6;rw [Q2 q6,Q1 (qsk f x y)]
  rw [this];simp only [qn];rw [show s.flatMap (fun b=>if decide (b.Lo.X≤x∧x < b.Hi.X) && decide (b.Lo.Y≤y∧y < b.Hi.Y) then [({Lo:=b.Lo.Z,Hi:=b.Hi.Z} : ql)] else []) = colS s x y from rfl,c];rfl
end Go.Sh
