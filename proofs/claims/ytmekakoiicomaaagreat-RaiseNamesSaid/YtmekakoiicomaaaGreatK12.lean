/- Qb1 Rs4 Qb2 Pf3 Rs5 Rs6 Rs7 Rs8 Pt6a Pt8a Ru1 Ru2 Rn1 -/
import Derived.Test.YtmekakoiicomaaaGreatK11
namespace Go.Sh
open Go Go.Am
def sumN : Nat→(Int→Int)→Int
  | 0,_=>0
  | n + 1,f=>sumN n f + f n
theorem qjm {f g : Int→Int} : ∀ {n : Nat},sumN n (fun x=>f x + g x) = sumN n f + sumN n g
  | 0=>rfl
  | n + 1=>by rw [sumN,sumN,sumN,qjm (n:=n)];omega
theorem qjp {c : Int} {f : Int→Int} : ∀ {n : Nat},sumN n (fun x=>c * f x) = c * sumN n f
  | 0=>by simp [sumN]
  | n + 1=>by rw [sumN,sumN,qjp (n:=n),Int.mul_add]
theorem qjq : ∀ {n : Nat},sumN n (fun _=>0) = 0
  | 0=>rfl
  | n + 1=>by rw [sumN,qjq (n:=n)];rfl
theorem qjo {f g : Int→Int} : ∀ {n : Nat},(∀ k : Nat,k < n→f k≤g k)→sumN n f≤sumN n g
  | 0,_=>Int.le_refl _
  | n + 1,h=>by have:=qjo (n:=n) fun k a=>h k q6;have:=h n q6;rw [sumN,sumN];omega
noncomputable def ind (p : Prop) : Int:=by classical exact if p then 1 else 0
theorem q9a {p : Prop} (h : p) : ind p = 1:=by unfold ind;simp [h]
theorem Jo {p : Prop} (h : ¬ p) : ind p = 0:=by unfold ind;simp [h]
theorem q3y {p q : Prop} (h : p↔q) : ind p = ind q:=by rw [propext h]
theorem qgj {p q : Prop} : ind (p∧q) = ind p * ind q:=by
  by_cases hp : p <;> by_cases a : q
  · rw [q9a ⟨hp,a⟩,q9a hp,q9a a];rfl
  · rw [Jo (fun h=>a h.2),Jo a];simp
  · rw [Jo (fun h=>hp h.1),Jo hp];simp
  · rw [Jo (fun h=>hp h.1),Jo hp];simp
theorem qny {p q : Prop} : ind (p∨q) = ind p + ind q - ind (p∧q):=by
  by_cases hp : p <;> by_cases a : q <;> simp [ind,hp,a]
theorem qgk {p : Prop} : 0≤ind p∧ind p≤1:=by by_cases hp : p <;> simp [ind,hp]
theorem qjn (a b : Int) : ∀ {n : Nat},sumN n (fun x=>ind (a≤x∧x < b)) = max 0 (min b n - max a 0)
  | 0=>by rw [sumN];omega
  | n + 1=>by
    rw [sumN,qjn a b (n:=n)]
    by_cases h : a≤(n : Int)∧(n : Int) < b
    · rw [q9a h];omega
    · rw [Jo h];omega
def sumZ (N : Nat) (f : Int→Int) : Int:=sumN (2 * N) fun k=>f (k - N)
theorem qx3 {N : Nat} {f g : Int→Int} : sumZ N (fun x=>f x + g x) = sumZ N f + sumZ N g:=qjm
theorem q8f {N : Nat} {c : Int} {f : Int→Int} : sumZ N (fun x=>c * f x) = c * sumZ N f:=qjp
theorem qjr {N : Nat} : sumZ N (fun _=>0) = 0:=qjq
theorem qai {N : Nat} {f g : Int→Int} (h : ∀ x : Int,-(N : Int)≤x→x < N→f x≤g x) : sumZ N f≤sumZ N g:=
  qjo fun k a=>h _ q6 q6
theorem qdq {N : Nat} {a b : Int} (d : -N≤a) (c : a≤b) (f : b≤N) : sumZ N (fun x=>ind (a≤x∧x < b)) = b - a:=by
  unfold sumZ
  have : (fun k : Int=>ind (a≤k - N∧k - N < b)) = fun k=>ind (a + N≤k∧k < b + N):=by
    funext k;exact q3y ⟨fun h=>q6,fun h=>q6⟩
  simp only [this];rw [qjn];omega
theorem qdr {N : Nat} {f : Int→Int} (h : ∀ x : Int,-(N : Int)≤x→x < N→0≤f x) : 0≤sumZ N f:=by
  rw [← qjr (N:=N)];exact qai h
theorem qdp {N : Nat} {c : Int} : sumZ N (fun _=>c) = 2 * N * c:=by
  have : ∀ n : Nat,sumN n (fun _=>c) = n * c:=by
    intro n
    induction n with
    | zero=>simp [sumN]
    | succ n ih=>rw [sumN,ih,Int.natCast_succ,Int.add_mul,Int.one_mul]
  unfold sumZ;rw [this];simp
noncomputable def cnt3 (N : Nat) (P : Int→Int→Int→Prop) : Int:=sumZ N fun x=>sumZ N fun y=>sumZ N fun z=>ind (P x y z)
def sumL {α : Type} (f : α→Int) : List α→Int
  | []=>0
  | a::r=>f a + sumL f r
theorem qjl {α : Type} (f : α→Int) (a b : List α) : sumL f (a ++ b) = sumL f a + sumL f b:=by
  induction a with
  | nil=>simp [sumL]
  | cons x a ih=>rw [List.cons_append,sumL,sumL,ih];omega
theorem qx2 {α : Type} {f g : α→Int} {l : List α} (h : ∀ a∈l,f a = g a) : sumL f l = sumL g l:=by
  induction l with
  | nil=>rfl
  | cons a l ih=>rw [sumL,sumL,h a qe,ih fun b hb=>h b (by simp [hb])]
theorem qdo {α : Type} {N : Nat} (f : α→Int→Int) (l : List α) : sumL (fun a=>sumZ N (f a)) l = sumZ N fun x=>sumL (fun a=>f a x) l:=by
  induction l with
  | nil=>exact qjr.symm
  | cons a l ih=>
    have : (fun x=>sumL (fun a=>f a x) (a::l)) = fun x=>f a x + (fun x=>sumL (fun a=>f a x) l) x:=rfl;rw [sumL,ih,this,qx3]
def inB (b : qn) (x y z : Int) : Prop:=(b.Lo.X≤x∧x < b.Hi.X)∧(b.Lo.Y≤y∧y < b.Hi.Y)∧(b.Lo.Z≤z∧z < b.Hi.Z)
def inR (r : ql) (x y : Int) : Prop:=(r.X0≤x∧x < r.X1)∧(r.Y0≤y∧y < r.Y1)
def inS (t : qm) (x : Int) : Prop:=t.Lo≤x∧x < t.Hi
def volB (b : qn) : Int:=(b.Hi.X - b.Lo.X) * (b.Hi.Y - b.Lo.Y) * (b.Hi.Z - b.Lo.Z)
theorem qxb {N : Nat} {b : qn} (h : (b.Lo.X≤b.Hi.X∧b.Lo.Y≤b.Hi.Y∧b.Lo.Z≤b.Hi.Z)∧(-(N : Int)≤b.Lo.X∧-(N : Int)≤b.Lo.Y∧-(N : Int)≤b.Lo.Z)∧b.Hi.X≤N∧b.Hi.Y≤N∧b.Hi.Z≤N) :
    volB b = cnt3 N (inB b):=by
  obtain ⟨⟨j,f,m⟩,⟨g,l,a⟩,k,d,c⟩:=h;unfold cnt3
  have e : ∀ x y,(sumZ N fun z=>ind (inB b x y z)) = ind (b.Lo.X≤x∧x < b.Hi.X) * (ind (b.Lo.Y≤y∧y < b.Hi.Y) * (b.Hi.Z - b.Lo.Z)):=fun x y=>by
    have : (fun z=>ind (inB b x y z)) = fun z=>ind (b.Lo.X≤x∧x < b.Hi.X) * (ind (b.Lo.Y≤y∧y < b.Hi.Y) * ind (b.Lo.Z≤z∧z < b.Hi.Z)):=by
      funext z;unfold inB;rw [qgj (p:=_∧_) (q:=(_∧_)∧_),qgj (p:=_∧_) (q:=_∧_)]
    rw [this,q8f,q8f,qdq a m c]
  have n : ∀ x,(sumZ N fun y=>sumZ N fun z=>ind (inB b x y z)) = ind (b.Lo.X≤x∧x < b.Hi.X) * ((b.Hi.Y - b.Lo.Y) * (b.Hi.Z - b.Lo.Z)):=fun x=>by
    have : (fun y=>sumZ N fun z=>ind (inB b x y z)) = fun y=>ind (b.Lo.X≤x∧x < b.Hi.X) * ((b.Hi.Z - b.Lo.Z) * ind (b.Lo.Y≤y∧y < b.Hi.Y)):=by
      funext y;rw [e,Int.mul_comm (b.Hi.Z - b.Lo.Z)]
    rw [this,q8f,q8f,qdq l f d,Int.mul_comm (b.Hi.Z - b.Lo.Z)]
  have : (fun x=>sumZ N fun y=>sumZ N fun z=>ind (inB b x y z)) = fun x=>((b.Hi.Y - b.Lo.Y) * (b.Hi.Z - b.Lo.Z)) * ind (b.Lo.X≤x∧x < b.Hi.X):=by
    funext x;rw [n,Int.mul_comm]
  rw [this,q8f,qdq g j k,volB];simp only [Int.mul_assoc,Int.mul_comm]
noncomputable def cntS (s : List qm) (y : Int) : Int:=sumL (fun t=>ind (inS t y)) s
noncomputable def cntR (l : List ql) (x y : Int) : Int:=sumL (fun t=>ind (inR t x y)) l
noncomputable def cntB (l : List qn) (x y z : Int) : Int:=sumL (fun t=>ind (inB t x y z)) l
theorem qer : ∀ {s : List qm},Can s→∀ y,cntS s y = ind (has s y)
  | [],_,y=>by rw [Jo (Uw y)];rfl
  | a::s,h,y=>by
    have b:=qer h.tail y
    unfold cntS at b ⊢
    rw [sumL,b,q3y (Ze (a:=a) (s:=s) (x:=y)),qny]
    have : ¬ ((a.Lo≤y∧y < a.Hi)∧has s y):=fun ⟨c,h2⟩=>by have:=h.tail_gt h2;omega
    rw [Jo this];unfold inS;omega
theorem qlz (l : List ql) (x y : Int) : cntR l x y = cntS (covS l x) y:=by
  unfold cntR cntS
  induction l with
  | nil=>rfl
  | cons r l ih=>
    have e : covS (r::l) x = (if covR x r = true then [ysp r] else []) ++ covS l x:=rfl;rw [sumL,ih,e,qjl];congr 1;by_cases a : covR x r = true
    · rw [qs a];have:=q3o.1 a;simp only [sumL,Int.add_zero];exact q3y ⟨fun h=>h.2,fun h=>⟨this,h⟩⟩
    · rw [qy a];rw [q3o] at a;exact Jo fun h=>a h.1
theorem qly (l : List qn) (x y z : Int) : cntB l x y z = cntR (atB l z) x y:=by
  unfold cntB cntR
  induction l with
  | nil=>rfl
  | cons r l ih=>
    have e : atB (r::l) z = (if covB z r = true then [Zm r] else []) ++ atB l z:=rfl;rw [sumL,ih,e,qjl];congr 1;by_cases a : covB z r = true
    · rw [qs a];have:=q1f.1 a;simp only [sumL,Int.add_zero];exact q3y ⟨fun h=>⟨h.1,h.2.1⟩,fun h=>⟨h.1,h.2,this⟩⟩
    · rw [qy a];rw [q1f] at a;exact Jo fun h=>a h.2.2
theorem CanR.cnt {l : List ql} (h : CanR l) (x y : Int) : cntR l x y = ind (hasR l x y):=by
  rw [qlz,qer (h.cov x),q3y q3x]
theorem CanB.cnt {l : List qn} (h : CanB l) (x y z : Int) : cntB l x y z = ind (hasB l x y z):=by
  rw [qly,(h.at z).cnt,q3y q2s]
def volL (l : List qn) : Int:=sumL volB l
theorem qxe {N : Nat} {l : List qn} (a : ∀ x y z,cntB l x y z = ind (hasB l x y z)) (h : ∀ b∈l,(b.Lo.X≤b.Hi.X∧b.Lo.Y≤b.Hi.Y∧b.Lo.Z≤b.Hi.Z)∧(-(N : Int)≤b.Lo.X∧-(N : Int)≤b.Lo.Y∧-(N : Int)≤b.Lo.Z)∧b.Hi.X≤N∧b.Hi.Y≤N∧b.Hi.Z≤N) :
    volL l = cnt3 N (hasB l):=by
  unfold volL;rw [qx2 fun b hb=>qxb (h b hb)];unfold cnt3;rw [qdo];congr 1;funext x;rw [qdo];congr 1;funext y;rw [qdo];congr 1;funext z;exact a x y z
theorem qxd {l : List qn} (a : CanB l) (h : ∀ b∈l,vB b) : volL l = cnt3 1000000 (hasB l):=
  qxe a.cnt fun b hb=>by have:=h b hb;unfold vB at this;omega
end Go.Sh
namespace Go.Sh
open Go Go.Am
theorem qn5 {α β γ : Type} (l : List α) (_ : l.length≤1000000) (g : γ→α→γ) (fin : γ→β) (f : γ × Int→Option ((γ × Int) ⊕ β))
    (hs : ∀ k (h : k < l.length) (s : γ),f (s,(k : Int)) = some (.inl (g s l[k],((k + 1 : Nat) : Int)))) (hd : ∀ s,f (s,(l.length : Int)) = some (.inr (fin s))) (s : γ) :
    loop f (s,0) = some (fin (l.foldl g s)):=by
  have key:=Zw (f:=f) (fun k=>((l.take k).foldl g s,(k : Int))) l.length (fin (l.foldl g s)) (fun k a=>by
    rw [hs k a,List.take_succ_eq_append_getElem a,List.foldl_append];rfl) (by rw [List.take_length,hd]) (Nat.zero_le _)
  exact key
theorem qdt (x : Int) : w64 x = if 9223372036854775808≤x % 18446744073709551616 then x % 18446744073709551616 - 18446744073709551616 else x % 18446744073709551616:=by
  unfold w64 IntKind.wrap;simp [IntKind.bits,IntKind.signed]
theorem qxi (x y : Int) (h : x % 18446744073709551616 = y % 18446744073709551616) : w64 x = w64 y:=by rw [qdt,qdt,h]
theorem qxj (x : Int) : w64 x % 18446744073709551616 = x % 18446744073709551616:=by rw [qdt];split <;> omega
theorem qxh (a b : Int) : w64 (w64 a + b) = w64 (a + b):=qxi _ _ (by have:=qxj a;omega)
theorem qqi {x y z : Int} (c : 0≤x∧x≤2000000) (a : 0≤y∧y≤2000000) (b : 0≤z∧z≤2000000) : (0≤x * y∧x * y≤4000000000000)∧0≤x * y * z∧x * y * z≤8000000000000000000:=by
  have d : 0≤x * y:=Int.mul_nonneg c.1 a.1;have f : x * y≤2000000 * 2000000:=Int.mul_le_mul c.2 a.2 a.1 q6;have h : 0≤x * y * z:=Int.mul_nonneg d b.1;have g : x * y * z≤4000000000000 * 2000000:=Int.mul_le_mul q6 b.2 b.1 q6;omega
theorem qxg {b : qn} (h : vB b) : w64 ((w64 ((w64 (b.Hi.X - b.Lo.X)) * (w64 (b.Hi.Y - b.Lo.Y)))) * (w64 (b.Hi.Z - b.Lo.Z))) = volB b:=by
  unfold vB at h;rw [Qa (x:=b.Hi.X - b.Lo.X) q6,Qa (x:=b.Hi.Y - b.Lo.Y) q6,Qa (x:=b.Hi.Z - b.Lo.Z) q6];have:=qqi (x:=b.Hi.X - b.Lo.X) (y:=b.Hi.Y - b.Lo.Y) (z:=b.Hi.Z - b.Lo.Z) q6 q6 q6;rw [Qa (x:=(b.Hi.X - b.Lo.X) * (b.Hi.Y - b.Lo.Y)) q6,Qa q6];rfl
theorem qfx {α : Type} (f : α→Int) : ∀ (l : List α) (n m : Int),n = w64 m→l.foldl (fun n b=>w64 (n + f b)) n = w64 (m + sumL f l)
  | [],n,m,h=>by simp [sumL,h]
  | b::l,n,m,h=>by
    rw [List.foldl_cons,qfx f l _ (m + f b) (by rw [h,qxh]),sumL,Int.add_assoc]
theorem qfw {α γ : Type} {f g : γ→α→γ} : ∀ {l : List α} {s : γ},(∀ b∈l,∀ s,f s b = g s b)→l.foldl f s = l.foldl g s
  | [],_,_=>rfl
  | b::l,s,h=>by rw [List.foldl_cons,List.foldl_cons,h b qe,qfw fun c a=>h c (by simp [a])]
theorem qlx (N : Nat) (P : Int→Int→Int→Prop) : 0≤cnt3 N P∧cnt3 N P≤2 * N * (2 * N * (2 * N * 1)):=by
  constructor
  · exact qdr fun x _ _=>qdr fun y _ _=>qdr fun z _ _=>qgk.1
  · rw [← qdp (N:=N) (c:=1),← qdp,← qdp];exact qai fun x _ _=>qai fun y _ _=>qai fun z _ _=>qgk.2
theorem qxc {l : List qn} (h : Ky l = 0) : 0≤volL l∧volL l≤8000000000000000000:=by
  obtain ⟨c,b,a⟩:=q2j.1 h;rw [qxd a b];have:=qlx 1000000 (hasB l);omega
noncomputable def volume (l : List qn) : Int × Int:=if Ky l≠0 then (0,Ky l) else (volL l,0)
theorem qxf {l : List qn} (h : Ky l = 0) : l.foldl (fun n b=>w64 (n + w64 ((w64 ((w64 (b.Hi.X - b.Lo.X)) * (w64 (b.Hi.Y - b.Lo.Y)))) * (w64 (b.Hi.Z - b.Lo.Z))))) 0 = volL l:=by
  obtain ⟨c,a,d⟩:=q2j.1 h;rw [qfw (g:=fun n b=>w64 (n + volB b)) fun b hb s=>by rw [qxg (a b hb)]];rw [qfx volB l 0 0 (by rw [Qa q6])];have:=qxc h;rw [Qa (by unfold volL at this;omega),Int.zero_add];rfl
theorem qvx (l : List qn) : q5k l = some (volume l):=by
  unfold q5k volume;rw [qac,qp];by_cases h : Ky l = 0
  · rw [qy (by simp [h]),h,show ((0 : Int) != 0) = false from rfl,Q2];have c:=(q2j.1 h).1
    rw [qn5 l q6 (fun n b=>w64 (n + w64 ((w64 ((w64 (b.Hi.X - b.Lo.X)) * (w64 (b.Hi.Y - b.Lo.Y)))) * (w64 (b.Hi.Z - b.Lo.Z))))) (fun n=>n) (q5l l) (fun k a s=>by
      simp only [q5l,dlt a,Q1,K5 a,qp,qae,w64s a q6]) (fun s=>by simp only [q5l,dnl,Q2]) 0,qxf h]
    rfl
  · have : (Ky l != 0) = true:=by simpa using h
    rw [qs h,this,Q1]
theorem qnq {b : qn} {l : List qn} {x y z : Int} : hasB (b::l) x y z↔inB b x y z∨hasB l x y z:=by
  constructor
  · rintro ⟨c,a,h⟩;rcases List.mem_cons.1 a with rfl | a
    · exact .inl h
    · exact .inr ⟨c,a,h⟩
  · rintro (h | ⟨c,a,h⟩)
    · exact ⟨b,qe,h⟩
    · exact ⟨c,by simp [a],h⟩
instance (b : qn) (x y z : Int) : Decidable (inB b x y z):=by unfold inB;infer_instance
instance qmf : (l : List qn)→(x y z : Int)→Decidable (hasB l x y z)
  | [],x,y,z=>isFalse (qbw x y z)
  | b::l,x,y,z=>by
    have:=qmf l x y z
    exact decidable_of_iff _ qnq.symm
end Go.Sh
namespace Go.Sh
open Go Go.Am
end Go.Sh
namespace Go.Sh
open Go Go.Am
abbrev V3:=qj × qj × qj
def zeroV : qj:=⟨0,0,0⟩
noncomputable def axT (t : Nat) : V3:=match q1h (t : Int) with
  | some m=>m
  | none=>(zeroV,zeroV,zeroV)
theorem q92 : ∀ t : Nat,t < 24→q1h (t : Int) = some (axT t):=by decide +kernel
def Z4 (v : qj) : Prop:=-1≤v.X∧v.X≤1∧-1≤v.Y∧v.Y≤1∧-1≤v.Z∧v.Z≤1
instance (v : qj) : Decidable (Z4 v):=by unfold Z4;infer_instance
theorem qb0 : ∀ t : Nat,t < 24→Z4 (axT t).1∧Z4 (axT t).2.1∧Z4 (axT t).2.2:=by decide +kernel
theorem qkp : ∀ t : Nat,t < 24→∀ u : Nat,u < 24→axT t = axT u→t = u:=by decide +kernel
theorem qkq : axT 0 = (⟨1,0,0⟩,⟨0,1,0⟩,⟨0,0,1⟩):=by decide +kernel
def mulV (m : V3) (v : qj) : qj:=⟨v.X * m.1.X + v.Y * m.2.1.X + v.Z * m.2.2.X,v.X * m.1.Y + v.Y * m.2.1.Y + v.Z * m.2.2.Y,v.X * m.1.Z + v.Y * m.2.1.Z + v.Z * m.2.2.Z⟩
def addV (a b : qj) : qj:=⟨a.X + b.X,a.Y + b.Y,a.Z + b.Z⟩
def Zg (v : qj) (n : Int) : Prop:=-n≤v.X∧v.X≤n∧-n≤v.Y∧v.Y≤n∧-n≤v.Z∧v.Z≤n
theorem qou {a b : Int} {n : Int} (c : -n≤a∧a≤n) (hb : -1≤b∧b≤1) : -n≤a * b∧a * b≤n:=by
  have : b = -1∨b = 0∨b = 1:=by omega
  rcases this with rfl | rfl | rfl <;> simp <;> omega
theorem qhd {m : V3} {v : qj} {n : Int} (c : Z4 m.1∧Z4 m.2.1∧Z4 m.2.2) (d : Zg v n) :
    (∀ a∈[v.X * m.1.X,v.Y * m.2.1.X,v.Z * m.2.2.X,v.X * m.1.Y,v.Y * m.2.1.Y,v.Z * m.2.2.Y,v.X * m.1.Z,v.Y * m.2.1.Z,v.Z * m.2.2.Z],-n≤a∧a≤n):=by
  obtain ⟨⟨w,x,a3,f,a5,u⟩,⟨b1,p,t,q,g,l⟩,⟨c1,c2,c3,c4,o,y⟩⟩:=c;obtain ⟨z,j,h,r,s,k⟩:=d;intro a b;simp only [List.mem_cons,List.not_mem_nil,or_false] at b;rcases b with rfl | rfl | rfl | rfl | rfl | rfl | rfl | rfl | rfl <;> exact qou ⟨by assumption,by assumption⟩ ⟨by assumption,by assumption⟩
theorem qot {m : V3} {v : qj} {n : Int} (a : Z4 m.1∧Z4 m.2.1∧Z4 m.2.2) (c : Zg v n) : Zg (mulV m v) (3 * n):=by
  have b:=qhd a c;simp only [List.mem_cons,List.not_mem_nil,or_false,forall_eq_or_imp,forall_eq] at b;unfold Zg mulV;simp only;omega
theorem q95 {m : V3} {v : qj} (a : Z4 m.1∧Z4 m.2.1∧Z4 m.2.2) (c : Zg v 1000000000000) : q3v m v = some (mulV m v):=by
  have b:=qhd a c;simp only [List.mem_cons,List.not_mem_nil,or_false,forall_eq_or_imp,forall_eq] at b;unfold q3v mulV;congr 2
  · rw [Qa (x:=v.X * m.1.X) q6,Qa (x:=v.Y * m.2.1.X) q6,Qa (x:=v.Z * m.2.2.X) q6,Qa (x:=v.X * m.1.X + _) q6,Qa q6]
  · rw [Qa (x:=v.X * m.1.Y) q6,Qa (x:=v.Y * m.2.1.Y) q6,Qa (x:=v.Z * m.2.2.Y) q6,Qa (x:=v.X * m.1.Y + _) q6,Qa q6]
  · rw [Qa (x:=v.X * m.1.Z) q6,Qa (x:=v.Y * m.2.1.Z) q6,Qa (x:=v.Z * m.2.2.Z) q6,Qa (x:=v.X * m.1.Z + _) q6,Qa q6]
noncomputable def Zf (t : Nat) (at_ v : qj) : qj:=addV (mulV (axT t) v) at_
theorem qnf {f : Qq} {t : Nat} {v : qj} (g : f.Turn = t) (h : t < 24) (d : Zg f.At 1000000000000) (a : Zg v 1000000000000) : q6f f v = some (Zf t f.At v):=by
  have c:=qb0 t h;unfold q6f;rw [g,q92 t h];simp only [qp,q95 c a];have b:=qot c a;unfold Zg at b d;unfold Zf addV;rw [Qa q6,Qa q6,Qa q6]
theorem qov {u : Nat} (h : u < 24) : q6g (axT u) = some (u : Int):=by
  have key:=Zx (f:=q3u (axT u)) (σ:=Unit) (fun k _=>(k : Int)) 24 (fun k _=>k≤u) (fun b=>b = .inr (u : Int)) ?_ ?_ (k0:=0) (c0:=()) q6 q6
  · obtain ⟨b,j,rfl⟩:=key;have j : loop (q3u (axT u)) 0 = some (.inr (u : Int)):=j;unfold q6g;rw [j];rfl
  · intro k _ l n;have hb : decide ((k : Int) < 24) = true:=Qe q6;simp only [q3u,hb,Q1,q92 k l,qp];by_cases e : k = u
    · subst e;exact .inr ⟨.inr (k : Int),qe,rfl⟩
    · have g : axT k≠axT u:=fun o=>e (qkp k l u h o);refine .inl ⟨(),?_,q6⟩
      have m : IntKind.u8.wrap ((k : Int) + 1) = ((k + 1 : Nat) : Int):=by
        simp [IntKind.wrap,IntKind.bits,IntKind.signed];omega
      have d : ((axT k).1.X == (axT u).1.X && ((axT k).1.Y == (axT u).1.Y && ((axT k).1.Z == (axT u).1.Z && ((axT k).2.1.X == (axT u).2.1.X && ((axT k).2.1.Y == (axT u).2.1.Y && ((axT k).2.1.Z == (axT u).2.1.Z && ((axT k).2.2.X == (axT u).2.2.X && ((axT k).2.2.Y == (axT u).2.2.Y && ((axT k).2.2.Z == (axT u).2.2.Z && true))))))))) = false:=by
        rw [Bool.eq_false_iff];intro c;simp only [Bool.and_eq_true,beq_iff_eq] at c;apply g;generalize axT k = a at c ⊢;generalize axT u = b at c ⊢;obtain ⟨⟨a1,a2,a3⟩,⟨p,a5,a6⟩,⟨t,q,v⟩⟩:=a;obtain ⟨⟨b1,y,z⟩,⟨x,s,w⟩,⟨r,b8,b9⟩⟩:=b;simp only at c;obtain ⟨rfl,rfl,rfl,rfl,rfl,rfl,rfl,rfl,rfl,_⟩:=c;rfl
      rw [d,m];rfl
  · intro _ hi;omega
def qf0 (n m : V3) : V3:=(mulV n m.1,mulV n m.2.1,mulV n m.2.2)
noncomputable def Ja (t u : Nat) : Nat:=match (List.range 24).find? (fun v=>decide (axT v = qf0 (axT u) (axT t))) with
  | some v=>v
  | none=>0
theorem qm1 : ∀ t : Nat,t < 24→∀ u : Nat,u < 24→Ja t u < 24∧axT (Ja t u) = qf0 (axT u) (axT t):=by decide +kernel
theorem qm2 : ∀ u : Nat,u < 24→Ja 0 u = u:=by decide +kernel
theorem qds {v : qj} (h : Z4 v) : Zg v 1000000000000:=by unfold Z4 at h;unfold Zg;omega
theorem qxq {f g : Qq} {t u : Nat} (l : f.Turn = t) (c : g.Turn = u) (h : t < 24) (a : u < 24) (d : Zg f.At 1000000000000) (n : Zg g.At 1000000000000) : q6h f g = some ⟨(Ja t u : Nat),Zf u g.At f.At⟩:=by
  have b:=qb0 u a;obtain ⟨b1,j,m⟩:=qb0 t h;unfold q6h;rw [l,c,q92 t h,q92 u a];simp only [qp];have k:=q95 b (qds b1);have p:=q95 b (qds j);have o:=q95 b (qds m)
  have key : loop (q1i (axT u)) (0,[(axT t).1,(axT t).2.1,(axT t).2.2]) = some [mulV (axT u) (axT t).1,mulV (axT u) (axT t).2.1,mulV (axT u) (axT t).2.2]:=by
    rw [Ki (a':=((1 : Int),[mulV (axT u) (axT t).1,(axT t).2.1,(axT t).2.2])) (by simp [q1i,idxA,k,Qa])];rw [Ki (a':=((2 : Int),[mulV (axT u) (axT t).1,mulV (axT u) (axT t).2.1,(axT t).2.2])) (by simp [q1i,idxA,p,Qa])];rw [Ki (a':=((3 : Int),[mulV (axT u) (axT t).1,mulV (axT u) (axT t).2.1,mulV (axT u) (axT t).2.2])) (by simp [q1i,idxA,o,Qa])];exact Kc (by simp [q1i])
  rw [key];simp only [qp,arr3];obtain ⟨c1,c2⟩:=qm1 t h u a;have : (mulV (axT u) (axT t).1,mulV (axT u) (axT t).2.1,mulV (axT u) (axT t).2.2) = axT (Ja t u):=c2.symm;rw [this,qov c1,qnf c a n d];rfl
def InV (v : qj) (lo : Int) : Prop:=lo≤v.X∧v.X≤1000000∧lo≤v.Y∧v.Y≤1000000∧lo≤v.Z∧v.Z≤1000000
instance (v : qj) (lo : Int) : Decidable (InV v lo):=by unfold InV;infer_instance
theorem qbk (v : qj) (lo : Int) : q2p v lo = some (decide (InV v lo)):=by
  unfold q2p;by_cases a : min (min v.X v.Y) v.Z ≥ lo
  · by_cases b : max (max v.X v.Y) v.Z≤1000000
    · have : InV v lo:=by unfold InV;omega
      simp only [Qe a,Qe b,Qe this,Q1,qp]
    · have : ¬ InV v lo:=by unfold InV;omega
      simp only [Qe a,Qm b,Qm this,Q1,qp]
  · have : ¬ InV v lo:=by unfold InV;omega
    simp only [Qm a,Qm this,Q2,qp]
def FOk (f : Qq) : Prop:=f.Turn < 24∧InV f.At (-1000000)
instance (f : Qq) : Decidable (FOk f):=by unfold FOk;infer_instance
def SOk (s : Q6) : Prop:=FOk s.Frame∧InV s.Size 0
instance (s : Q6) : Decidable (SOk s):=by unfold SOk;infer_instance
theorem qen {P Q : Prop} [Decidable P] [Decidable Q] {R : Prop} [Decidable R] (h : R↔P∧Q) : ((cond (decide (¬ P)) (some true) ((some (decide Q)).bind fun a=>some (!a))).bind fun c3=>cond c3 (some (8 : Int)) (some 0)) = some (if R then 0 else 8):=by
  by_cases p : P <;> by_cases q : Q <;> simp [p,q,h]
theorem q6b (f : Qq) : Ul f = some (if FOk f then 0 else 8):=by
  unfold Ul;rw [qbk];have e : decide (f.Turn ≥ 24) = decide (¬ f.Turn < 24):=by rw [decide_eq_decide];omega
  rw [e];exact qen Iff.rfl
theorem qow {P : Prop} [Decidable P] {a : Int} (h : a≠0) : ((if P then (0 : Int) else a) != 0) = decide (¬ P):=by
  by_cases p : P <;> simp [p,h]
theorem qfn (s : Q6) : q6e s = some (if SOk s then 0 else 8):=by
  unfold q6e;rw [q6b,qbk];simp only [qp,qow (show (8 : Int)≠0 by omega)];exact qen Iff.rfl
theorem qgi {v : qj} {lo : Int} (h : InV v lo) (a : -1000000≤lo) : Zg v 1000000000000:=by unfold InV at h;unfold Zg;omega
def qxw : Qq:=⟨0,⟨0,0,0⟩⟩
def Kg : Q6:=⟨⟨0,⟨0,0,0⟩⟩,⟨0,0,0⟩⟩
theorem qka {f g : Qq} {t u : Nat} (l : f.Turn = t) (k : g.Turn = u) (a : FOk f) (d : FOk g) :
    q6d f g = some (if FOk ⟨(Ja t u : Nat),Zf u g.At f.At⟩ then (⟨(Ja t u : Nat),Zf u g.At f.At⟩,0) else (qxw,16)):=by
  unfold q6d;rw [q6b,q6b,qs a,qs d];have j : ((0 : Int) != 0) = false:=rfl;simp only [qp,j,Q2];have b : t < 24:=by have:=a.1;omega
  have c : u < 24:=by have:=d.1;omega
  rw [qxq l k b c (qgi a.2 q6) (qgi d.2 q6)];simp only [qp,q6b];by_cases h : FOk ⟨(Ja t u : Nat),Zf u g.At f.At⟩
  · simp only [qs h];rfl
  · simp only [qy h];rfl
theorem qas {s : Q6} {a z : qj} {t u : Nat} (j : s.Frame.Turn = u) (hs : SOk s) (d : t < 24) (c : InV a (-1000000)) (k : InV z 0) :
    Zd s a z (t : Int) = some (if FOk ⟨(Ja t u : Nat),Zf u s.Frame.At a⟩ then (⟨⟨(Ja t u : Nat),Zf u s.Frame.At a⟩,z⟩,0) else (Kg,16)):=by
  unfold Zd;have b : FOk ⟨(t : Int),a⟩:=⟨by show (t : Int) < 24;omega,c⟩
  rw [qfn,qs hs,q6b,qs b,qbk,Qe k];have g : ((0 : Int) != 0) = false:=rfl;simp only [qp,g,Q2,Bool.not_true];rw [qka (f:=⟨(t : Int),a⟩) rfl j b hs.1];by_cases h : FOk ⟨(Ja t u : Nat),Zf u s.Frame.At a⟩
  · simp only [qs h];rfl
  · simp only [qy h];rfl
theorem qk7 {s : Q6} {a z : qj} {t : Int} (hs : ¬ SOk s) : Zd s a z t = some (Kg,8):=by
  unfold Zd;rw [qfn,qy hs];rfl
theorem qnx (u : Nat) (a : qj) : Zf u a ⟨0,0,0⟩ = a:=by
  unfold Zf addV mulV;simp
end Go.Sh
namespace Go.Sh
open Go Go.Am
def rowOk (a b c : Int) : Prop:=(a = 1∧b = 0∧c = 0)∨(a = -1∧b = 0∧c = 0)∨(a = 0∧b = 1∧c = 0)∨(a = 0∧b = -1∧c = 0)∨(a = 0∧b = 0∧c = 1)∨(a = 0∧b = 0∧c = -1)
instance (a b c : Int) : Decidable (rowOk a b c):=by unfold rowOk;infer_instance
def qwa (p q : qj) : qn:={Lo:=({X:=min p.X q.X,Y:=min p.Y q.Y,Z:=min p.Z q.Z} : qj),Hi:=({X:=max p.X q.X,Y:=max p.Y q.Y,Z:=max p.Z q.Z} : qj)}
noncomputable def qhw (t : Nat) (at_ : qj) (b : qn) : qn:=qwa (Zf t at_ b.Lo) (Zf t at_ b.Hi)
noncomputable def place (l : List qn) (f : Qq) : List qn × Int:=
  if Ky l≠0 then ([],Ky l) else if ¬ FOk f then ([],8) else if ∀ b∈l,vB (qhw f.Turn.toNat f.At b) then mkB (l.map (qhw f.Turn.toNat f.At)) else ([],16)
end Go.Sh
namespace Go.Sh
open Go Go.Am
end Go.Sh
namespace Go.Sh
open Go Go.Am
def grpR : List ql→List (Grp qm)
  | []=>[]
  | r::l=>match grpR l with
    | g::gs=>if g.lo = r.X0∧g.hi = r.X1 then ⟨g.lo,g.hi,ysp r::g.sec⟩::gs else ⟨r.X0,r.X1,[ysp r]⟩::g::gs
    | []=>[⟨r.X0,r.X1,[ysp r]⟩]
def grpB : List qn→List (Grp ql)
  | []=>[]
  | r::l=>match grpB l with
    | g::gs=>if g.lo = r.Lo.Z∧g.hi = r.Hi.Z then ⟨g.lo,g.hi,Zm r::g.sec⟩::gs else ⟨r.Lo.Z,r.Hi.Z,[Zm r]⟩::g::gs
    | []=>[⟨r.Lo.Z,r.Hi.Z,[Zm r]⟩]
theorem qgc : ∀ l : List ql,Ks putR (grpR l) = l
  | []=>rfl
  | r::l=>by
    have a:=qgc l
    unfold grpR
    split
    · rename_i g d h
      rw [h] at a
      split
      · rename_i b
        obtain ⟨b,c⟩:=b
        rw [← a]
        simp only [Ks,List.flatMap_cons,List.map_cons,List.cons_append,b,c]
        congr 1
      · rw [← a];rfl
    · rename_i h
      rw [h] at a
      rw [← a];rfl
theorem qgb : ∀ l : List qn,Ks putB (grpB l) = l
  | []=>rfl
  | r::l=>by
    have a:=qgb l
    unfold grpB
    split
    · rename_i g d h
      rw [h] at a
      split
      · rename_i b
        obtain ⟨b,c⟩:=b
        rw [← a]
        simp only [Ks,List.flatMap_cons,List.map_cons,List.cons_append,b,c]
        congr 1
      · rw [← a];rfl
    · rename_i h
      rw [h] at a
      rw [← a];rfl
instance {σ : Type} [DecidableEq σ] (gs : List (Grp σ)) : Decidable (CanG gs):=by unfold CanG;infer_instance
instance (s : List qm) : Decidable (Can s):=by unfold Can;infer_instance
def isR (l : List ql) : Prop:=CanG (grpR l)∧∀ g∈grpR l,Can g.sec
instance (l : List ql) : Decidable (isR l):=by unfold isR;infer_instance
def isB (l : List qn) : Prop:=CanG (grpB l)∧∀ g∈grpB l,isR g.sec
instance (l : List qn) : Decidable (isB l):=by unfold isB;infer_instance
theorem isR.can {l : List ql} (h : isR l) : CanR l:=⟨grpR l,(qgc l).symm,h.1,h.2⟩
theorem isB.can {l : List qn} (h : isB l) : CanB l:=⟨grpB l,(qgb l).symm,h.1,fun g a=>(h.2 g a).can⟩
theorem qek {l : List qn} (h : l.length≤400∧(∀ b∈l,vB b)∧isB l) : Ky l = 0:=q2j.2 ⟨h.1,h.2.1,h.2.2.can⟩
def bx (x y z u v w : Int) : qn:={Lo:=({X:=x,Y:=y,Z:=z} : qj),Hi:=({X:=u,Y:=v,Z:=w} : qj)}
instance (kind : Int) (a b : Prop) [Decidable a] [Decidable b] : Decidable (Yx kind a b):=by unfold Yx;infer_instance
end Go.Sh
namespace Go.Sh
open Go Go.Am
end Go.Sh
namespace Go.Sh
open Go Go.Am
theorem q9w (z : Int) : q4a z = some (decide (Yf z)):=qfq z
noncomputable def q6p (p : List ql) (a b : Int) : List qn × Int:=
  if Ye p≠0 then ([],Ye p) else if Yf a∧Yf b∧a < b then (p.map (putB a b),0) else ([],2)
theorem qsv (p : List ql) (n : p.length≤400) (a b : Int) : q72 0 0 a b p = some (p,0,b,p.map (putB a b)):=by
  unfold q72
  have m : ((cond (decide ((p.length : Int) > 0)) (some ((0 : Int) == a)) (some false)).bind fun d=>(cond d ((Ue [] p).bind fun c=>some c) (some false))) = some false:=by
    by_cases j : p = []
    · subst j;simp
    · rw [q3r [] p qe];have : ([] : List ql)≠p:=fun h=>j h.symm;rw [Qm this];cases (decide ((p.length : Int) > 0)) <;> cases ((0 : Int) == a) <;> rfl
  have g:=q6l p (putB a b) [] (fun o=>(p,(0 : Int),b,o)) (q4b p a b) (fun k f o l=>by
    simp only [q4b,dlt f,Q1,K5 f,qp,w64s f q6];rw [Z5 (by simp at l ⊢;omega)]
    rfl) (fun o=>by simp only [q4b,dnl,Q2])
  rw [← Option.bind_assoc,m];simp only [qp,Q2,g,List.nil_append]
theorem qcx (p : List ql) (a b : Int) : Js p a b = some (q6p p a b):=by
  unfold Js q6p;rw [qd1,qp];by_cases f : Ye p = 0
  · have j : (Ye p != 0) = false:=by simp [f]
    have k:=(qem f).1;rw [j,Q2,qy (by simp [f])];simp only [q9w,qp,qsv p k];by_cases c : Yf a
    · by_cases hb : Yf b
      · by_cases d : a < b
        · have g : ¬ (b≤a):=by omega
          have l : decide (((p.map (putB a b)).length : Int) > 400) = false:=Qm (by simp;omega);rw [qs ⟨c,hb,d⟩];simp only [c,hb,decide_true,Bool.not_true,Q2,qp,ge_iff_le,g,decide_false,l]
        · have g : b≤a:=by omega
          rw [qy (fun h=>d h.2.2)];simp only [c,hb,decide_true,Bool.not_true,Q2,qp,ge_iff_le,g,Q1]
      · rw [qy (fun h=>hb h.2.1)];simp only [c,hb,decide_true,decide_false,Bool.not_true,Bool.not_false,Q2,qp,Q1]
    · rw [qy (fun h=>c h.1)];simp only [c,decide_false,Bool.not_false,qp,Q1]
  · have j : (Ye p != 0) = true:=by simpa using f
    rw [j,Q1,qs f]
end Go.Sh
namespace Go.Sh
open Go Go.Am
theorem qrm (s : Mg ql qn) (a b : Int) (c : List ql) (hl : (s.flat putB).length + c.length≤1000000) :
    q4c (s.flat putB) s.sec (s.done.length : Int) s.hi a b c = some ((addM putB s a b c).sec,((addM putB s a b c).done.length : Int),(addM putB s a b c).hi,(addM putB s a b c).flat putB):=by
  have w : (s.flat putB).length = s.done.length + s.sec.length:=by simp [Mg.flat]
  have d : s.sec.length≤1000000:=by omega
  unfold q4c;rcases q3m putB s a b c with ⟨p,r,x,m⟩ | ⟨p,m⟩
  · have hb : decide ((c.length : Int) > 0) = true:=Qe (by have:=List.length_pos_iff.2 p;omega);have y : (s.hi == a) = true:=by simpa using x
    rw [r] at hb;rw [m,r];simp only [hb,Q1,y,qp,q3r _ _ d,decide_true]
    have:=qbj (fun v : qn=>({Lo:=v.Lo,Hi:=({X:=v.Hi.X,Y:=v.Hi.Y,Z:=b} : qj)} : qn)) s.done (s.sec.map (putB s.lo s.hi)) (by simp;omega) (q4d b) (fun k o f u=>by
      have l : (s.done ++ s.sec.map (putB s.lo s.hi)).length = (s.flat putB).length:=rfl
      simp only [q4d,dlt f,Q1,K5 f,qp,w64s f q6,Int.toNat_natCast]) (fun o=>by simp only [q4d,dnl,Q2])
    rw [show s.flat putB = s.done ++ s.sec.map (putB s.lo s.hi) from rfl,this];simp only [qp,Mg.flat,List.map_map];rfl
  · rw [m]
    have z : ((cond (decide ((c.length : Int) > 0)) (some (s.hi == a)) (some false)).bind fun g=>(cond g ((Ue s.sec c).bind fun j=>some j) (some false))) = some false:=by
      by_cases l : c = []
      · subst l;simp
      · have hb : decide ((c.length : Int) > 0) = true:=Qe (by have:=List.length_pos_iff.2 l;omega);simp only [hb,Q1,qp,q3r _ _ d];by_cases q : s.hi = a
        · have t : s.sec≠c:=fun h=>p ⟨l,h.symm,q⟩;simp [q,t]
        · have : (s.hi == a) = false:=by simpa using q
          simp [this]
    have n:=q6l c (putB a b) (s.flat putB) (fun o=>(c,((s.flat putB).length : Int),b,o)) (q4e c a b (s.flat putB)) (fun k f o u=>by
      simp only [q4e,dlt f,Q1,K5 f,qp,w64s f q6];rw [Z5 (by simp;omega)]
      rfl) (fun o=>by simp only [q4e,dnl,Q2])
    rw [← Option.bind_assoc,z];simp only [qp,Q2,n];simp [Mg.flat]
def zAt : Int→List Qv→Nat→Int
  | z,[],_=>z
  | z,_::_,0=>z
  | z,s::r,k + 1=>zAt (z + s.Height) r k
theorem qan (z : Int) (l : List Qv) : zAt z l 0 = z:=by cases l <;> rfl
theorem qdy : ∀ (l : List Qv) (z : Int) (k : Nat) (h : k < l.length),zAt z l (k + 1) = zAt z l k + l[k].Height
  | [],_,_,h=>absurd h qe
  | s::r,z,0,_=>by simp [zAt,qan]
  | s::r,z,k + 1,h=>by
    have:=qdy r (z + s.Height) k (by simpa using h)
    simpa [zAt] using this
def Kt : Int→List Qv→List (Int × Int × List ql)
  | _,[]=>[]
  | z,s::r=>(z,z + s.Height,s.Region)::Kt (z + s.Height) r
theorem qdl : ∀ (l : List Qv) (z : Int),(Kt z l).length = l.length
  | [],_=>rfl
  | s::r,z=>by simp [Kt,qdl r]
theorem qdk : ∀ (l : List Qv) (z : Int) (k : Nat) (h : k < l.length) (a : k < (Kt z l).length),(Kt z l)[k] = (zAt z l k,zAt z l (k + 1),l[k].Region)
  | [],_,_,h,_=>absurd h qe
  | s::r,z,0,_,_=>by simp [Kt,zAt,qan]
  | s::r,z,k + 1,h,a=>by
    have:=qdk r (z + s.Height) k (by simpa using h) (by simpa [Kt] using a)
    simpa [Kt,zAt] using this
end Go.Sh
namespace Go.Sh
open Go Go.Am
noncomputable def footprint (s : List qn) : List ql × Int:=if Ky s≠0 then ([],Ky s) else mkR (s.map Zm)
theorem qqs (s : List qn) : q46 s = some (footprint s):=by
  unfold q46 footprint;rw [qac,qp];by_cases h : ¬ Ky s = 0
  · have : (Ky s != 0) = true:=by simpa using h
    rw [qs h,this,Q1]
  replace h:=Classical.not_not.1 h;have c:=(q2j.1 h).1;rw [qy (by simp [h]),h,show ((0 : Int) != 0) = false from rfl,Q2]
  have:=q6l s Zm [] (fun o=>o) (q47 s) (fun k a o b=>by
    simp only [q47,dlt a,Q1,K5 a,qp,w64s a q6];rw [Z5 (by simp at b ⊢;omega)]
    rfl) (fun o=>by simp only [q47,dnl,Q2])
  rw [List.nil_append] at this;rw [this];simp only [qp,qi8]
def colS (s : List qn) (x y : Int) : List qm:=s.flatMap fun b=>if decide (b.Lo.X≤x∧x < b.Hi.X) && decide (b.Lo.Y≤y∧y < b.Hi.Y) then [{Lo:=b.Lo.Z,Hi:=b.Hi.Z}] else []
theorem qey (s : List qn) (x y : Int) : (colS s x y).length≤s.length:=by
  unfold colS
  induction s with
  | nil=>simp
  | cons r l ih=>
    simp only [List.flatMap_cons,List.length_append,List.length_cons];have : (if (decide (r.Lo.X≤x∧x < r.Hi.X) && decide (r.Lo.Y≤y∧y < r.Hi.Y)) = true then [({Lo:=r.Lo.Z,Hi:=r.Hi.Z} : qm)] else []).length≤1:=by split <;> simp
    omega
theorem qm0 {s : List qn} (h : ∀ b∈s,vB b) (x y : Int) : ∀ t∈colS s x y,vld t:=by
  intro t c;unfold colS at c;rw [List.mem_flatMap] at c;obtain ⟨b,hb,a⟩:=c;split at a
  · obtain rfl:=List.mem_singleton.1 a;have:=h b hb;unfold vB at this;unfold vld;simp only;omega
  · cases a
noncomputable def column (s : List qn) (x y : Int) : List qm × Int:=if Ky s≠0 then ([],Ky s) else (U9 2 (colS s x y) [],0)
theorem qqp (s : List qn) (x y : Int) : q6y s x y = some (column s x y):=by
  unfold q6y column;rw [qac,qp];by_cases h : ¬ Ky s = 0
  · have : (Ky s != 0) = true:=by simpa using h
    rw [qs h,this,Q1]
  replace h:=Classical.not_not.1 h;obtain ⟨p,f,_⟩:=q2j.1 h;rw [qy (by simp [h]),h,show ((0 : Int) != 0) = false from rfl,Q2]
  have:=q5v s q6 (fun b=>if decide (b.Lo.X≤x∧x < b.Hi.X) && decide (b.Lo.Y≤y∧y < b.Hi.Y) then [({Lo:=b.Lo.Z,Hi:=b.Hi.Z} : qm)] else []) [] (fun o=>o) (q45 s x y) (fun k a o d=>by
    have n : o.length≤k:=by rw [d,List.nil_append];have:=qey (s.take k) x y;rw [List.length_take,Nat.min_eq_left q6] at this;exact this
    simp only [q45,dlt a,Q1,K5 a,qp,w64s a q6];by_cases l : s[k].Lo.X≤x <;> by_cases g : x < s[k].Hi.X <;> by_cases m : s[k].Lo.Y≤y <;> by_cases j : y < s[k].Hi.Y <;> simp [l,g,m,j]
    all_goals (rw [Z5 (by simp;omega)];rfl)) (fun o=>by simp only [q45,dnl,Q2])
  rw [List.nil_append] at this
  have c : q2a (colS s x y) = some (U9 2 (colS s x y) [],0):=by
    have:=qey s x y;rw [qgz];unfold q9f;rw [qy q6,qs (qm0 f x y)]
  rw [this];simp only [qp];rw [show s.flatMap (fun b=>if decide (b.Lo.X≤x∧x < b.Hi.X) && decide (b.Lo.Y≤y∧y < b.Hi.Y) then [({Lo:=b.Lo.Z,Hi:=b.Hi.Z} : qm)] else []) = colS s x y from rfl,c];rfl
end Go.Sh
namespace Go.Sh
open Go Go.Am
def badH (s : Qv) : Bool:=decide (s.Height < 1) || decide (s.Height > 1000000)
theorem qwm (s : Qv) : q12 s = some (badH s):=by
  unfold q12 badH;by_cases h : s.Height < 1 <;> simp [h]
theorem qdh (l : List Qv) (j : l.length≤100) : q7b l (fun a=>q12 a) = some (l.any badH):=by
  have hs : ∀ (k : Nat) (h : k < l.length),q35 l (fun a=>q12 a) (k : Int) = some (if badH l[k] = true then .inr (.inr (k : Int)) else .inl ((k + 1 : Nat) : Int)):=by
    intro k h;simp only [q35,dlt h,Q1,K5 h,qp,w64s h (by omega : l.length≤1000000),qwm];cases badH l[k] <;> simp
  have hd : q35 l (fun a=>q12 a) (l.length : Int) = some (.inr (.inl ())):=by simp only [q35,dnl,Q2]
  unfold q7b qa9;rcases q6a l badH (fun k _=>(k : Int)) () _ hs hd with ⟨d,b⟩ | ⟨k,c,f,_,b⟩
  · rw [b]
    have : l.any badH = false:=by
      rw [List.any_eq_false];intro x g;simp [d x g]
    rw [this];rfl
  · rw [b];have : l.any badH = true:=List.any_eq_true.2 ⟨_,Yi c,f⟩;rw [this];simp only [qp];rw [Qe q6]
theorem qdg {l : List Qv} (c : l.length≤100) (b : ∀ s∈l,Ye s.Region = 0) : loop (q13 l) 0 = some (.inl ()):=
  Zw (f:=q13 l) (fun k=>(k : Int)) l.length _ (fun k a=>by
    simp only [q13,dlt a,Q1,K5 a,qp,w64s a (by omega : l.length≤1000000),qd1,b _ (Yi a)];rfl) (by simp only [q13,dnl,Q2]) (Nat.zero_le _)
noncomputable def q5q (l : List Qv) (z : Int) : List qn:=(K4 putB K2 (Kt z l)).flat putB
theorem qwx {l : List Qv} {z : Int} {x : Int × Int × List ql} (b : x∈Kt z l) : ∃ s∈l,x.2.2 = s.Region:=by
  obtain ⟨k,a,rfl⟩:=List.getElem_of_mem b;rw [qdl] at a;rw [qdk l z k a];exact ⟨_,Yi a,rfl⟩
theorem qwq {l : List Qv} {z : Int} (hn : l.length≤100) (v : Yf z) (m : ∀ s∈l,1≤s.Height∧s.Height≤1000000) (n : ∀ s∈l,s.Region.length≤400) (j : ∀ k,k≤l.length→zAt z l k≤1000000) :
    loop (q14 l) (z,0,[],0,0,[]) = some (.inl ((K4 putB K2 (Kt z l)).sec,((K4 putB K2 (Kt z l)).done.length : Int),(K4 putB K2 (Kt z l)).hi,q5q l z)):=by
  have b:=qdl l z
  have p : ∀ t∈Kt z l,t.2.2.length≤400:=fun x y=>by
    obtain ⟨s,hs,e⟩:=qwx y;rw [e];exact n s hs
  have g : ∀ i,((K4 putB K2 ((Kt z l).take i)).flat putB).length≤40000:=fun i=>by
    have u:=qbo putB (s0:=K2) (M:=400) (steps:=(Kt z l).take i) (fun t q=>p t (List.mem_of_mem_take q));have h : ((Kt z l).take i).length≤100:=by rw [List.length_take];omega
    have w : (K2.flat putB : List qn).length = 0:=rfl;have r : ((Kt z l).take i).length * 400≤100 * 400:=Nat.mul_le_mul_right _ h;omega
  have c : ∀ k,k≤l.length→-1000000≤zAt z l k:=by
    intro k
    induction k with
    | zero=>intro _;rw [qan];exact v.1
    | succ k ih=>
      intro a;rw [qdy l z k q6];have:=m _ (Yi (by omega : k < l.length));have:=ih q6;omega
  have key:=Zw (f:=q14 l) (fun k=>(zAt z l k,(k : Int),(K4 putB K2 ((Kt z l).take k)).sec,((K4 putB K2 ((Kt z l).take k)).done.length : Int),(K4 putB K2 ((Kt z l).take k)).hi,(K4 putB K2 ((Kt z l).take k)).flat putB)) l.length
    (.inl ((K4 putB K2 (Kt z l)).sec,((K4 putB K2 (Kt z l)).done.length : Int),(K4 putB K2 (Kt z l)).hi,(K4 putB K2 (Kt z l)).flat putB)) (fun k a=>by
      have hr:=n _ (Yi a);have hm:=g k;have u:=j (k + 1) q6;have hd : decide (zAt z l (k + 1) > 1000000) = false:=Qm q6
      have ha : w64 (zAt z l k + l[k].Height) = zAt z l (k + 1):=by
        have h:=c k q6;have w:=m _ (Yi a);have r:=j k q6;rw [Qa q6,qdy l z k a]
      have d:=qrm (K4 putB K2 ((Kt z l).take k)) (zAt z l k) (zAt z l (k + 1)) l[k].Region q6;rw [qbp putB (by omega : k < (Kt z l).length),qdk l z k a]
      simp only [q14,dlt a,Q1,K5 a,qp,ha,hd,Q2,d,w64s a (by omega : l.length≤1000000)]) (by
      rw [← b,List.take_length,b]
      simp only [q14,dnl,Q2]) (Nat.zero_le _)
  have o:=qan z l;simp only [List.take_zero,o] at key;exact key
theorem qjf {l : List Qv} {z : Int} (b : l.length≤100) (f : Yf z) (d : ∀ s∈l,Ye s.Region = 0) (c : ∀ s∈l,1≤s.Height∧s.Height≤1000000) (g : ∀ k,k≤l.length→zAt z l k≤1000000) (h : (q5q l z).length≤400) :
    Yh l z = some (q5q l z,0):=by
  unfold Yh;have : decide ((l.length : Int) > 100) = false:=Qm q6;rw [this,Q2,qdg b d]
  have a : l.any badH = false:=by
    rw [List.any_eq_false];intro s hs;have:=c s hs;simp only [badH,Bool.or_eq_true,decide_eq_true_eq];omega
  simp only [qp,q9w,qdh l b,a,Qe f,Bool.not_true,Q2,qwq b f c (fun s hs=>(qbb.1 (d s hs)).1) g];rw [Qm (by omega : ¬ ((q5q l z).length : Int) > 400)];rfl
def qao : Q6 × Q6 × Q6 × Q6 × Q6 × Q6:=(Kg,Kg,Kg,Kg,Kg,Kg)
theorem q49 {s : Q6} (c : 0≤s.Frame.Turn) : q2x s = some (if SOk s then 0 else 8):=by
  unfold q2x;by_cases hs : SOk s
  · obtain ⟨u,b⟩ : ∃ u : Nat,s.Frame.Turn = u:=⟨s.Frame.Turn.toNat,q6⟩
    have h : Zd s ⟨0,0,0⟩ ⟨0,0,0⟩ ((0 : Nat) : Int) = _:=qas (t:=0) b hs q6 (by unfold InV;simp) (by unfold InV;simp);have a : u < 24:=by have:=hs.1.1;omega
    rw [qm2 u a,qnx,← b,qs hs.1] at h;have h : Zd s ⟨0,0,0⟩ ⟨0,0,0⟩ 0 = some (⟨⟨s.Frame.Turn,s.Frame.At⟩,⟨0,0,0⟩⟩,0):=h;rw [h,qs hs];rfl
  · rw [qk7 hs,qy hs];rfl
theorem qfm (s : Q6) : Jg s.Size 0 = some (10,⟨s.Size.X,0,0⟩,⟨s.Size.Y,s.Size.Z,0⟩):=rfl
theorem qmv (s : Q6) : Jg s.Size 1 = some (11,⟨0,0,s.Size.Z⟩,⟨s.Size.Y,s.Size.Z,0⟩):=rfl
theorem qmw (s : Q6) : Jg s.Size 2 = some (3,⟨0,s.Size.Y,s.Size.Z⟩,⟨s.Size.X,s.Size.Z,0⟩):=rfl
theorem qmx (s : Q6) : Jg s.Size 3 = some (2,⟨0,0,0⟩,⟨s.Size.X,s.Size.Z,0⟩):=rfl
theorem qmy (s : Q6) : Jg s.Size 4 = some (0,⟨0,0,s.Size.Z⟩,⟨s.Size.X,s.Size.Y,0⟩):=rfl
theorem qmz (s : Q6) : Jg s.Size 5 = some (1,⟨0,s.Size.Y,0⟩,⟨s.Size.X,s.Size.Y,0⟩):=rfl
theorem qi5 {s : Q6} {d : Int} {t : Int} {at_ flat : qj} {out : List Q6} {r : Q6 × Int} (hd : d < 6) (a : Jg s.Size d = some (t,at_,flat)) (hi : Zd s at_ flat t = some r) (g : ∃ v,idxA 6 out d = some v) :
    q11 (d,out,s.Frame.Turn,s.Frame.At.X,s.Frame.At.Y,s.Frame.At.Z,s.Size.X,s.Size.Y,s.Size.Z) =
      cond (r.2 != 0) (some (.inr (.inr (qao,r.2)))) (some (.inl (w64 (d + 1),out.set d.toNat r.1,s.Frame.Turn,s.Frame.At.X,s.Frame.At.Y,s.Frame.At.Z,s.Size.X,s.Size.Y,s.Size.Z))):=by
  obtain ⟨v,b⟩:=g
  have e : q6z d s.Frame.Turn s.Frame.At.X s.Frame.At.Y s.Frame.At.Z s.Size.X s.Size.Y s.Size.Z out = some (r.2,s.Frame.Turn,s.Frame.At.X,s.Frame.At.Y,s.Frame.At.Z,s.Size.X,s.Size.Y,s.Size.Z,out.set d.toNat r.1):=by
    unfold q6z;have f : Jg ({X:=s.Size.X,Y:=s.Size.Y,Z:=s.Size.Z} : qj) d = some (t,at_,flat):=a;have c : Zd ({Frame:=({Turn:=s.Frame.Turn,At:=({X:=s.Frame.At.X,Y:=s.Frame.At.Y,Z:=s.Frame.At.Z} : qj)} : Qq),Size:=({X:=s.Size.X,Y:=s.Size.Y,Z:=s.Size.Z} : qj)} : Q6) at_ flat t = some r:=hi;simp only [f,c,b,qp]
  unfold q11;simp only [Qe hd,Q1,e,qp];rfl
theorem idx6 {out : List Q6} (h : out.length = 6) {k : Nat} (a : k < 6) : ∃ v,idxA 6 out (k : Int) = some v:=by
  unfold idxA;rw [qs ⟨q6,q6⟩];exact ⟨_,List.getElem?_eq_getElem (by simpa using (by omega : k < out.length))⟩
def Kz : Q6:=⟨⟨0,⟨0,0,0⟩⟩,⟨2,3,4⟩⟩
theorem qez : ∀ t : Nat,t < 24→Ja t 0 = t:=by decide +kernel
theorem qnw (a : qj) : Zf 0 ⟨0,0,0⟩ a = a:=by
  obtain ⟨x,y,z⟩:=a;unfold Zf addV mulV;rw [qkq];simp
theorem qju (t : Nat) (a z : qj) (h : t < 24) (b : InV a (-1000000)) (c : InV z 0) : Zd Kz a z (t : Int) = some (⟨⟨(t : Int),a⟩,z⟩,0):=by
  have:=qas (s:=Kz) (u:=0) (t:=t) rfl qw h b c;rw [qez t h] at this;rw [this,show Kz.Frame.At = ⟨0,0,0⟩ from rfl,qnw,qs ⟨by simp only;omega,b⟩]
theorem qn0 : ∃ f1 l o g,Jr Kz = some ((⟨⟨10,⟨2,0,0⟩⟩,⟨3,4,0⟩⟩,f1,l,o,⟨⟨0,⟨0,0,4⟩⟩,⟨2,3,0⟩⟩,g),0):=by
  have st : ∀ (k t : Nat) (a z : qj) (out : List Q6),k < 6→t < 24→InV a (-1000000)→InV z 0→Jg Kz.Size (k : Int) = some ((t : Int),a,z)→out.length = 6→
      q11 ((k : Int),out,0,0,0,0,2,3,4) = some (.inl (((k + 1 : Nat) : Int),out.set k ⟨⟨(t : Int),a⟩,z⟩,0,0,0,0,2,3,4)):=by
    intro k t a z out m h n p c f
    have:=qi5 (s:=Kz) (d:=(k : Int)) q6 c (qju t a z h n p) (idx6 f m)
    have b : w64 ((k : Int) + 1) = ((k + 1 : Nat) : Int):=by rw [Qa q6];omega
    rw [b] at this
    exact this
  refine ⟨⟨⟨11,⟨0,0,4⟩⟩,⟨3,4,0⟩⟩,⟨⟨3,⟨0,3,4⟩⟩,⟨2,4,0⟩⟩,⟨⟨2,⟨0,0,0⟩⟩,⟨2,4,0⟩⟩,⟨⟨1,⟨0,3,0⟩⟩,⟨2,3,0⟩⟩,?_⟩;unfold Jr;rw [q49 qw,qs qw];have j : ((0 : Int) != 0) = false:=rfl;simp only [qp,j,Q2]
  have e : loop q11 (((0 : Nat) : Int),[Kg,Kg,Kg,Kg,Kg,Kg],0,0,0,0,2,3,4) = some (.inl [⟨⟨10,⟨2,0,0⟩⟩,⟨3,4,0⟩⟩,⟨⟨11,⟨0,0,4⟩⟩,⟨3,4,0⟩⟩,⟨⟨3,⟨0,3,4⟩⟩,⟨2,4,0⟩⟩,⟨⟨2,⟨0,0,0⟩⟩,⟨2,4,0⟩⟩,⟨⟨0,⟨0,0,4⟩⟩,⟨2,3,0⟩⟩,⟨⟨1,⟨0,3,0⟩⟩,⟨2,3,0⟩⟩]):=by
    rw [Ki (st 0 10 _ _ _ q6 q6 qw qw (qfm Kz) rfl)];rw [Ki (st 1 11 _ _ _ q6 q6 qw qw (qmv Kz) rfl)];rw [Ki (st 2 3 _ _ _ q6 q6 qw qw (qmw Kz) rfl)];rw [Ki (st 3 2 _ _ _ q6 q6 qw qw (qmx Kz) rfl)];rw [Ki (st 4 0 _ _ _ q6 q6 qw qw (qmy Kz) rfl)];rw [Ki (st 5 1 _ _ _ q6 q6 qw qw (qmz Kz) rfl)];exact Kc rfl
  replace e : loop q11 (0,[Kg,Kg,Kg,Kg,Kg,Kg],0,0,0,0,2,3,4) = some (.inl [⟨⟨10,⟨2,0,0⟩⟩,⟨3,4,0⟩⟩,⟨⟨11,⟨0,0,4⟩⟩,⟨3,4,0⟩⟩,⟨⟨3,⟨0,3,4⟩⟩,⟨2,4,0⟩⟩,⟨⟨2,⟨0,0,0⟩⟩,⟨2,4,0⟩⟩,⟨⟨0,⟨0,0,4⟩⟩,⟨2,3,0⟩⟩,⟨⟨1,⟨0,3,0⟩⟩,⟨2,3,0⟩⟩]):=e;unfold Kg at e;rw [show Kz.Frame.Turn = 0 from rfl,show Kz.Frame.At.X = 0 from rfl,show Kz.Frame.At.Y = 0 from rfl,show Kz.Frame.At.Z = 0 from rfl,show Kz.Size.X = 2 from rfl,show Kz.Size.Y = 3 from rfl,show Kz.Size.Z = 4 from rfl,e];rfl
def rc (a b c d : Int) : ql:={X0:=a,Y0:=b,X1:=c,Y1:=d}
def stL : List Qv:=[{Region:=[rc 0 0 2 2],Height:=1},{Region:=[rc 0 0 1 1],Height:=2}]
def stB : List qn:=[bx 0 0 0 2 2 1,bx 0 0 1 1 1 3]
theorem qbc {l : List ql} (h : l.length≤400∧(∀ r∈l,vR r)∧isR l) : Ye l = 0:=qbb.2 ⟨h.1,h.2.1,h.2.2.can⟩
theorem qwj : ∀ s∈stL,Ye s.Region = 0:=by
  intro s hs;simp only [stL,List.mem_cons,List.not_mem_nil,or_false] at hs;rcases hs with rfl | rfl <;> exact qbc qw
theorem qje : q5q stL 0 = stB:=rfl
theorem qke : q6j = some true:=by
  have g : Ky stB = 0:=qek qw
  have hp : Js [rc 0 0 2 3] 1 5 = some ([bx 0 0 1 2 3 5],0):=by
    rw [qcx,q6p,qy (by rw [qbc qw];simp),qs (by unfold Yf;omega)];rfl
  have d : Ky [bx 0 0 1 2 3 5] = 0:=qek qw;have j : volume [bx 0 0 1 2 3 5] = (24,0):=by unfold volume;rw [qy (by simp [d])];rfl
  have b : volume stB = (6,0):=by unfold volume;rw [qy (by simp [g])];rfl
  have c : Yh stL 0 = some (stB,0):=by
    rw [qjf qw (by unfold Yf;omega) qwj qw (fun k m=>?_) (by rw [qje];decide),qje];have : k = 0∨k = 1∨k = 2:=by have : stL.length = 2:=rfl;omega
    rcases this with rfl | rfl | rfl <;> decide
  have a : column stB 0 0 = ([{Lo:=0,Hi:=3}],0):=by
    unfold column;rw [qy (by simp [g]),show colS stB 0 0 = [{Lo:=0,Hi:=1},{Lo:=1,Hi:=3}] from rfl];have f:=(q6i 2 [({Lo:=0,Hi:=1} : qm),{Lo:=1,Hi:=3}] [] qe qe).2
    have : U9 2 [({Lo:=0,Hi:=1} : qm),{Lo:=1,Hi:=3}] [] = [{Lo:=0,Hi:=3}]:=q60 f.1 (by unfold Can;simp) fun x=>by
      rw [f.2,qc0];unfold has;simp;omega
    rw [this]
  obtain ⟨f1,l,n,o,h⟩:=qn0;unfold q6j
  simp only [show Uy 0 0 2 3 = some [rc 0 0 2 3] from rfl,show Uy 0 0 2 2 = some [rc 0 0 2 2] from rfl,show Uy 0 0 1 1 = some [rc 0 0 1 1] from rfl,show q2u = some Kz from rfl,qp,hp,qvx,j,h,
    show Yh [({Region:=[rc 0 0 2 2],Height:=1} : Qv),({Region:=[rc 0 0 1 1],Height:=2} : Qv)] 0 = some (stB,0) from c,b,qqp,a,qrn [{Lo:=0,Hi:=3}] [{Lo:=0,Hi:=3}] qe]
  rfl
end Go.Sh
namespace Go.Sh
open Go Go.Am
theorem bnd {α β : Type} {x : Option α} {a : α} {f : α→Option β} {r : Option β} (h : x = some a) (k : f a = r) : x.bind f = r:=by rw [h];exact k
def oneR : List ql:=[rc 0 0 1 1]
theorem q2v : Ye oneR = 0:=qbc qw
theorem qel : Ye [] = 0:=qbb.2 ⟨qe,qe,CanR.nil⟩
theorem qhy {p : List ql} {a b : Int} (hp : Ye p = 0) (h : ¬ (Yf a∧Yf b∧a < b)) : Js p a b = some ([],2):=by
  rw [qcx,q6p,qy (by simp [hp]),qy h]
theorem qqh : Js [] 0 1 = some ([],0):=by
  rw [qcx,q6p,qy (by simp [qel]),qs (by unfold Yf;omega)];rfl
theorem qwn {l : List Qv} {z : Int} (a : l.length≤100) (c : Yf z) (b : ∀ s∈l,Ye s.Region = 0) (h : l.any badH = true) : Yh l z = some ([],2):=by
  unfold Yh;have : decide ((l.length : Int) > 100) = false:=Qm q6;rw [this,Q2,qdg a b];simp only [qp,q9w,qdh l a,h,Qe c,Bool.not_true,Q2,Q1]
theorem qwo {l : List Qv} {z : Int} (a : 100 < l.length) : Yh l z = some ([],4):=by
  unfold Yh;rw [Qe (by omega : (l.length : Int) > 100),Q1]
def hi1 : List Qv:=[{Region:=oneR,Height:=2}]
theorem qwl : Yh hi1 999999 = some ([],16):=by
  unfold Yh;have : decide ((hi1.length : Int) > 100) = false:=rfl;rw [this,Q2,qdg qw (by intro s hs;obtain rfl:=List.mem_singleton.1 hs;exact q2v)];have d : Yf 999999:=by unfold Yf;omega
  have b : hi1.any badH = false:=rfl
  have c : loop (q14 hi1) (999999,0,[],0,0,[]) = some (.inr ([],16)):=by
    refine Kc ?_;have hd : decide (w64 (999999 + 2) > 1000000) = true:=by rw [Qa q6];rfl
    have e : q14 hi1 (999999,0,[],0,0,[]) = cond (decide (w64 (999999 + 2) > 1000000)) (some (.inr (.inr ([],16)))) ((q4c [] [] 0 0 999999 (w64 (999999 + 2)) oneR).bind fun a=>some (.inl (w64 (999999 + 2),w64 (0 + 1),a.1,a.2.1,a.2.2.1,a.2.2.2))):=rfl;rw [e,hd,Q1]
  simp only [qp,q9w,qdh hi1 qw,b,Qe d,Bool.not_true,Q2,c]
theorem qwp : Yh [({Region:=[({X0:=0,Y0:=0,X1:=0,Y1:=0} : ql)],Height:=0} : Qv)] 1000001 = some ([],8):=by
  have b : Ye [({X0:=0,Y0:=0,X1:=0,Y1:=0} : ql)] = 8:=by
    unfold Ye;rw [qy qw,qy (by intro h;have:=h _ (List.mem_singleton.2 rfl);revert this;decide)]
  unfold Yh
  have c : loop (q13 [({Region:=[({X0:=0,Y0:=0,X1:=0,Y1:=0} : ql)],Height:=0} : Qv)]) 0 = some (.inr ([],8)):=by
    refine Kc ?_;have e : q13 [({Region:=[({X0:=0,Y0:=0,X1:=0,Y1:=0} : ql)],Height:=0} : Qv)] 0 = ((q2y [({X0:=0,Y0:=0,X1:=0,Y1:=0} : ql)]).bind fun a=>cond (a != 0) (some (.inr (.inr ([],a)))) (some (.inl (w64 (0 + 1))))):=rfl;rw [e,qd1,b];rfl
  refine (Q2 _ _).trans ?_;exact bnd c rfl
def st4 : List Qv:=[{Region:=oneR,Height:=1},{Region:=oneR,Height:=1},{Region:=[],Height:=3},{Region:=oneR,Height:=1}]
theorem qjd : q5q st4 (-1) = [bx 0 0 (-1) 1 1 1,bx 0 0 4 1 1 5]:=rfl
theorem qwk : Yh st4 (-1) = some ([bx 0 0 (-1) 1 1 1,bx 0 0 4 1 1 5],0):=by
  rw [qjf qw (by unfold Yf;omega) (fun s hs=>?_) qw (fun k a=>?_) (by rw [qjd];decide),qjd]
  · simp only [st4,List.mem_cons,List.not_mem_nil,or_false] at hs;rcases hs with rfl | rfl | rfl | rfl
    · exact q2v
    · exact q2v
    · exact qel
    · exact q2v
  · have : k = 0∨k = 1∨k = 2∨k = 3∨k = 4:=by have : st4.length = 4:=rfl;omega
    rcases this with rfl | rfl | rfl | rfl | rfl <;> decide
theorem qls : Ky [] = 0:=q2j.2 ⟨qe,qe,CanB.nil⟩
theorem qnv : q70 [] 0 = some ([],2):=by
  unfold q70;rw [qac,qls];rfl
theorem qn6 : q46 [({Lo:=({X:=0,Y:=0,Z:=0} : qj),Hi:=({X:=0,Y:=0,Z:=0} : qj)} : qn)] = some ([],8):=by
  have a : Ky [({Lo:=({X:=0,Y:=0,Z:=0} : qj),Hi:=({X:=0,Y:=0,Z:=0} : qj)} : qn)] = 8:=by
    unfold Ky;rw [qy qw,qy (by intro h;have:=h _ (List.mem_singleton.2 rfl);revert this;decide)]
  rw [qqs,footprint,qs (by rw [a];decide),a]
def sc1 : Q6:=⟨⟨0,⟨0,0,0⟩⟩,⟨-1,0,0⟩⟩
def sc2 : Q6:=⟨⟨0,⟨1000000,0,0⟩⟩,⟨1,0,0⟩⟩
theorem qn2 : Jr sc1 = some (qao,8):=by
  unfold Jr;rw [q49 qw,qy qw];rfl
theorem qn1 : Jr sc2 = some (qao,16):=by
  have hi : Zd sc2 ⟨1,0,0⟩ ⟨0,0,0⟩ ((10 : Nat) : Int) = some (Kg,16):=by
    rw [qas (s:=sc2) (u:=0) (t:=10) rfl qw qw qw qw,qez 10 qw,show sc2.Frame.At = ⟨1000000,0,0⟩ from rfl];rw [qy qw]
  unfold Jr;rw [q49 qw,qs qw];have st:=qi5 (s:=sc2) (d:=((0 : Nat) : Int)) (out:=[Kg,Kg,Kg,Kg,Kg,Kg]) qw (qfm sc2) hi (idx6 rfl qw);have a : loop q11 (((0 : Nat) : Int),[Kg,Kg,Kg,Kg,Kg,Kg],sc2.Frame.Turn,sc2.Frame.At.X,sc2.Frame.At.Y,sc2.Frame.At.Z,sc2.Size.X,sc2.Size.Y,sc2.Size.Z) = some (.inr (qao,16)):=Kc (st.trans rfl);refine bnd rfl ?_;exact bnd a rfl
theorem qqo : q71 Kz (-1) = some (Kg,2):=by
  unfold q71;rw [q49 qw,qs qw];rfl
theorem qo4 : q1w Kz 2 = some (Kg,16):=by
  unfold q1w;rw [q49 qw,qs qw];rfl
theorem qo3 : q1w Kz 1 = some (⟨⟨0,⟨1,1,0⟩⟩,⟨0,1,4⟩⟩,0):=by
  unfold q1w;rw [q49 qw,qs qw];refine bnd rfl ?_;refine (Q2 _ _).trans ?_;refine bnd (a:=false) rfl ?_;exact bnd (qju 0 ⟨1,1,0⟩ ⟨0,1,4⟩ qw qw qw) rfl
theorem qy4 : q9b = some true:=by
  unfold q9b;refine bnd (a:=oneR) rfl ?_;refine bnd (qhy q2v (by unfold Yf;omega)) ?_;refine bnd (qhy q2v (by unfold Yf;omega)) ?_;refine bnd qqh ?_;refine bnd (a:=List.replicate 101 ⟨[],0⟩) rfl ?_;refine bnd (qwo qe) ?_;refine bnd (qwn qe (by unfold Yf;omega) (by intro s hs;obtain rfl:=List.mem_singleton.1 hs;exact q2v) rfl) ?_;refine bnd qwl ?_;refine bnd qwk ?_;refine bnd qwp ?_;refine bnd qnv ?_;refine bnd qn6 ?_;refine bnd qn2 ?_;refine bnd qn1 ?_;refine bnd (a:=Kz) rfl ?_;refine bnd qqo ?_;refine bnd (a:=Kz) rfl ?_;refine bnd qo4 ?_;refine bnd (a:=Kz) rfl ?_;refine bnd qo3 ?_;refine bnd qke ?_;refine bnd (a:=true) rfl ?_;refine bnd (a:=true) rfl ?_;refine bnd (a:=true) rfl ?_;refine bnd (a:=true) rfl ?_;refine bnd (a:=true) rfl ?_;refine bnd (a:=true) rfl ?_;refine bnd (a:=true) rfl ?_;refine bnd (a:=true) rfl ?_;refine (Q1 _ _).trans ?_;refine bnd rfl ?_;refine bnd rfl ?_;refine bnd (sameBox [bx 0 0 (-1) 1 1 1,bx 0 0 4 1 1 5] [bx 0 0 (-1) 1 1 1,bx 0 0 4 1 1 5] qe) ?_;rw [Qe rfl];rfl
end Go.Sh
