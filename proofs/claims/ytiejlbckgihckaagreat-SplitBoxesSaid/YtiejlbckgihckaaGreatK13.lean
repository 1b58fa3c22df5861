/- Ps2 Ps5 Ps6 Ps7 Rb2 Rb3 -/
import Derived.Test.YtiejlbckgihckaaGreatK12
namespace Go.Sh
open Go Go.Am
theorem qrx : ∀ k : Fin 201,qb8 (IntKind.wrap .u64 1) (IntKind.wrap .u64 (k.val : Int)) = some (0,(k.val : Int)):=by decide +kernel
theorem qur (k : Nat) (h1 : 1≤k) (h2 : k≤200) : q8y [1] (k : Int) = some (List.replicate k 1):=by
  unfold q8y;have p : decide ((k : Int) < 0) = false:=Qb q0;have j:=qrx ⟨k,q0⟩;simp only at j;have t : (([1] : List Int).length : Int) = 1:=rfl;simp only [p,Q1,t,j,qh];have w : decide ((0 : Int) > 0) = false:=rfl;have r : decide ((k : Int) > 9223372036854775807) = false:=Qb q0;simp only [w,r,Q1,qh]
  have x : mks 8 (w64 (k : Int)) (0 : Int) = some (List.replicate k 0):=by
    rw [Q5 q0];unfold mks;rw [qs ⟨q0,q0⟩];simp
  simp only [x,qh]
  have:=qel (f:=q5y) (fun a : Int × List Int=>∃ n : Nat,a.1 = n∧1≤n∧n≤k∧a.2.length = k∧∀ i,i < n→a.2[i]? = some 1) (fun a=>k - a.1.toNat) (fun b=>b = List.replicate k 1) ?_
    (a:=(((min ([1] : List Int).length (0,(List.replicate k (0 : Int)).length).2 : Nat) : Int),cpyw (List.replicate k 0) (0,(List.replicate k (0 : Int)).length) [1])) ?_
  · obtain ⟨b,z,rfl⟩:=this;rw [z];rfl
  · rintro ⟨a1,xs⟩ ⟨n,rfl,m,o,d,c⟩;simp only at d c;by_cases q : n < k
    · have hb : decide ((n : Int) < (xs.length : Int)) = true:=Q9 q0
      have y : sub2 xs.length (n : Int) (xs.length : Int) = some (n,k - n):=by
        unfold sub2;rw [qs ⟨q0,q0,q0⟩];congr 2;omega
      have u : sub2 xs.length 0 (n : Int) = some (0,n):=by
        unfold sub2;rw [qs ⟨q0,q0,q0⟩];rfl
      have v : (xs.drop 0).take n = xs.take n:=by simp
      have l : (xs.take n).length = n:=by simp;omega
      refine .inl ⟨(((n + min n (k - n) : Nat) : Int),cpyw xs (n,k - n) (xs.take n)),?_,⟨n + min n (k - n),rfl,q0,q0,?_,?_⟩,?_⟩
      · simp only [q5y,hb,Q2,y,u,qh,v,l];rw [Q5 q0];congr 2
      · simp only;rw [q7m (by simp only;omega)];exact d
      · intro i hi;simp only [cpyw,splice];by_cases h : i < n
        · rw [List.append_assoc,List.getElem?_append_left (by simp;omega),List.getElem?_take_of_lt h];exact c i h
        · rw [List.append_assoc,List.getElem?_append_right (by simp;omega),List.getElem?_append_left (by simp;omega)];have g : i - (xs.take n).length = i - n:=by rw [l]
          rw [g,List.getElem?_take_of_lt (by simp;omega),List.getElem?_take_of_lt q0];exact c _ q0
      · simp only;omega
    · have hb : decide ((n : Int) < (xs.length : Int)) = false:=Qb q0;refine .inr ⟨xs,by simp only [q5y,hb,Q1],?_⟩;apply List.ext_getElem?;intro i;by_cases h : i < k
      · rw [c i q0];simp [h]
      · rw [List.getElem?_eq_none q0,List.getElem?_eq_none (by simp;omega)]
  · refine ⟨1,by simp;omega,q0,q0,?_,?_⟩
    · simp only;rw [q7m qe];simp
    · intro i hi;obtain rfl : i = 0:=by omega
      have s : min 1 k = 1:=by omega
      simp [cpyw,splice,s]
theorem q111 (k : Nat) (h : k≤200) : loop (q4k (List.replicate k 1)) (0,0) = some (k : Int):=by
  have:=Yg (f:=q4k (List.replicate k 1)) (σ:=Int) (fun j c=>((j : Int),c)) k (fun j c=>c = j) (fun b=>b = (k : Int)) ?_ ?_ (k0:=0) (c0:=0) q0 rfl
  · obtain ⟨b,d,rfl⟩:=this;exact d
  · rintro j c g rfl;have hb : decide ((j : Int) < ((List.replicate k (1 : Int)).length : Int)) = true:=Q9 (by simp;omega);refine .inl ⟨((j + 1 : Nat) : Int),?_,rfl⟩;have a : idx (List.replicate k (1 : Int)) (j : Int) = some 1:=by rw [q7y];simp [g]
    simp only [q4k,hb,Q2,a,qh];rw [Q5 q0];congr 2
  · rintro c rfl;have hb : decide ((k : Int) < ((List.replicate k (1 : Int)).length : Int)) = false:=Qb qe;exact ⟨_,by simp only [q4k,hb,Q1],rfl⟩
def upTo (w : Int) (m j : Nat) : Int:=(w * j).tdiv m
def parts (w : Int) (m j : Nat) : List Int:=(List.range j).map fun i=>upTo w m (i + 1) - upTo w m i
theorem qtl (w : Int) (m j : Nat) : parts w m (j + 1) = parts w m j ++ [upTo w m (j + 1) - upTo w m j]:=by
  unfold parts;rw [List.range_succ,List.map_append];rfl
theorem qmw {w : Int} {m j : Nat} (b : 0≤w∧w≤1000000) (f : j≤200) : 0≤w * j∧w * j≤200000000∧0≤upTo w m j∧upTo w m j≤200000000:=by
  have a : 0≤w * j:=Int.mul_nonneg b.1 q0;have g : w * j≤1000000 * 200:=Int.mul_le_mul b.2 q0 q0 q0;have c : 0≤upTo w m j:=Int.tdiv_nonneg a (Int.natCast_nonneg _);have d : upTo w m j≤w * j:=Int.tdiv_le_self _ a;refine ⟨a,q0,c,q0⟩
theorem qwb (w : Int) (k : Nat) (a : 0≤w∧w≤1000000) (r : 1≤k) (p : k≤200) : loop (q4l (List.replicate k 1) w k) (0,0,0,[]) = some (parts w k k):=by
  have:=Yg (f:=q4l (List.replicate k 1) w k) (σ:=Unit) (fun j _=>((j : Int),upTo w k j,(j : Int),parts w k j)) k (fun j c=>True) (fun b=>b = parts w k k) ?_ ?_ (k0:=0) (c0:=()) q0 trivial
  · obtain ⟨b,d,rfl⟩:=this;have e : upTo w k 0 = 0:=by simp [upTo]
    simp only [e] at d;exact d
  · intro j _ n _;have hb : decide ((j : Int) < ((List.replicate k (1 : Int)).length : Int)) = true:=Q9 (by simp;omega);have g : idx (List.replicate k (1 : Int)) (j : Int) = some 1:=by rw [q7y];simp [n]
    have hs : w64 ((j : Int) + 1) = ((j + 1 : Nat) : Int):=by rw [Q5 q0];omega
    obtain ⟨b1,q,o,s⟩:=qmw (m:=k) a (show j≤200 by omega);obtain ⟨c1,c2,c3,c4⟩:=qmw (m:=k) a (show j + 1≤200 by omega);have h : w64 (w * ((j + 1 : Nat) : Int)) = w * ((j + 1 : Nat) : Int):=Q5 q0
    have l : J7 (w * ((j + 1 : Nat) : Int)) (k : Int) = some (upTo w k (j + 1)):=by
      unfold J7;rw [qx q0];congr 1;exact Q5 (by change _≤upTo w k (j + 1)∧upTo w k (j + 1)≤_;omega)
    have hd : w64 (upTo w k (j + 1) - upTo w k j) = upTo w k (j + 1) - upTo w k j:=Q5 q0;refine .inl ⟨(),?_,trivial⟩;simp only [q4l,hb,Q2,g,qh,hs,h,l,hd];rw [Z7 (by simp [parts];omega)];simp only [qh,qtl]
  · intro _ _;have hb : decide ((k : Int) < ((List.replicate k (1 : Int)).length : Int)) = false:=Qb qe;exact ⟨_,by simp only [q4l,hb,Q1],rfl⟩
end Go.Sh
namespace Go.Sh
open Go Go.Am
theorem quq {w n : Int} (g : 0≤w∧w≤1000000) (q : 1≤n∧n≤1000000) : ∃ k : Nat,(k : Int) = max 1 ((2 * w + n) / (2 * n))∧q75 w n = some (if k > 200 then ([],4) else (parts w k k,0)):=by
  obtain ⟨k,b⟩ : ∃ k : Nat,(k : Int) = max 1 ((2 * w + n) / (2 * n)):=⟨(max 1 ((2 * w + n) / (2 * n))).toNat,q0⟩
  refine ⟨k,b,?_⟩;unfold q75;have l : decide (w < 0) = false:=Qb q0;have j : decide (w > 1000000) = false:=Qb q0;have h : decide (n < 1) = false:=Qb q0;have f : decide (n > 1000000) = false:=Qb q0;simp only [l,j,h,f,Q1,qh];have b1 : w64 (2 * w) = 2 * w:=Q5 q0;have d : w64 (2 * w + n) = 2 * w + n:=Q5 q0;have c : w64 (2 * n) = 2 * n:=Q5 q0;rw [b1,d,c];have p : 0≤(2 * w + n) / (2 * n):=Int.ediv_nonneg q0 q0;have o : (2 * w + n) / (2 * n)≤2 * w + n:=Int.ediv_le_self _ q0
  have m : J7 (2 * w + n) (2 * n) = some ((2 * w + n) / (2 * n)):=by
    unfold J7;rw [qx q0,Int.tdiv_eq_ediv_of_nonneg q0,Q5 q0]
  rw [m];simp only [qh,← b];by_cases a : k > 200
  · have : decide ((k : Int) > 200) = true:=Q9 q0;rw [qs a];simp only [this,Q2]
  · have : decide ((k : Int) > 200) = false:=Qb q0;rw [qx a];simp only [this,Q1];rw [qur k q0 q0];simp only [qh];rw [q111 k q0];simp only [qh];rw [qwb w k g q0 q0];rfl
theorem qhs {l : List Int} (u : l.length≤200) (s : NN l) (hs : ∀ k,k≤l.length→0≤Ql l k∧Ql l k≤1000000) : Jm l = some (Yb l l.length,0):=by
  unfold Jm;have h : decide ((l.length : Int) > 200) = false:=Qb q0;simp only [h,Q1];obtain ⟨r,o,c⟩:=qee l q0;unfold q5v;rw [o];rcases c with ⟨rfl,_⟩ | ⟨_,c⟩
  · have e : decide ((-1 : Int) ≥ 0) = false:=rfl;simp only [qh,e,Q1];have:=Yg (f:=Uc l) (σ:=Unit) (fun k _=>((k : Int),Yb l k)) l.length (fun _ _=>True) (fun b=>b = .inl (Yb l l.length)) ?_ ?_ (k0:=0) (c0:=()) q0 trivial
    · obtain ⟨b,a,rfl⟩:=this;have j : Yb l 0 = [0]:=by simp [Yb,Ql]
      rw [j] at a;have a : loop (Uc l) (0,[0]) = some (.inl (Yb l l.length)):=a;rw [a];rfl
    · rintro k _ g _;have hb : decide ((k : Int) < (l.length : Int)) = true:=Q9 q0;have v:=hs k q0;have t:=hs (k + 1) q0;have d:=q31 g;have q : w64 ((k : Int) + 1) = ((k + 1 : Nat) : Int):=by rw [Q5 q0];omega
      have m : w64 (1000000 - Ql l k) = 1000000 - Ql l k:=Q5 q0;have n : decide (l[k] > 1000000 - Ql l k) = false:=Qb q0;have p : w64 (Ql l k + l[k]) = Ql l (k + 1):=by rw [Q5 q0];omega
      refine .inl ⟨(),?_,trivial⟩;simp only [Uc,hb,Q2,K5 g,qdo,qh,m,n,Q1,p,q];rw [Z7 (by rw [qdp];simp;omega),qhq];rfl
    · rintro _ _;have hb : decide ((l.length : Int) < (l.length : Int)) = false:=Qb q0;exact ⟨_,by simp only [Uc,hb,Q1],rfl⟩
  · exact absurd s c
theorem qnq {l : List Int} (x : Int) (y : l.length≤1000000) (d : l≠[]) (s : l[0]'(List.length_pos_iff.2 d) = 0) (hi : Inc l) :
    q2z l x = some (0,2)∧(∀ i (h : i + 1 < l.length),¬ (l[i]≤x∧x < l[i + 1]))∨∃ (i : Nat) (h : i + 1 < l.length),q2z l x = some ((i : Int),0)∧l[i]≤x∧x < l[i + 1]:=by
  have a : 0 < l.length:=List.length_pos_iff.2 d;obtain ⟨b,z,u⟩:=q100 l y d;have hb : b = true:=u.2 hi;subst hb
  have key:=Yg (f:=q4i (l.drop 1) l x) (σ:=Unit) (fun k _=>(k : Int)) (l.length - 1) (fun k _=>∀ i (h : i + 1 < l.length),i < k→¬ (l[i]≤x∧x < l[i + 1]))
    (fun b=>(b = .inl ()∧∀ i (h : i + 1 < l.length),¬ (l[i]≤x∧x < l[i + 1]))∨∃ (i : Nat) (h : i + 1 < l.length),b = .inr ((i : Int),0)∧l[i]≤x∧x < l[i + 1]) ?_ ?_ (k0:=0) (c0:=()) q0 (fun i _ h=>q0)
  · obtain ⟨b,o,c⟩:=key;have o : loop (q4i (l.drop 1) l x) 0 = some b:=o;have e1 : ((l.length : Int) == 0) = false:=by rw [beq_eq_false_iff_ne];omega
    have q : idx l 0 = some (l[0]'a):=Zr rfl a
    have v : slc l 1 (l.length : Int) = some (l.drop 1):=by
      unfold slc;rw [qs ⟨q0,q0,q0⟩];congr 1;exact List.take_of_length_le qe
    have p : ∀ r,((some b : Option (Unit ⊕ (Int × Int))).bind fun m=>(match m with | .inl b93=>some (0,2) | .inr x1=>some x1)) = some r→q2z l x = some r:=by
      intro r t;unfold q2z;simp only [e1,Q1,q,qh,s,z,Bool.not_true,bne_self_eq_false,v,o];exact t
    rcases c with ⟨rfl,c⟩ | ⟨i,h,rfl,c⟩
    · exact .inl ⟨p _ rfl,c⟩
    · exact .inr ⟨i,h,p _ rfl,c⟩
  · intro k _ hk g;have hb : decide ((k : Int) < ((l.drop 1).length : Int)) = true:=Q9 (by simp;omega);have w : w64 ((k : Int) + 1) = ((k + 1 : Nat) : Int):=by rw [Q5 q0];omega
    simp only [q4i,hb,Q2,K5 (show k < l.length by omega),w,K5 (show k + 1 < l.length by omega),qh];by_cases h : l[k]'(q0)≤x∧x < l[k + 1]'(q0)
    · refine .inr ⟨.inr ((k : Int),0),by simp [h.1,h.2],.inr ⟨k,q0,rfl,h⟩⟩
    · refine .inl ⟨(),?_,fun i hi ab=>?_⟩
      · by_cases j : l[k]'(q0)≤x
        · have n : ¬ x < l[k + 1]'(q0):=fun n=>h ⟨j,n⟩;simp [j,n]
        · simp [j]
      · by_cases e : i = k
        · subst e;exact h
        · exact g i hi q0
  · intro _ g;have hb : decide (((l.length - 1 : Nat) : Int) < ((l.drop 1).length : Int)) = false:=Qb qe;exact ⟨.inl (),by simp only [q4i,hb,Q1],.inl ⟨rfl,fun i h=>g i h q0⟩⟩
def qav : List Qx:=[⟨1,3,⟨0,0⟩⟩,⟨2,0,⟨1,4⟩⟩,⟨3,1,⟨0,0⟩⟩,⟨3,2,⟨0,0⟩⟩]
theorem qq6 : q76 10 qav = some ([3,2,1,4],0):=by
  rw [q10m 10 qav (fun p hp=>?_)]
  · decide +kernel
  · unfold qcw I64;simp only [qav,List.mem_cons,List.not_mem_nil,or_false] at hp;rcases hp with rfl | rfl | rfl | rfl <;> decide
theorem qnf : q82 = some true:=by
  unfold q82;have d : qb7 = some qav:=rfl;obtain ⟨k,p,c⟩:=quq (w:=10) (n:=4) q0 q0;obtain rfl : k = 3:=by omega
  have m : q75 10 4 = some ([3,3,4],0):=by rw [c];decide +kernel
  have j : Jm [3,2,0,5] = some ([0,3,5,5,10],0):=by
    rw [qhs qn (by unfold NN;decide) (fun k f=>?_)]
    · decide +kernel
    · have : k = 0∨k = 1∨k = 2∨k = 3∨k = 4:=by simp at f;omega
      rcases this with rfl | rfl | rfl | rfl | rfl <;> decide
  have g : q2z [0,3,5,5,10] 5 = some (3,0):=by
    have a : Inc [0,3,5,5,10]:=fun i h=>by
      have : i = 0∨i = 1∨i = 2∨i = 3:=by simp at h;omega
      rcases this with rfl | rfl | rfl | rfl <;> simp
    rcases qnq (l:=[0,3,5,5,10]) 5 qn qn rfl a with ⟨_,h⟩ | ⟨i,h,e,o,b⟩
    · exact absurd ⟨qn,qn⟩ (h 3 qn)
    · have : i = 0∨i = 1∨i = 2∨i = 3:=by simp at h;omega
      rcases this with rfl | rfl | rfl | rfl
      · simp at b
      · simp at b
      · simp at b
      · exact e
  simp only [d,qq6,m,j,g,qh];rw [qeh _ qn,qeh _ qn,qeh _ qn];rfl
end Go.Sh
namespace Go.Sh
open Go Go.Am
theorem qhp {l : List Int} {n i : Nat} (h : i≤n) : idx (Yb l n) (i : Int) = some (Ql l i):=by
  rw [q7y,List.getElem?_eq_getElem (by rw [qdp];omega)];simp [Yb]
end Go.Sh
namespace Go.Sh
open Go Go.Am
theorem qpg {l : List Int} (hl : l.length≤200) (p : NN l) (hI : ∀ x∈l,I64 x) (u : ∃ k,k≤l.length∧1000000 < Ql l k) : Jm l = some ([],16):=by
  unfold Jm;have h : decide ((l.length : Int) > 200) = false:=Qb q0;simp only [h,Q1];obtain ⟨r,t,g⟩:=qee l q0;unfold q5v;rw [t];rcases g with ⟨rfl,_⟩ | ⟨_,g⟩
  · have e : decide ((-1 : Int) ≥ 0) = false:=rfl;simp only [qh,e,Q1]
    have:=Yg (f:=Uc l) (σ:=Unit) (fun k _=>((k : Int),Yb l k)) l.length (fun k _=>∀ j,j≤k→0≤Ql l j∧Ql l j≤1000000) (fun b=>b = .inr ([],16)) ?_ ?_ (k0:=0) (c0:=()) q0 (fun j z=>by
      obtain rfl : j = 0:=by omega
      simp [Ql])
    · obtain ⟨b,d,rfl⟩:=this;have q : Yb l 0 = [0]:=by simp [Yb,Ql]
      rw [q] at d;have d : loop (Uc l) (0,[0]) = some (.inr ([],16)):=d;rw [d];rfl
    · rintro k _ a c;have hb : decide ((k : Int) < (l.length : Int)) = true:=Q9 q0;have s1:=c k q0;have n:=q31 a;have hx:=p _ (Y5 a);have hi:=hI _ (Y5 a);unfold I64 at hi;have w : w64 ((k : Int) + 1) = ((k + 1 : Nat) : Int):=by rw [Q5 q0];omega
      have o : w64 (1000000 - Ql l k) = 1000000 - Ql l k:=Q5 q0;by_cases y : Ql l (k + 1)≤1000000
      · have m : decide (l[k] > 1000000 - Ql l k) = false:=Qb q0;have v : w64 (Ql l k + l[k]) = Ql l (k + 1):=by rw [Q5 q0];omega
        refine .inl ⟨(),?_,fun j z=>?_⟩
        · simp only [Uc,hb,Q2,K5 a,qdo,qh,o,m,Q1,v,w];rw [Z7 (by rw [qdp];simp;omega),qhq];rfl
        · by_cases s : j = k + 1
          · subst s;omega
          · exact c j q0
      · have m : decide (l[k] > 1000000 - Ql l k) = true:=Q9 q0;exact .inr ⟨.inr ([],16),by simp only [Uc,hb,Q2,K5 a,qdo,qh,o,m],rfl⟩
    · rintro _ c;obtain ⟨k,a,h⟩:=u;have:=c k a;omega
  · exact absurd p g
def setA (v : qm) (a n : Int) : qm:=if a = 0 then ⟨n,v.Y,v.Z⟩ else if a = 1 then ⟨v.X,n,v.Z⟩ else ⟨v.X,v.Y,n⟩
theorem qgl (v : qm) (a n : Int) : q78 v a n = some (setA v a n):=by
  unfold q78 setA;by_cases b : a = 0
  · simp [b]
  · by_cases c : a = 1
    · simp [c]
    · have d : (a == 0) = false:=by simpa using b
      have f : (a == 1) = false:=by simpa using c
      rw [d,f,qx b,qx c];rfl
theorem qlm {v : qm} {a n lo : Int} (b : InV v lo) (c : lo≤n∧n≤1000000) : InV (setA v a n) lo:=by
  unfold setA;split
  · unfold InV at b ⊢;simp only;omega
  · split
    · unfold InV at b ⊢;simp only;omega
    · unfold InV at b ⊢;simp only;omega
theorem qj9 {s : Kb} {a z : qm} {u : Nat} (c : s.Frame.Turn = u) (hs : SOk s) (f : InV a (-1000000)) (d : InV z 0) :
    q23 s a z 0 = some (if FOk ⟨s.Frame.Turn,Qv u s.Frame.At a⟩ then (⟨⟨s.Frame.Turn,Qv u s.Frame.At a⟩,z⟩,0) else (qn6,16)):=by
  have h : q23 s a z ((0 : Nat) : Int) = _:=qn8 (t:=0) c hs q0 f d;have b : u < 24:=by have:=hs.1.1;omega
  rw [qp3 u b,← c] at h;exact h
end Go.Sh
namespace Go.Sh
open Go Go.Am
section
variable {s : Kb} {u : Nat}
theorem qi9 (w : s.Frame.Turn = u) (p : u < 24) (r : SOk s) (z : InV (cor u s 0 0 0) (-1000000)) (h1 : InV (cor u s 1 1 1) (-1000000)) (hp : 0 < s.Size.X∧0 < s.Size.Y∧0 < s.Size.Z) :
    Ug s = some (boxM (axT u) s.Frame.At ⟨⟨0,0,0⟩,s.Size⟩,0):=by
  unfold Ug;rw [qhj w p r z h1];have q : ((0 : Int) != 0) = false:=rfl;have t : (s.Size.X == 0) = false:=by simp;omega
  have x : (s.Size.Y == 0) = false:=by simp;omega
  have hz : (s.Size.Z == 0) = false:=by simp;omega
  simp only [qh,q,Q1,t,x,hz]
  have st : ∀ (k : Nat) (v : qm) (a b c d e f : Int),k < 8→idxA 8 [cor u s 0 0 0,cor u s 1 0 0,cor u s 0 1 0,cor u s 1 1 0,cor u s 0 0 1,cor u s 1 0 1,cor u s 0 1 1,cor u s 1 1 1] (k : Int) = some v→
      q3g ((cor u s 0 0 0,cor u s 1 0 0,cor u s 0 1 0,cor u s 1 1 0,cor u s 0 0 1,cor u s 1 0 1,cor u s 0 1 1,cor u s 1 1 1),0) ((k : Int),a,b,c,d,e,f) = some (.inl (((k + 1 : Nat) : Int),min a v.X,min b v.Y,min c v.Z,max d v.X,max e v.Y,max f v.Z)):=by
    intro k v a b c d e f hk y
    have hd : decide ((k : Int) < 8) = true:=Q9 q0
    have hw : w64 ((k : Int) + 1) = ((k + 1 : Nat) : Int):=by rw [Q5 q0];omega
    simp only [q3g,hd,Q2,y,qh,hw]
  have e : ∀ a b c d e f : Int,loop (q3g ((cor u s 0 0 0,cor u s 1 0 0,cor u s 0 1 0,cor u s 1 1 0,cor u s 0 0 1,cor u s 1 0 1,cor u s 0 1 1,cor u s 1 1 1),0)) (((0 : Nat) : Int),a,b,c,d,e,f) = some
      (min (min (min (min (min (min (min (min a (cor u s 0 0 0).X) (cor u s 1 0 0).X) (cor u s 0 1 0).X) (cor u s 1 1 0).X) (cor u s 0 0 1).X) (cor u s 1 0 1).X) (cor u s 0 1 1).X) (cor u s 1 1 1).X,
       min (min (min (min (min (min (min (min b (cor u s 0 0 0).Y) (cor u s 1 0 0).Y) (cor u s 0 1 0).Y) (cor u s 1 1 0).Y) (cor u s 0 0 1).Y) (cor u s 1 0 1).Y) (cor u s 0 1 1).Y) (cor u s 1 1 1).Y,
       min (min (min (min (min (min (min (min c (cor u s 0 0 0).Z) (cor u s 1 0 0).Z) (cor u s 0 1 0).Z) (cor u s 1 1 0).Z) (cor u s 0 0 1).Z) (cor u s 1 0 1).Z) (cor u s 0 1 1).Z) (cor u s 1 1 1).Z,
       max (max (max (max (max (max (max (max d (cor u s 0 0 0).X) (cor u s 1 0 0).X) (cor u s 0 1 0).X) (cor u s 1 1 0).X) (cor u s 0 0 1).X) (cor u s 1 0 1).X) (cor u s 0 1 1).X) (cor u s 1 1 1).X,
       max (max (max (max (max (max (max (max e (cor u s 0 0 0).Y) (cor u s 1 0 0).Y) (cor u s 0 1 0).Y) (cor u s 1 1 0).Y) (cor u s 0 0 1).Y) (cor u s 1 0 1).Y) (cor u s 0 1 1).Y) (cor u s 1 1 1).Y,
       max (max (max (max (max (max (max (max f (cor u s 0 0 0).Z) (cor u s 1 0 0).Z) (cor u s 0 1 0).Z) (cor u s 1 1 0).Z) (cor u s 0 0 1).Z) (cor u s 1 0 1).Z) (cor u s 0 1 1).Z) (cor u s 1 1 1).Z):=by
    intro a b c d e f
    rw [Ke (st 0 _ _ _ _ _ _ _ q0 rfl),Ke (st 1 _ _ _ _ _ _ _ q0 rfl),Ke (st 2 _ _ _ _ _ _ _ q0 rfl),Ke (st 3 _ _ _ _ _ _ _ q0 rfl),
      Ke (st 4 _ _ _ _ _ _ _ q0 rfl),Ke (st 5 _ _ _ _ _ _ _ q0 rfl),Ke (st 6 _ _ _ _ _ _ _ q0 rfl),Ke (st 7 _ _ _ _ _ _ _ q0 rfl)]
    exact Kg rfl
  have b : ∀ (i j l : Int),(i = 0∨i = 1)→(j = 0∨j = 1)→(l = 0∨l = 1)→
      (min (cor u s 0 0 0).X (cor u s 1 1 1).X≤(cor u s i j l).X∧(cor u s i j l).X≤max (cor u s 0 0 0).X (cor u s 1 1 1).X)∧
      (min (cor u s 0 0 0).Y (cor u s 1 1 1).Y≤(cor u s i j l).Y∧(cor u s i j l).Y≤max (cor u s 0 0 0).Y (cor u s 1 1 1).Y)∧
      (min (cor u s 0 0 0).Z (cor u s 1 1 1).Z≤(cor u s i j l).Z∧(cor u s i j l).Z≤max (cor u s 0 0 0).Z (cor u s 1 1 1).Z):=by
    intro i j l hi hj hl
    unfold cor
    simp only [Int.zero_mul,Int.one_mul]
    exact qj7 p s.Frame.At (V:=s.Size) (by rcases hi with rfl | rfl <;> simp only <;> omega) (by rcases hj with rfl | rfl <;> simp only <;> omega) (by rcases hl with rfl | rfl <;> simp only <;> omega)
  have e:=e (cor u s 0 0 0).X (cor u s 0 0 0).Y (cor u s 0 0 0).Z (cor u s 0 0 0).X (cor u s 0 0 0).Y (cor u s 0 0 0).Z;have e : loop (q3g ((cor u s 0 0 0,cor u s 1 0 0,cor u s 0 1 0,cor u s 1 1 0,cor u s 0 0 1,cor u s 1 0 1,cor u s 0 1 1,cor u s 1 1 1),0)) (0,(cor u s 0 0 0).X,(cor u s 0 0 0).Y,(cor u s 0 0 0).Z,(cor u s 0 0 0).X,(cor u s 0 0 0).Y,(cor u s 0 0 0).Z) = _:=e;have b1:=b 1 0 0 qn qn qn;have m:=b 0 1 0 qn qn qn;have g:=b 1 1 0 qn qn qn;have o:=b 0 0 1 qn qn qn;have h:=b 1 0 1 qn qn qn;have n:=b 0 1 1 qn qn qn
  rw [mn8 b1.1.1 m.1.1 g.1.1 o.1.1 h.1.1 n.1.1,mn8 b1.2.1.1 m.2.1.1 g.2.1.1 o.2.1.1 h.2.1.1 n.2.1.1,mn8 b1.2.2.1 m.2.2.1 g.2.2.1 o.2.2.1 h.2.2.1 n.2.2.1,
    mx8 b1.1.2 m.1.2 g.1.2 o.1.2 h.1.2 n.1.2,mx8 b1.2.1.2 m.2.1.2 g.2.1.2 o.2.1.2 h.2.1.2 n.2.1.2,mx8 b1.2.2.2 m.2.2.2 g.2.2.2 o.2.2.2 h.2.2.2 n.2.2.2] at e
  rw [e];simp only [qh,boxM,q9v,cor,Qv,addV,mulV,Int.one_mul,Int.zero_mul]
theorem qi8 (m : s.Frame.Turn = u) (d : u < 24) (a : SOk s) (h : InV (cor u s 0 0 0) (-1000000)) (k : InV (cor u s 1 1 1) (-1000000)) (hp : ¬ (0 < s.Size.X∧0 < s.Size.Y∧0 < s.Size.Z)) :
    ∃ b,Ug s = some (b,6):=by
  have l:=a.2;unfold InV at l;unfold Ug;rw [qhj m d a h k];have c : ((0 : Int) != 0) = false:=rfl;simp only [qh,c,Q1];by_cases f : s.Size.X = 0
  · rw [show (s.Size.X == 0) = true by simpa using f];exact ⟨_,rfl⟩
  by_cases g : s.Size.Y = 0
  · rw [show (s.Size.X == 0) = false by simpa using f,show (s.Size.Y == 0) = true by simpa using g];exact ⟨_,rfl⟩
  by_cases j : s.Size.Z = 0
  · rw [show (s.Size.X == 0) = false by simpa using f,show (s.Size.Y == 0) = false by simpa using g,show (s.Size.Z == 0) = true by simpa using j];exact ⟨_,rfl⟩
  omega
theorem qq1 (f : s.Frame.Turn = u) (c : u < 24) (a : SOk s) (d : ¬ (InV (cor u s 0 0 0) (-1000000)∧InV (cor u s 1 1 1) (-1000000))) : ∃ b,Ug s = some (b,16):=by
  obtain ⟨z,e⟩:=qpd f c a d;unfold Ug;rw [e];exact ⟨_,rfl⟩
end
theorem qph (l : List Int) (f : l.length≤200) (j : ∀ x∈l,I64 x) : Jm l = some ([],8)∨Jm l = some ([],16)∨(Jm l = some (Yb l l.length,0)∧NN l∧∀ k,k≤l.length→0≤Ql l k∧Ql l k≤1000000):=by
  by_cases b : NN l
  · have s0 : ∀ k,k≤l.length→0≤Ql l k:=by
      intro k
      induction k with
      | zero=>intro _;simp [Ql]
      | succ k ih=>
        intro c;have:=ih q0;have:=b _ (Y5 (show k < l.length by omega));rw [q31 (show k < l.length by omega)];omega
    by_cases d : ∃ k,k≤l.length∧1000000 < Ql l k
    · exact .inr (.inl (qpg f b j d))
    · have hs : ∀ k,k≤l.length→0≤Ql l k∧Ql l k≤1000000:=fun k c=>⟨s0 k c,Int.not_lt.1 fun h=>d ⟨k,c,h⟩⟩
      exact .inr (.inr ⟨qhs f b hs,b,hs⟩)
  · left;obtain ⟨q,g,a⟩:=qee l q0;unfold Jm q5v;simp only [Qb (show ¬ (l.length : Int) > 200 by omega),Q1,g,qh];rcases a with ⟨_,a⟩ | ⟨a,_⟩
    · exact absurd a b
    · simp only [Q9 a,Q2]
noncomputable def Ky (s : Kb) (u : Nat) (a : Int) (l : List Int) (k : Nat) : Kb:=⟨⟨s.Frame.Turn,Qv u s.Frame.At (setA ⟨0,0,0⟩ a (Ql l k))⟩,setA s.Size a (l[k]?.getD 0)⟩
theorem qv3 {s w : Kb} {a : Int} {l : List Int} {u : Nat} (hu : s.Frame.Turn = u) (hs : SOk s) (hl : l.length≤200) (hn : NN l) (d : ∀ k,k≤l.length→0≤Ql l k∧Ql l k≤1000000) (o : w.Frame = s.Frame) :
    ∀ m k (x y z : Int),l.length - k = m→k≤l.length→
      (loop (Ud l (Yb l l.length,0) a s (w,0)) ((k : Int),x,y,z,(List.range k).map (Ky s u a l)) = some (.inl ((List.range l.length).map (Ky s u a l)))∧∀ i,k≤i→i < l.length→SOk (Ky s u a l i))∨
      loop (Ud l (Yb l l.length,0) a s (w,0)) ((k : Int),x,y,z,(List.range k).map (Ky s u a l)) = some (.inr ([],16)):=by
  intro m
  induction m with
  | zero=>
    intro k x y z hm hk;obtain rfl : k = l.length:=by omega
    have hb : decide ((l.length : Int) < (l.length : Int)) = false:=Qb q0;exact .inl ⟨Kg (by simp only [Ud,hb,Q1]),fun i h1 h2=>q0⟩
  | succ m ih=>
    intro k x y z hm hk;have b : k < l.length:=by omega
    have hb : decide ((k : Int) < (l.length : Int)) = true:=Q9 q0;have r : w64 ((k : Int) + 1) = ((k + 1 : Nat) : Int):=by rw [Q5 q0];omega
    have c:=d k q0;have c':=d (k + 1) q0;have ab:=q31 b;have hx:=hn _ (Y5 b);have ai : u < 24:=by have:=hs.1.1;omega
    have v : InV (setA ⟨0,0,0⟩ a (Ql l k)) (-1000000):=qlm (by unfold InV;simp) q0;have n : InV (setA s.Size a l[k]) 0:=qlm hs.2 q0;have t : SOk ⟨w.Frame,s.Size⟩:=by rw [o];exact hs
    have j:=qj9 (s:=⟨w.Frame,s.Size⟩) (u:=u) (by rw [o];exact hu) t v n;rw [o] at j;have f : idx (Yb l l.length) (k : Int) = some (Ql l k):=qhp q0;have hg : l[k]?.getD 0 = l[k]:=by rw [List.getElem?_eq_getElem b];rfl
    have h : Ky s u a l k = ⟨⟨s.Frame.Turn,Qv u s.Frame.At (setA ⟨0,0,0⟩ a (Ql l k))⟩,setA s.Size a l[k]⟩:=by unfold Ky;rw [hg]
    by_cases hf : FOk ⟨s.Frame.Turn,Qv u s.Frame.At (setA ⟨0,0,0⟩ a (Ql l k))⟩
    · rw [qs hf] at j;have ha : ∀ p : Kb,app 56 ((List.range k).map (Ky s u a l)) [p] = some ((List.range k).map (Ky s u a l) ++ [p]):=fun p=>Z7 (by simp;omega)
      have s1 : Ud l (Yb l l.length,0) a s (w,0) ((k : Int),x,y,z,(List.range k).map (Ky s u a l)) = some (.inl (((k + 1 : Nat) : Int),s.Size.X,s.Size.Y,s.Size.Z,(List.range (k + 1)).map (Ky s u a l))):=by
        have h0 : ((0 : Int) != 0) = false:=rfl;simp only [Ud,hb,Q2,K5 b,f,qgl,qh,o,j,h0,Q1,ha,r];rw [List.range_succ,List.map_append,List.map_cons,List.map_nil,h]
      rw [Ke s1];rcases ih (k + 1) s.Size.X s.Size.Y s.Size.Z q0 q0 with ⟨g1,g2⟩ | g
      · refine .inl ⟨g1,fun i h1 h2=>?_⟩;by_cases e : i = k
        · subst e;rw [h];exact ⟨hf,n⟩
        · exact g2 i q0 h2
      · exact .inr g
    · rw [qx hf] at j;have q : ((16 : Int) != 0) = true:=rfl;exact .inr (Kg (by simp only [Ud,hb,Q2,K5 b,f,qgl,qh,o,j,q]))
def coA (v : qm) (a : Int) : Int:=if a = 0 then v.X else if a = 1 then v.Y else v.Z
theorem qv4 (s : Kb) (a : Int) (l : List Int) {u : Nat} (j : s.Frame.Turn = u) (hs : SOk s) (ha : 0≤a∧a≤2) (n : l.length≤200) (y : ∀ x∈l,I64 x) :
    (∃ o e,q4m s a l = some (o,e)∧(e = 2∨e = 8∨e = 16))∨
    (q4m s a l = some ((List.range l.length).map (Ky s u a l),0)∧NN l∧(∀ k,k≤l.length→0≤Ql l k∧Ql l k≤1000000)∧Ql l l.length = coA s.Size a∧∀ i,i < l.length→SOk (Ky s u a l i)):=by
  unfold q4m;have d:=qj9 (a:=⟨0,0,0⟩) (z:=⟨0,0,0⟩) j hs (by unfold InV;simp) (by unfold InV;simp);rw [qj6,qs hs.1] at d;rw [d];have m : ((0 : Int) != 0) = false:=rfl;have i:=hs.2;unfold InV at i;have v : decide (min (min s.Size.X s.Size.Y) s.Size.Z < 0) = false:=Qb q0;have q : decide (max (max s.Size.X s.Size.Y) s.Size.Z > 1000000) = false:=Qb q0;simp only [qh,m,Q1,v,q,Qb (show ¬ a < 0 by omega),Qb (show ¬ a > 2 by omega)];rcases qph l n y with c | c | ⟨c,p,b⟩
  · rw [c];exact .inl ⟨_,_,rfl,.inr (.inl rfl)⟩
  · rw [c];exact .inl ⟨_,_,rfl,.inr (.inr rfl)⟩
  rw [c]
  have r : idxA 3 [s.Size.X,s.Size.Y,s.Size.Z] a = some (coA s.Size a):=by
    have : a = 0∨a = 1∨a = 2:=by omega
    rcases this with rfl | rfl | rfl <;> rfl
  simp only [qh,m,Q1,qhp (Nat.le_refl _),r];by_cases h : Ql l l.length = coA s.Size a
  rotate_left
  · rw [show (Ql l l.length != coA s.Size a) = true by simpa using h];exact .inl ⟨_,_,rfl,.inl rfl⟩
  rw [show (Ql l l.length != coA s.Size a) = false by simpa using h,Q1];rcases qv3 (a:=a) (w:=⟨⟨s.Frame.Turn,s.Frame.At⟩,⟨0,0,0⟩⟩) j hs n p b rfl l.length 0 0 0 0 q0 q0 with ⟨f,t⟩ | g
  · have f : loop (Ud l (Yb l l.length,0) a s (⟨⟨s.Frame.Turn,s.Frame.At⟩,⟨0,0,0⟩⟩,0)) (0,0,0,0,[]) = _:=f;rw [f];exact .inr ⟨rfl,p,b,h,fun i hi=>t i q0 hi⟩
  · have g : loop (Ud l (Yb l l.length,0) a s (⟨⟨s.Frame.Turn,s.Frame.At⟩,⟨0,0,0⟩⟩,0)) (0,0,0,0,[]) = _:=g;rw [g];exact .inl ⟨_,_,rfl,.inr (.inr rfl)⟩
theorem qr4 {b : qw} (h : ltB b) : isB [b]:=by
  obtain ⟨c,d,a⟩:=h;simp only [isB,grpB,CanG,List.mem_cons,List.not_mem_nil,or_false,forall_eq,List.pairwise_cons,List.Pairwise.nil,and_true,isR,grpR,Jk,ysp,Can];refine ⟨⟨⟨a,qe⟩,qe⟩,⟨⟨c,qe⟩,qe⟩,?_⟩;simpa using d
theorem qdj {b : qw} (h : vB b) : Yf [b] = 0:=qh0 ⟨qe,by simpa using h,qr4 h.1⟩
theorem qqv {u : Nat} (a : u < 24) {A : qm} {b : qw} (_ : ltB b) (x y z : Int) : ∃ w : qm,∀ b : qw,ltB b→(inB (boxM (axT u) A b) x y z↔inB b w.X w.Y w.Z):=by
  refine ⟨uMap (axT (invI u)) (invF u A) x y z,fun b hb=>?_⟩;have e:=q11b a A x y z;generalize uMap (axT (invI u)) (invF u A) x y z = w at e ⊢;have:=qqw _ (qgs u a) A b w.X w.Y w.Z hb;rw [e] at this;exact this
theorem qef (u : Nat) (A v w : qm) : Qv u (Qv u A v) w = Qv u A (addV v w):=by
  unfold Qv addV mulV;rw [qm.mk.injEq];simp only [Int.add_mul];omega
theorem qnw (u : Nat) (A v S : qm) : boxM (axT u) (Qv u A v) ⟨⟨0,0,0⟩,S⟩ = boxM (axT u) A ⟨v,addV v S⟩:=by
  have c:=qef u A v ⟨0,0,0⟩;have b:=qef u A v S;unfold boxM;simp only;have f1 : addV (mulV (axT u) ⟨0,0,0⟩) (Qv u A v) = Qv u A (addV v ⟨0,0,0⟩):=c;have a : addV (mulV (axT u) S) (Qv u A v) = Qv u A (addV v S):=b;rw [f1,a];have : addV v ⟨0,0,0⟩ = v:=by cases v;simp [addV]
  rw [this];rfl
def Yr (S : qm) (a c d : Int) : qw:=⟨setA ⟨0,0,0⟩ a c,setA S a d⟩
theorem q8o {S : qm} {a c d : Int} (hp : 0 < S.X∧0 < S.Y∧0 < S.Z) (h : c < d) : ltB (Yr S a c d):=by
  unfold Yr ltB setA;split
  · exact ⟨h,hp.2.1,hp.2.2⟩
  · split
    · exact ⟨hp.1,h,hp.2.2⟩
    · exact ⟨hp.1,hp.2.1,h⟩
theorem qwj {S : qm} {a c d e : Int} (b : c≤d) (f : d≤e) (x y z : Int) : inB (Yr S a c e) x y z↔inB (Yr S a c d) x y z∨inB (Yr S a d e) x y z:=by
  unfold Yr inB setA;split
  · simp only;omega
  · split
    · simp only;omega
    · simp only;omega
theorem qwi {S : qm} {a c d e : Int} (x y z : Int) : ¬ (inB (Yr S a c d) x y z∧inB (Yr S a d e) x y z):=by
  unfold Yr inB setA;split
  · simp only;omega
  · split
    · simp only;omega
    · simp only;omega
end Go.Sh
namespace Go.Sh
open Go Go.Am
theorem qw9 (S : qm) {a : Int} (b : 0≤a∧a≤2) : setA S a (coA S a) = S:=by
  have : a = 0∨a = 1∨a = 2:=by omega
  rcases this with rfl | rfl | rfl <;> rfl
theorem qwa {a : Int} : setA ⟨0,0,0⟩ a 0 = ⟨0,0,0⟩:=by unfold setA;split <;> (try split) <;> rfl
theorem qll (S : qm) {a c n : Int} : addV (setA ⟨0,0,0⟩ a c) (setA S a n) = setA S a (c + n):=by
  unfold setA addV;split
  · simp
  · split <;> simp
theorem qlt {u : Nat} (b : u < 24) {A S : qm} {a c d : Int} (l : 0≤a∧a≤2) (j : 0≤S.X∧0≤S.Y∧0≤S.Z) (k : 0≤c) (h : c≤d) (hd : d≤coA S a) (f : InV (Qv u A ⟨0,0,0⟩) (-1000000)) (g : InV (Qv u A S) (-1000000)) :
    InV (Qv u A (setA ⟨0,0,0⟩ a c)) (-1000000)∧InV (Qv u A (setA S a d)) (-1000000):=by
  have : a = 0∨a = 1∨a = 2:=by omega
  rcases this with rfl | rfl | rfl
  · have hd : d≤S.X:=hd;show InV (Qv u A ⟨c,0,0⟩) _∧InV (Qv u A ⟨d,S.Y,S.Z⟩) _;exact ⟨q3n b (V:=S) (by simp only;omega) (by simp only;omega) (by simp only;omega) f g,q3n b (V:=S) (by simp only;omega) (by simp only;omega) (by simp only;omega) f g⟩
  · have hd : d≤S.Y:=hd;show InV (Qv u A ⟨0,c,0⟩) _∧InV (Qv u A ⟨S.X,d,S.Z⟩) _;exact ⟨q3n b (V:=S) (by simp only;omega) (by simp only;omega) (by simp only;omega) f g,q3n b (V:=S) (by simp only;omega) (by simp only;omega) (by simp only;omega) f g⟩
  · have hd : d≤S.Z:=hd;show InV (Qv u A ⟨0,0,c⟩) _∧InV (Qv u A ⟨S.X,S.Y,d⟩) _;exact ⟨q3n b (V:=S) (by simp only;omega) (by simp only;omega) (by simp only;omega) f g,q3n b (V:=S) (by simp only;omega) (by simp only;omega) (by simp only;omega) f g⟩
noncomputable def allA (u : Nat) (s : Kb) (a c : Int) : List qw:=if c = 0 then [] else [boxM (axT u) s.Frame.At (Yr s.Size a 0 c)]
theorem q125 (s : Kb) (a : Int) (l : List Int) (ht : 0≤s.Frame.Turn) (hI : ∀ x∈l,I64 x) : qb6 s a l = some true:=by
  unfold qb6;rw [qnf,qh,qna,qh];by_cases hs : SOk s
  rotate_left
  · rw [qx hs];rfl
  rw [qs hs,show ((0 : Int) != 0) = false from rfl];simp only [Q1,qh];by_cases a0 : a < 0
  · rw [Q9 a0];rfl
  by_cases a2 : a > 2
  · rw [Qb a0,Q9 a2];rfl
  by_cases hl : (l.length : Int) > 30
  · rw [Qb a0,Qb a2,Q9 hl];rfl
  rw [Qb a0,Qb a2,Qb hl];simp only [Q1,qh,Bool.not_true];have ha : 0≤a∧a≤2:=by omega
  obtain ⟨u,hu⟩ : ∃ u : Nat,s.Frame.Turn = u:=⟨s.Frame.Turn.toNat,q0⟩
  have g : u < 24:=by have:=hs.1.1;omega
  have ao:=qv4 s a l hu hs ha q0 hI
  have hex : ∃ o e,q4m s a l = some (o,e):=by
    rcases ao with ⟨o,e,h,_⟩ | ⟨h,_⟩
    · exact ⟨o,e,h⟩
    · exact ⟨_,_,h⟩
  by_cases hc : InV (cor u s 0 0 0) (-1000000)∧InV (cor u s 1 1 1) (-1000000)
  rotate_left
  · obtain ⟨b,e⟩:=qq1 hu g hs hc;obtain ⟨o,q,e2⟩:=hex;rw [e,e2];rfl
  obtain ⟨ae,aa⟩:=hc;by_cases hp : 0 < s.Size.X∧0 < s.Size.Y∧0 < s.Size.Z
  rotate_left
  · obtain ⟨b,e⟩:=qi8 hu g hs ae aa hp;obtain ⟨o,q,e2⟩:=hex;rw [e,e2];rfl
  rw [qi9 hu g hs ae aa hp];rcases ao with ⟨o,e,h,h3⟩ | ⟨h,hn,ar,t,bj⟩
  · rw [h];rcases h3 with rfl | rfl | rfl <;> rfl
  rw [h];simp only [qh,bne_self_eq_false,Q1];have hS : 0≤s.Size.X∧0≤s.Size.Y∧0≤s.Size.Z:=by omega
  have am : InV (Qv u s.Frame.At ⟨0,0,0⟩) (-1000000):=by have:=ae;unfold cor at this;simpa using this
  have an : InV (Qv u s.Frame.At s.Size) (-1000000):=by have:=aa;unfold cor at this;simpa using this
  have mono : ∀ k,k≤l.length→Ql l k≤Ql l l.length:=by
    intro k hk
    have key : ∀ n,k + n≤l.length→Ql l k≤Ql l (k + n):=by
      intro n
      induction n with
      | zero=>intro _;exact Int.le_refl _
      | succ n ih=>
        intro h;have:=ih q0;have h2:=q31 (show k + n < l.length by omega);have:=hn _ (Y5 (show k + n < l.length by omega));rw [show k + (n + 1) = k + n + 1 by omega];omega
    have:=key (l.length - k) q0;rw [show k + (l.length - k) = l.length by omega] at this;exact this
  have j : ∀ c d,0≤c→c < d→d≤coA s.Size a→vB (boxM (axT u) s.Frame.At (Yr s.Size a c d)):=fun c d h1 h2 h3=>by
    have:=qlt g ha hS h1 q0 h3 am an;exact (q11e g s.Frame.At (q8o hp h2)).2 this
  have ab : coA s.Size a = Ql l l.length:=t.symm
  obtain ⟨b,e1,n,e2,e3⟩:=Yg (f:=q2j ((List.range l.length).map (Ky s u a l),0)) (fun k (n : Int)=>(allA u s a (Ql l k),n,(k : Int))) l.length (fun k n=>0≤n∧n≤k) (fun b=>∃ n : Int,b = .inl (allA u s a (Ql l l.length),n)∧n≤l.length) (fun k n hk ah=>by
    have r : decide ((k : Int) < (((List.range l.length).map (Ky s u a l)).length : Int)) = true:=Q9 (by simp;omega)
    have aj : idx ((List.range l.length).map (Ky s u a l)) (k : Int) = some (Ky s u a l k):=by
      rw [K5 (by simpa using hk)];simp
    have hw:=w64s hk (show l.length≤1000000 by omega);have bh : l[k]?.getD 0 = l[k]:=by rw [List.getElem?_eq_getElem hk];rfl
    have m : Ky s u a l k = ⟨⟨s.Frame.Turn,Qv u s.Frame.At (setA ⟨0,0,0⟩ a (Ql l k))⟩,setA s.Size a l[k]⟩:=by unfold Ky;rw [bh]
    have au:=bj k hk;have al:=q31 hk;have hx:=hn _ (Y5 hk);have bu:=ar k q0;have bv:=mono (k + 1) q0
    have af : cor u (Ky s u a l k) 0 0 0 = Qv u s.Frame.At (setA ⟨0,0,0⟩ a (Ql l k)):=by
      rw [m];unfold cor;simp only [Int.zero_mul,qj6]
    have ac : cor u (Ky s u a l k) 1 1 1 = Qv u s.Frame.At (setA s.Size a (Ql l (k + 1))):=by
      rw [m];unfold cor;simp only [Int.one_mul,qef];rw [show (⟨(setA s.Size a l[k]).X,(setA s.Size a l[k]).Y,(setA s.Size a l[k]).Z⟩ : qm) = setA s.Size a l[k] from rfl,qll,al]
    obtain ⟨v1,v2⟩:=qlt g ha hS (c:=Ql l k) (d:=Ql l (k + 1)) q0 q0 q0 am an;rw [← af] at v1;rw [← ac] at v2;have ai : (Ky s u a l k).Frame.Turn = u:=by rw [m];exact hu
    by_cases hz : l[k] = 0
    · have bg : ¬ (0 < (Ky s u a l k).Size.X∧0 < (Ky s u a l k).Size.Y∧0 < (Ky s u a l k).Size.Z):=by
        rw [m,hz];unfold setA;split
        · simp
        · split <;> simp
      obtain ⟨b,e⟩:=qi8 ai g au v1 v2 bg;refine .inl ⟨n,?_,q0⟩;rw [show Ql l (k + 1) = Ql l k by omega];simp only [q2j,r,Q2,aj,qh,e,beq_self_eq_true,hw]
    · have p : 0 < l[k]:=by omega
      have bd : 0 < (Ky s u a l k).Size.X∧0 < (Ky s u a l k).Size.Y∧0 < (Ky s u a l k).Size.Z:=by
        rw [m];unfold setA;simp only;split
        · exact ⟨p,hp.2.1,hp.2.2⟩
        · split
          · exact ⟨hp.1,p,hp.2.2⟩
          · exact ⟨hp.1,hp.2.1,p⟩
      have e:=qi9 ai g au v1 v2 bd
      have eb : boxM (axT u) (Ky s u a l k).Frame.At ⟨⟨0,0,0⟩,(Ky s u a l k).Size⟩ = boxM (axT u) s.Frame.At (Yr s.Size a (Ql l k) (Ql l (k + 1))):=by
        rw [m];simp only;rw [qnw,qll,← al];rfl
      rw [eb] at e;have bm:=j (Ql l k) (Ql l (k + 1)) q0 q0 q0;have ba:=j 0 (Ql l (k + 1)) q0 q0 q0;have ck:=qdj bm
      have aq : Yf (allA u s a (Ql l k)) = 0:=by
        unfold allA;split
        · exact qou
        · exact qdj (j 0 (Ql l k) q0 q0 q0)
      have v : ∀ x y z,∃ w : qm,(hasB (allA u s a (Ql l k)) x y z↔inB (Yr s.Size a 0 (Ql l k)) w.X w.Y w.Z)∧(inB (boxM (axT u) s.Frame.At (Yr s.Size a (Ql l k) (Ql l (k + 1)))) x y z↔inB (Yr s.Size a (Ql l k) (Ql l (k + 1))) w.X w.Y w.Z)∧(inB (boxM (axT u) s.Frame.At (Yr s.Size a 0 (Ql l (k + 1)))) x y z↔inB (Yr s.Size a 0 (Ql l (k + 1))) w.X w.Y w.Z):=fun x y z=>by
        obtain ⟨w,hw⟩:=qqv g (A:=s.Frame.At) (b:=Yr s.Size a 0 (Ql l (k + 1))) (q8o hp q0) x y z;refine ⟨w,?_,hw _ (q8o hp q0),hw _ (q8o hp q0)⟩;unfold allA;split
        · rename_i h0;rw [h0];refine ⟨fun h=>absurd h (q3l _ _ _),fun h=>?_⟩;exfalso;unfold Yr inB setA at h;split at h
          · simp only at h;omega
          · split at h
            · simp only at h;omega
            · simp only at h;omega
        · rw [q7x];simp only [q3l,or_false];exact hw _ (q8o hp q0)
      have j1 : jB 1 (allA u s a (Ql l k)) [boxM (axT u) s.Frame.At (Yr s.Size a (Ql l k) (Ql l (k + 1)))] = ([],0):=qja aq ck CanB.nil qe fun x y z=>by
        obtain ⟨w,w1,w2,_⟩:=v x y z;rw [qqt,w1,q7x];simp only [q3l,or_false,w2];exact ⟨fun h=>absurd h (qwi _ _ _),fun h=>h.elim⟩
      have bi : allA u s a (Ql l (k + 1)) = [boxM (axT u) s.Frame.At (Yr s.Size a 0 (Ql l (k + 1)))]:=by unfold allA;rw [qx q0]
      have j2 : jB 2 (allA u s a (Ql l k)) [boxM (axT u) s.Frame.At (Yr s.Size a (Ql l k) (Ql l (k + 1)))] = (allA u s a (Ql l (k + 1)),0):=by
        rw [bi]
        exact qja aq ck (q3c.1 (qdj ba)).2.2 qe fun x y z=>by
          obtain ⟨w,w1,w2,w3⟩:=v x y z;rw [qec,w1,q7x,q7x];simp only [q3l,or_false,w2,w3];exact (qwj q0 q0 _ _ _).symm
      refine .inl ⟨n + 1,?_,q0⟩;have bl : w64 (n + 1) = n + 1:=Q5 q0;simp only [q2j,r,Q2,aj,qh,e,qzp,j1,qzr,j2,hw,bl]
      rfl) (fun n ah=>by
    have r : decide (((l.length : Nat) : Int) < (((List.range l.length).map (Ky s u a l)).length : Int)) = false:=Qb qe
    exact ⟨_,by simp only [q2j,r,Q1],n,rfl,ah.2⟩) (Nat.zero_le _) (c0:=0) ⟨q0,q0⟩
  have bk : allA u s a (Ql l 0) = []:=by unfold allA;rw [qs (by simp [Ql])]
  rw [bk] at e1;have e1 : loop (q2j ((List.range l.length).map (Ky s u a l),0)) ([],0,0) = some b:=e1;rw [e1,e2]
  have ce : 0 < coA s.Size a:=by
    unfold coA;split
    · exact hp.1
    · split
      · exact hp.2.1
      · exact hp.2.2
  have ak : allA u s a (Ql l l.length) = [boxM (axT u) s.Frame.At ⟨⟨0,0,0⟩,s.Size⟩]:=by
    unfold allA;rw [qx q0,t];unfold Yr;rw [qw9 _ ha,qwa]
  simp only [qh,Q2,ak,sameBox _ _ (show [boxM (axT u) s.Frame.At ⟨⟨0,0,0⟩,s.Size⟩].length≤1000000 by simp),decide_true];rw [Q9 e3]
end Go.Sh
