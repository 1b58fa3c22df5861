/- Rs6 Rs7 Rt1 Rt2 Rt3 Rt4 Rm1 Rt5 Rt6 Rt7 -/
import Derived.Test.YtiejlbckgihckaaGreatK12
namespace Go.Sh
open Go Go.Am
theorem q13v (a b : Int) : w64 (a - w64 b) = w64 (a + -b):=by rw [q13w,Int.sub_eq_add_neg]
theorem q6h {x y : Int} (j : -2000002≤x∧x≤2000002) (h : -2000002≤y∧y≤2000002) : -4000008000004≤x * y∧x * y≤4000008000004:=by
  by_cases g : 0≤x
  · by_cases b : 0≤y
    · have:=Int.mul_le_mul j.2 h.2 b q0;have:=Int.mul_nonneg g b;omega
    · have a : 0≤-y:=by omega
      have c:=Int.mul_le_mul j.2 (show -y≤2000002 by omega) a q0;have d:=Int.mul_nonneg g a;rw [Int.mul_neg] at c d;omega
  · have f : 0≤-x:=by omega
    by_cases b : 0≤y
    · have c:=Int.mul_le_mul (show -x≤2000002 by omega) h.2 b q0;have d:=Int.mul_nonneg f b;rw [Int.neg_mul] at c d;omega
    · have a : 0≤-y:=by omega
      have c:=Int.mul_le_mul (show -x≤2000002 by omega) (show -y≤2000002 by omega) a q0;have d:=Int.mul_nonneg f a;rw [Int.neg_mul_neg] at c d;omega
theorem qo9 {b c : qe} (hb : vB b) (p : vB c) : q59 b c = some (Kj b c):=by
  unfold q59 Kj;unfold vB at hb p;have m : w64 (min b.Hi.X c.Hi.X - max b.Lo.X c.Lo.X) = min b.Hi.X c.Hi.X - max b.Lo.X c.Lo.X:=Qb q0;have q : w64 (min b.Hi.Y c.Hi.Y - max b.Lo.Y c.Lo.Y) = min b.Hi.Y c.Hi.Y - max b.Lo.Y c.Lo.Y:=Qb q0;have o : w64 (min b.Hi.Z c.Hi.Z - max b.Lo.Z c.Lo.Z) = min b.Hi.Z c.Hi.Z - max b.Lo.Z c.Lo.Z:=Qb q0;simp only [m,q,o];have bx : -2000002≤min b.Hi.X c.Hi.X - max b.Lo.X c.Lo.X∧min b.Hi.X c.Hi.X - max b.Lo.X c.Lo.X≤2000002:=by omega
  have l : -2000002≤min b.Hi.Y c.Hi.Y - max b.Lo.Y c.Lo.Y∧min b.Hi.Y c.Hi.Y - max b.Lo.Y c.Lo.Y≤2000002:=by omega
  have k : -2000002≤min b.Hi.Z c.Hi.Z - max b.Lo.Z c.Lo.Z∧min b.Hi.Z c.Hi.Z - max b.Lo.Z c.Lo.Z≤2000002:=by omega
  generalize min b.Hi.X c.Hi.X - max b.Lo.X c.Lo.X = x at *;generalize min b.Hi.Y c.Hi.Y - max b.Lo.Y c.Lo.Y = y at *;generalize min b.Hi.Z c.Hi.Z - max b.Lo.Z c.Lo.Z = z at *;have r:=q6h l k;have p2:=q6h bx k;have p3:=q6h bx l;rw [Qb (x:=y * z) q0,Qb (x:=x * z) q0,Qb (x:=x * y) q0];by_cases a : x = 0
  · subst a;by_cases d : y > 0 <;> by_cases f : z > 0 <;> simp [d,f]
  · have ex : (x == 0) = false:=by simpa using a
    by_cases g : x > 0
    · by_cases d : y = 0
      · subst d;by_cases f : z > 0 <;> simp [a,ex,g,f]
      · have j : (y == 0) = false:=by simpa using d
        by_cases h : y > 0
        · by_cases f : z = 0
          · subst f;simp [a,ex,g,d,j,h]
          · have n : (z == 0) = false:=by simpa using f
            simp [a,ex,g,d,j,h,f,n]
        · simp [a,ex,g,d,j,h]
    · simp [a,ex,g]
theorem qsi {b : qe} (h : vB b) : w64 (2 * (w64 ((w64 ((w64 ((w64 (b.Hi.X - b.Lo.X)) * (w64 (b.Hi.Y - b.Lo.Y)))) + (w64 ((w64 (b.Hi.X - b.Lo.X)) * (w64 (b.Hi.Z - b.Lo.Z)))))) + (w64 ((w64 (b.Hi.Y - b.Lo.Y)) * (w64 (b.Hi.Z - b.Lo.Z))))))) = Zs b:=by
  unfold vB at h;rw [Qb (x:=b.Hi.X - b.Lo.X) q0,Qb (x:=b.Hi.Y - b.Lo.Y) q0,Qb (x:=b.Hi.Z - b.Lo.Z) q0];have a:=q6h (x:=b.Hi.X - b.Lo.X) (y:=b.Hi.Y - b.Lo.Y) q0 q0;have p2:=q6h (x:=b.Hi.X - b.Lo.X) (y:=b.Hi.Z - b.Lo.Z) q0 q0;have p3:=q6h (x:=b.Hi.Y - b.Lo.Y) (y:=b.Hi.Z - b.Lo.Z) q0 q0;unfold Zs;rw [Qb (x:=(b.Hi.X - b.Lo.X) * (b.Hi.Y - b.Lo.Y)) q0,Qb (x:=(b.Hi.X - b.Lo.X) * (b.Hi.Z - b.Lo.Z)) q0,Qb (x:=(b.Hi.Y - b.Lo.Y) * (b.Hi.Z - b.Lo.Z)) q0];rw [Qb (x:=(b.Hi.X - b.Lo.X) * (b.Hi.Y - b.Lo.Y) + (b.Hi.X - b.Lo.X) * (b.Hi.Z - b.Lo.Z)) q0,Qb (x:=(b.Hi.X - b.Lo.X) * (b.Hi.Y - b.Lo.Y) + (b.Hi.X - b.Lo.X) * (b.Hi.Z - b.Lo.Z) + (b.Hi.Y - b.Lo.Y) * (b.Hi.Z - b.Lo.Z)) q0,Qb q0]
theorem q13b {l : List qe} (h : l.length≤1000000) (f : ∀ c∈l,vB c) {b : qe} (hb : vB b) (n m : Int) (j : n = w64 m) :
    loop (q58 l b) (n,0) = some (w64 (m - 2 * sumL (fun c=>Kj b c) l)):=by
  rw [qk6 l h (fun n c=>w64 (n + (-2) * (if vB c then Kj b c else 0))) (fun n=>n) (q58 l b) (fun k a s=>by
    have d:=f _ (Ki a);simp only [q58,dlt a,Q2,Qx a,qk,qo9 hb d,w64s a h,qr d];rw [q13v];have : -(2 * Kj b l[k]) = -2 * Kj b l[k]:=by omega
    rw [this]) (fun s=>by simp only [q58,dnl,Q3]) n]
  rw [qfe (fun c=>-2 * (if vB c then Kj b c else 0)) l n m j,qdr,q2k (g:=fun c=>Kj b c) fun c d=>by rw [qr (f c d)]];congr 2;omega
theorem q13c {l : List qe} (m : l.length≤400) (d : ∀ c∈l,vB c) : loop (q57 l) (0,0) = some (w64 (Yw l)):=by
  have key:=Zv (f:=q57 l) (fun k=>(w64 (sumL Zs (l.take k) - 2 * J8 Kj l k),(k : Int))) l.length (w64 (Yw l)) (fun k a=>by
    have hb:=d _ (Ki a)
    have j : slc l 0 (k : Int) = some (l.take k):=by
      unfold slc;rw [qr q0];simp
    have b:=q13b (l:=l.take k) (by rw [List.length_take];omega) (fun c h=>d c (List.mem_of_mem_take h)) hb (w64 (w64 (sumL Zs (l.take k) - 2 * J8 Kj l k) + Zs l[k])) (sumL Zs (l.take k) - 2 * J8 Kj l k + Zs l[k]) (qpg _ _);simp only [q57,dlt a,Q2,Qx a,qk,q8d,j,qsi hb,b,w64s a q0];congr 3;rw [List.take_succ_eq_append_getElem a,qba];simp only [J8,List.getElem?_eq_getElem a,sumL,Int.add_zero];congr 1
    omega) (by
    simp only [q57,dnl,Q3,List.take_length];rfl) (Nat.zero_le _)
  have g : (w64 (sumL Zs (l.take 0) - 2 * J8 Kj l 0),((0 : Nat) : Int)) = ((0 : Int),(0 : Int)):=by
    simp [sumL,J8];exact Qb q0
  rw [g] at key;exact key
theorem qru (b c : qe) : 0≤Kj b c:=by
  unfold Kj;simp only;split
  · rename_i h;exact Int.mul_nonneg q0 q0
  · split
    · rename_i h;exact Int.mul_nonneg q0 q0
    · split
      · rename_i h;exact Int.mul_nonneg q0 q0
      · exact Int.le_refl _
noncomputable def q3r (l : List qe) : Int × Int:=if Qu l≠0 then (0,Qu l) else (Yw l,0)
theorem q13a (N : Nat) (P : Int→Int→Int→Prop) : 0≤q2m N P:=by
  unfold q2m;have:=fun Q=>(qj0 N Q).1;have d:=this fun x y z=>P x y z∧¬ P (x + 1) y z;have b:=this fun x y z=>P x y z∧¬ P (x - 1) y z;have a:=this fun x y z=>P x y z∧¬ P x (y + 1) z;have f:=this fun x y z=>P x y z∧¬ P x (y - 1) z;have g:=this fun x y z=>P x y z∧¬ P x y (z + 1);have c:=this fun x y z=>P x y z∧¬ P x y (z - 1);omega
theorem qhp {l : List qe} (h : Qu l = 0) : 0≤Yw l∧Yw l≤9600000000000000000 / 1000:=by
  obtain ⟨k,a,g⟩:=Kp.1 h;refine ⟨by rw [qdw g a];exact q13a _ _,?_⟩
  have hp : ∀ n,0≤J8 Kj l n:=by
    intro n
    induction n with
    | zero=>exact Int.le_refl _
    | succ n ih=>
      rw [J8]
      have : ∀ (b : qe) (l : List qe),0≤sumL (fun c=>Kj b c) l:=fun b l=>by
        induction l with
        | nil=>exact Int.le_refl _
        | cons c l ih=>rw [sumL];have:=qru b c;omega
      split
      · rename_i b _;have:=this b (l.take n);omega
      · omega
  have f : ∀ l : List qe,(∀ b∈l,vB b)→sumL Zs l≤l.length * 24000000000000:=by
    intro l
    induction l with
    | nil=>intro _;exact Int.le_refl _
    | cons b l ih=>
      intro d;have o:=ih fun c j=>d c (by simp [j]);have hb:=d b qd;unfold vB at hb;have m:=(qcn (x:=b.Hi.X - b.Lo.X) (y:=b.Hi.Y - b.Lo.Y) (z:=0) q0 q0 q0).1;have p2:=(qcn (x:=b.Hi.X - b.Lo.X) (y:=b.Hi.Z - b.Lo.Z) (z:=0) q0 q0 q0).1;have p3:=(qcn (x:=b.Hi.Y - b.Lo.Y) (y:=b.Hi.Z - b.Lo.Z) (z:=0) q0 q0 q0).1;have : Zs b≤24000000000000:=by unfold Zs;omega
      rw [sumL,List.length_cons];omega
  have:=f l a;have:=hp l.length;unfold Yw;omega
theorem qdh (l : List qe) : q3n l = some (q3r l):=by
  unfold q3n q3r;rw [q4z,qk];by_cases h : ¬ Qu l = 0
  · have : (Qu l != 0) = true:=by simpa using h
    rw [qr h,this,Q2]
  replace h:=Classical.not_not.1 h;obtain ⟨a,b,c⟩:=Kp.1 h;have:=qhp h;rw [qq (by simp [h]),h,show ((0 : Int) != 0) = false from rfl,Q3,q13c a b,Qb q0];rfl
end Go.Sh
namespace Go.Sh
open Go Go.Am
def grpR : List qi→List (Grp qj)
  | []=>[]
  | r::l=>match grpR l with
    | g::gs=>if g.lo = r.X0∧g.hi = r.X1 then ⟨g.lo,g.hi,ysp r::g.sec⟩::gs else ⟨r.X0,r.X1,[ysp r]⟩::g::gs
    | []=>[⟨r.X0,r.X1,[ysp r]⟩]
def grpB : List qe→List (Grp qi)
  | []=>[]
  | r::l=>match grpB l with
    | g::gs=>if g.lo = r.Lo.Z∧g.hi = r.Hi.Z then ⟨g.lo,g.hi,Jr r::g.sec⟩::gs else ⟨r.Lo.Z,r.Hi.Z,[Jr r]⟩::g::gs
    | []=>[⟨r.Lo.Z,r.Hi.Z,[Jr r]⟩]
theorem qkr : ∀ l : List qi,K5 putR (grpR l) = l
  | []=>rfl
  | r::l=>by
    have a:=qkr l
    unfold grpR
    split
    · rename_i g d h
      rw [h] at a
      split
      · rename_i b
        obtain ⟨b,c⟩:=b
        rw [← a]
        simp only [K5,List.flatMap_cons,List.map_cons,List.cons_append,b,c]
        congr 1
      · rw [← a];rfl
    · rename_i h
      rw [h] at a
      rw [← a];rfl
theorem qkq : ∀ l : List qe,K5 putB (grpB l) = l
  | []=>rfl
  | r::l=>by
    have a:=qkq l
    unfold grpB
    split
    · rename_i g d h
      rw [h] at a
      split
      · rename_i b
        obtain ⟨b,c⟩:=b
        rw [← a]
        simp only [K5,List.flatMap_cons,List.map_cons,List.cons_append,b,c]
        congr 1
      · rw [← a];rfl
    · rename_i h
      rw [h] at a
      rw [← a];rfl
instance {σ : Type} [DecidableEq σ] (gs : List (Grp σ)) : Decidable (CanG gs):=by unfold CanG;infer_instance
instance (s : List qj) : Decidable (Can s):=by unfold Can;infer_instance
def isR (l : List qi) : Prop:=CanG (grpR l)∧∀ g∈grpR l,Can g.sec
instance (l : List qi) : Decidable (isR l):=by unfold isR;infer_instance
def isB (l : List qe) : Prop:=CanG (grpB l)∧∀ g∈grpB l,isR g.sec
instance (l : List qe) : Decidable (isB l):=by unfold isB;infer_instance
theorem isR.can {l : List qi} (h : isR l) : CanR l:=⟨grpR l,(qkr l).symm,h.1,h.2⟩
theorem isB.can {l : List qe} (h : isB l) : CanB l:=⟨grpB l,(qkq l).symm,h.1,fun g a=>(h.2 g a).can⟩
theorem q5o {l : List qe} (h : l.length≤400∧(∀ b∈l,vB b)∧isB l) : Qu l = 0:=Kp.2 ⟨h.1,h.2.1,h.2.2.can⟩
theorem q9h {kind : Int} {p q out : List qe} (h : p.length + q.length≤100000) (b : CanB out) (a : ∀ x y z,Ks kind (hasB p x y z) (hasB q x y z)↔hasB out x y z) : mrgB kind p q = out:=
  qbp (q6d kind h) b fun x y z=>by rw [qfm kind h];exact a x y z
theorem qch {l out : List qe} (h : l.length≤400∧(∀ b∈l,vB b)∧out.length≤400) (c : isB out) (a : ∀ x y z,hasB l x y z↔hasB out x y z) : mkB l = (out,0):=by
  have e : mrgB 2 l [] = out:=q9h (by simp;omega) c.can fun x y z=>by rw [q60,← a];simp [q1c]
  unfold mkB;rw [qq q0,qr h.2.1,e,qq q0]
theorem ql1 {kind : Int} {p q out : List qe} (hp : Qu p = 0) (a : Qu q = 0) (c : CanB out) (d : out.length≤400) (b : ∀ x y z,Ks kind (hasB p x y z) (hasB q x y z)↔hasB out x y z) : jB kind p q = (out,0):=by
  have f:=(Kp.1 hp).1;have g:=(Kp.1 a).1;have e:=q9h (kind:=kind) (p:=p) (q:=q) q0 c b;unfold jB;rw [qq (by simp [hp]),qq (by simp [a]),e,qq q0]
def bx (x y z u v w : Int) : qe:={Lo:=({X:=x,Y:=y,Z:=z} : Q6),Hi:=({X:=u,Y:=v,Z:=w} : Q6)}
def Y3 : List qe:=[bx 0 0 0 2 2 1,bx 0 0 1 1 2 2]
theorem axT9 : axT 9 = (⟨0,1,0⟩,⟨-1,0,0⟩,⟨0,0,1⟩):=by decide +kernel
theorem qi5 : q67 = some true:=by
  have c : Jk = some Y3:=rfl;have a : Qu Y3 = 0:=q5o Q1;have h : volume Y3 = (6,0):=by unfold volume;rw [qq (by simp [a])];rfl
  have hs : q3r Y3 = (22,0):=by unfold q3r;rw [qq (by simp [a])];rfl
  have d : place Y3 ({Turn:=9,At:=({X:=0,Y:=0,Z:=0} : Q6)} : Y2) = ([bx (-2) 0 0 0 2 1,bx (-2) 0 1 0 1 2],0):=by
    have e : Y3.map (Zl 9 ⟨0,0,0⟩) = [bx (-2) 0 0 0 2 1,bx (-2) 0 1 0 1 2]:=by
      simp only [Y3,List.map_cons,List.map_nil,Zl,Yy,axT9];rfl
    have g : ∀ b∈Y3,vB (Zl 9 ⟨0,0,0⟩ b):=by
      have : ∀ b∈Y3.map (Zl 9 ⟨0,0,0⟩),vB b:=by rw [e];decide
      intro b hb;exact this _ (List.mem_map_of_mem hb)
    unfold place;rw [qq (by simp [a]),qq (by unfold FOk InV;decide)];rw [qr (show ∀ b∈Y3,vB (Zl (Int.toNat 9) ⟨0,0,0⟩ b) from g)];show mkB (Y3.map (Zl 9 ⟨0,0,0⟩)) = _;rw [e];exact qch Q1 Q1 fun x y z=>Iff.rfl
  have f : mkB [bx 0 0 0 1 2 2,bx 1 0 0 2 2 1] = (Y3,0):=qch Q1 Q1 fun x y z=>by
    simp only [Y3,qc5,q1c,or_false,inB,bx];omega
  unfold q67
  simp only [c,qk,qo5,h,qdh,hs,qhd _ _ (show (0 : Int)≤(({Turn:=9,At:=({X:=0,Y:=0,Z:=0} : Q6)} : Y2)).Turn by decide),d,
    show Yr 0 0 0 1 2 2 = some (bx 0 0 0 1 2 2) from rfl,show Yr 1 0 0 2 2 1 = some (bx 1 0 0 2 2 1) from rfl,qdg,f,
    show Yr (-2) 0 0 0 2 1 = some (bx (-2) 0 0 0 2 1) from rfl,show Yr (-2) 0 1 0 1 2 = some (bx (-2) 0 1 0 1 2) from rfl,
    sameBox _ _ (show [bx (-2) 0 0 0 2 1,bx (-2) 0 1 0 1 2].length≤1000000 by simp),sameBox _ _ (show Y3.length≤1000000 by simp [Y3]),decide_true,beq_self_eq_true,Q2,
    q129 Y3 _ (show Y3.length≤1000000 by simp [Y3]),
    show decide (hasB Y3 0 0 1) = true by decide,show decide (hasB Y3 1 0 1) = false by decide,Bool.not_false]
theorem qsl (p q : List qe) : q9c p q = some (decide ((p.length≤30∧q.length≤30)∧Qu p = 0∧Qu q = 0)):=by
  unfold q9c;simp only [qws,qk];by_cases c : p.length≤30
  · by_cases b : q.length≤30
    · rw [Qf (by omega : (p.length : Int)≤30),Qf (by omega : (q.length : Int)≤30)];simp only [Q2,qk];congr 1;by_cases hp : Qu p = 0
      · rw [qq (by simp [hp])];by_cases a : Qu q = 0
        · rw [a];exact (Qf ⟨⟨c,b⟩,hp,rfl⟩).symm
        · rw [show (Qu q == 0) = false by simpa using a];exact (Qj fun h=>a h.2.2).symm
      · rw [qr hp,show (Qu p == 0) = false by simpa using hp];exact (Qj fun h=>hp h.2.1).symm
    · rw [Qf (by omega : (p.length : Int)≤30),Qj (by omega : ¬ (q.length : Int)≤30)];simp only [Q2,Q3,qk];congr 1;exact (Qj fun h=>b h.1.2).symm
  · rw [Qj (by omega : ¬ (p.length : Int)≤30)];simp only [Q3,qk];congr 1;exact (Qj fun h=>c h.1.1).symm
theorem qr9 : Qu [] = 0:=q5o Q1
instance (kind : Int) (a b : Prop) [Decidable a] [Decidable b] : Decidable (Ks kind a b):=by unfold Ks;infer_instance
end Go.Sh
namespace Go.Sh
open Go Go.Am
section
def PreG {σ : Type} (gs : List (Grp σ)) : Prop:=(∀ g∈gs,g.lo < g.hi)∧gs.Pairwise (fun g h=>g.hi≤h.lo)
variable {σ β : Type}
def Jm [DecidableEq σ] : List (Grp σ)→List (Grp σ)
  | []=>[]
  | g::r=>if g.sec = [] then Jm r else match Jm r with
    | []=>[g]
    | h::t=>if g.hi = h.lo∧g.sec = h.sec then ⟨g.lo,h.hi,g.sec⟩::t else g::h::t
theorem PreG.tail {g : Grp σ} {r : List (Grp σ)} (h : PreG (g::r)) : PreG r:=⟨fun k a=>h.1 k (by simp [a]),(List.pairwise_cons.1 h.2).2⟩
theorem PreG.nxt {g : Grp σ} {r : List (Grp σ)} (h : PreG (g::r)) : ∀ k∈r,g.hi≤k.lo:=(List.pairwise_cons.1 h.2).1
theorem qg6 [DecidableEq σ] (put : Int→Int→σ→β) : ∀ {d : List (Grp σ)},PreG d→CanG (Jm d)∧(∀ x,secG (Jm d) x = secG d x)∧(∀ h∈Jm d,∃ g∈d,h.sec = g.sec)∧(∀ y,(∀ g∈d,y≤g.lo)→∀ h∈Jm d,y≤h.lo)∧(K5 put (Jm d)).length≤(K5 put d).length
  | [],_=>by simp [Jm,CanG,K5]
  | g::r,hp=>by
    obtain ⟨l,i2,i3,q,i5⟩:=qg6 put hp.tail
    have p:=hp.1 g qd
    have hn:=hp.nxt
    have f:=q g.hi hn
    have b : ∀ x,secG (g::r) x = if g.lo≤x∧x < g.hi then g.sec else secG (Jm r) x:=fun x=>by rw [secG,i2]
    have u : (K5 put (g::r)).length = g.sec.length + (K5 put r).length:=by simp [K5]
    unfold Jm
    by_cases o : g.sec = []
    · rw [qr o]
      refine ⟨l,fun x=>?_,fun h j=>?_,fun y c=>q y fun k a=>c k (by simp [a]),q0⟩
      · rw [b]
        split
        · rename_i s
          rw [o,Uv f s.2]
        · rfl
      · obtain ⟨k,a,e⟩:=i3 h j
        exact ⟨k,by simp [a],e⟩
    · rw [qq o]
      generalize Jm r = m at *
      cases m with
      | nil=>
        refine ⟨⟨by simpa using ⟨p,o⟩,qd⟩,fun x=>by rw [b];rfl,fun h j=>⟨g,qd,by simp at j;rw [j]⟩,fun y c h j=>by simp at j;rw [j];exact c g qd,?_⟩
        rw [u];simp [K5]
      | cons h t=>
        simp only
        have j:=l.1 h qd
        have hl:=f h qd
        have e5 : (K5 put (h::t)).length = h.sec.length + (K5 put t).length:=by simp [K5]
        split
        · rename_i w
          obtain ⟨q1,q2⟩:=w
          refine ⟨⟨fun k a=>?_,?_⟩,fun x=>?_,fun k a=>?_,fun y c k a=>?_,?_⟩
          · rcases List.mem_cons.1 a with rfl | a
            · exact ⟨by simp only;omega,o⟩
            · exact l.1 k (by simp [a])
          · rw [List.pairwise_cons]
            exact ⟨fun k a=>by have:=l.nxt k a;rw [← q2] at this;exact this,l.tail.2⟩
          · rw [b,secG,secG]
            by_cases s : g.lo≤x∧x < g.hi
            · rw [qr (by simp only;omega),qr s]
            · rw [qq s]
              by_cases c : h.lo≤x∧x < h.hi
              · rw [qr (by simp only;omega),qr c,q2]
              · rw [qq (by simp only;omega),qq c]
          · rcases List.mem_cons.1 a with rfl | a
            · exact ⟨g,qd,rfl⟩
            · obtain ⟨k',n,e⟩:=i3 k (by simp [a])
              exact ⟨k',by simp [n],e⟩
          · rcases List.mem_cons.1 a with rfl | a
            · exact c g qd
            · exact q y (fun z v=>c z (by simp [v])) k (by simp [a])
          · have : (K5 put (⟨g.lo,h.hi,g.sec⟩::t)).length = g.sec.length + (K5 put t).length:=by simp [K5]
            omega
        · rename_i w
          refine ⟨⟨fun k a=>?_,?_⟩,fun x=>by rw [b];rfl,fun k a=>?_,fun y c k a=>?_,?_⟩
          · rcases List.mem_cons.1 a with rfl | a
            · exact ⟨p,o⟩
            · exact l.1 k a
          · rw [List.pairwise_cons]
            refine ⟨fun k a=>?_,l.2⟩
            rcases List.mem_cons.1 a with rfl | a
            · exact ⟨hl,fun e1 e2=>w ⟨e1,e2⟩⟩
            · have:=(l.nxt k a).1
              exact ⟨q0,fun e=>q0⟩
          · rcases List.mem_cons.1 a with rfl | a
            · exact ⟨_,List.mem_cons_self,rfl⟩
            · obtain ⟨k',n,e⟩:=i3 k a
              exact ⟨k',by simp [n],e⟩
          · rcases List.mem_cons.1 a with rfl | a
            · exact c _ List.mem_cons_self
            · exact q y (fun z v=>c z (by simp [v])) k a
          · have : (K5 put (g::h::t)).length = g.sec.length + (K5 put (h::t)).length:=by simp [K5]
            omega
theorem qhh (put : Int→Int→σ→β) : ∀ {d : List (Grp σ)} {l : List β},CanG d→l.Sublist (K5 put d)→∃ a,l = K5 put a∧PreG a∧(∀ f∈a,∃ g∈d,f.sec.Sublist g.sec)∧∀ y,(∀ g∈d,y≤g.lo)→∀ f∈a,y≤f.lo
  | [],l,_,hl=>⟨[],by simpa [K5] using hl,⟨qd,qd⟩,qd,qd⟩
  | g::r,l,hc,hl=>by
    have e : K5 put (g::r) = g.sec.map (put g.lo g.hi) ++ K5 put r:=by simp [K5]
    rw [e] at hl
    obtain ⟨o,p,rfl,n,m⟩:=List.sublist_append_iff.1 hl
    obtain ⟨s,hs,rfl⟩:=List.sublist_map_iff.1 n
    obtain ⟨a,rfl,j,p2,p3⟩:=qhh put hc.tail m
    refine ⟨⟨g.lo,g.hi,s⟩::a,by simp [K5],⟨fun k b=>?_,?_⟩,fun k b=>?_,fun y h k b=>?_⟩
    · rcases List.mem_cons.1 b with rfl | b
      · exact (hc.1 g qd).1
      · exact j.1 k b
    · rw [List.pairwise_cons]
      exact ⟨fun k b=>p3 g.hi (fun z c=>(hc.nxt z c).1) k b,j.2⟩
    · rcases List.mem_cons.1 b with rfl | b
      · exact ⟨g,qd,hs⟩
      · obtain ⟨z,c,q⟩:=p2 k b
        exact ⟨z,by simp [c],q⟩
    · rcases List.mem_cons.1 b with rfl | b
      · exact h g qd
      · exact p3 y (fun z c=>h z (by simp [c])) k b
end
theorem qqi {s t : List qj} (h : Can t) (hs : s.Sublist t) : Can s:=⟨fun x a=>h.1 x (hs.subset a),h.2.sublist hs⟩
theorem qjg : ∀ {a : List (Grp qj)},PreG a→∀ x,covS (K5 putR a) x = secG a x
  | [],_,x=>rfl
  | g::r,h,x=>by
    have e : K5 putR (g::r) = g.sec.map (putR g.lo g.hi) ++ K5 putR r:=by simp [K5]
    rw [e,qjd,qjh,qjg h.tail,secG]
    split
    · rename_i b
      rw [Uv h.nxt b.2,List.append_nil]
    · rfl
theorem qig : ∀ {a : List (Grp qi)},PreG a→∀ x,atB (K5 putB a) x = secG a x
  | [],_,x=>rfl
  | g::r,h,x=>by
    have e : K5 putB (g::r) = g.sec.map (putB g.lo g.hi) ++ K5 putB r:=by simp [K5]
    rw [e,qid,qih,qig h.tail,secG]
    split
    · rename_i b
      rw [Uv h.nxt b.2,List.append_nil]
    · rfl
theorem qqg {r l : List qi} (h : CanR r) (n : l.Sublist r) : ∃ m,CanR m∧m.length≤l.length∧∀ x y,hasR m x y↔hasR l x y:=by
  obtain ⟨v,rfl,j,f⟩:=h;obtain ⟨a,rfl,c,p2,_⟩:=qhh putR j n;obtain ⟨b,u,t,_,o⟩:=qg6 putR c;refine ⟨K5 putR (Jm a),⟨_,rfl,b,fun g d=>?_⟩,o,fun x y=>?_⟩
  · obtain ⟨k,p,e⟩:=t g d;obtain ⟨z,s,q⟩:=p2 k p;rw [e];exact qqi (f z s) q
  · rw [← U8,← U8,q5s b,qjg c,u]
open Classical in
theorem qqf {s l : List qe} (hs : CanB s) (hl : l.Sublist s) : ∃ m,CanB m∧m.length≤l.length∧∀ x y z,hasB m x y z↔hasB l x y z:=by
  obtain ⟨gs,rfl,h1,h2⟩:=hs;obtain ⟨a,rfl,u,p2,_⟩:=qhh putB h1 hl
  have hex : ∀ g∈a,∃ m,CanR m∧m.length≤g.sec.length∧∀ x y,hasR m x y↔hasR g.sec x y:=fun g b=>by
    obtain ⟨k,d,q⟩:=p2 g b;exact qqg (h2 k d) q
  let f : List qi→List qi:=fun r=>if h : ∃ m,CanR m∧m.length≤r.length∧∀ x y,hasR m x y↔hasR r x y then h.choose else []
  have t : ∀ g∈a,CanR (f g.sec)∧(f g.sec).length≤g.sec.length∧∀ x y,hasR (f g.sec) x y↔hasR g.sec x y:=fun g b=>by
    have h:=hex g b;have e : f g.sec = h.choose:=dif_pos h;rw [e];exact h.choose_spec
  let c : List (Grp qi):=a.map fun g=>⟨g.lo,g.hi,f g.sec⟩
  have q1 : PreG c:=⟨fun k d=>by
    obtain ⟨g,b,rfl⟩:=List.mem_map.1 d;exact u.1 g b,by
    rw [List.pairwise_map];exact u.2⟩
  have o : ∀ (a : List (Grp qi)) (z : Int),secG (a.map fun g=>⟨g.lo,g.hi,f g.sec⟩) z = []∧secG a z = []∨∃ g∈a,secG (a.map fun g=>(⟨g.lo,g.hi,f g.sec⟩ : Grp qi)) z = f g.sec∧secG a z = g.sec:=by
    intro a z
    induction a with
    | nil=>exact .inl ⟨rfl,rfl⟩
    | cons g r ih=>
      rw [List.map_cons,secG,secG];by_cases j : g.lo≤z∧z < g.hi
      · rw [qr j,qr j];exact .inr ⟨g,qd,rfl,rfl⟩
      · rw [qq j,qq j];rcases ih with h | ⟨k,d,h⟩
        · exact .inl h
        · exact .inr ⟨k,by simp [d],h⟩
  obtain ⟨w,m2,m3,_,m5⟩:=qg6 putB q1
  have n : ∀ a : List (Grp qi),(∀ g∈a,(f g.sec).length≤g.sec.length)→(K5 putB (a.map fun g=>(⟨g.lo,g.hi,f g.sec⟩ : Grp qi))).length≤(K5 putB a).length:=by
    intro a h
    induction a with
    | nil=>simp [K5]
    | cons g r ih=>
      have:=ih fun k d=>h k (by simp [d]);have:=h g qd;simp only [K5,List.map_cons,List.flatMap_cons,List.length_append,List.length_map] at *;omega
  refine ⟨K5 putB (Jm c),⟨_,rfl,w,fun g b=>?_⟩,Nat.le_trans m5 (n a fun g b=>(t g b).2.1),fun x y z=>?_⟩
  · obtain ⟨k,d,e⟩:=m3 g b;obtain ⟨z,j,rfl⟩:=List.mem_map.1 d;rw [e];exact (t z j).1
  · rw [← q20,← q20,q5i w,qig u,m2];rcases o a z with ⟨v,p⟩ | ⟨g,b,v,p⟩
    · rw [show secG c z = [] from v,p]
    · rw [show secG c z = f g.sec from v,p];exact (t g b).2.2 x y
theorem q136 {s l : List qe} (hs : CanB s) (d : l.Sublist s) (h : l.length≤100000) : (mrgB 2 l []).length≤l.length:=by
  obtain ⟨m,c,b,a⟩:=qqf hs d;have : mrgB 2 l [] = m:=q9h (by simpa using h) c fun x y z=>by rw [q60,a];simp [q1c]
  rw [this];exact b
end Go.Sh
namespace Go.Sh
open Go Go.Am
inductive Cn (adj : Nat→Nat→Prop) : Nat→Nat→Prop
  | refl (i : Nat) : Cn adj i i
  | step {i j k : Nat} : Cn adj i j→adj j k→Cn adj i k
section
variable {adj : Nat→Nat→Prop}
theorem Cn.trans {i j k : Nat} (h : Cn adj i j) (g : Cn adj j k) : Cn adj i k:=by
  induction g with
  | refl=>exact h
  | step _ h2 ih=>exact .step ih h2
theorem Cn.symm (hs : ∀ i k,adj i k→adj k i) {i j : Nat} (h : Cn adj i j) : Cn adj j i:=by
  induction h with
  | refl=>exact .refl _
  | step _ h2 ih=>exact (Cn.step (.refl _) (hs _ _ h2)).trans ih
theorem Cn.lt {n : Nat} (a : ∀ i k,adj i k→k < n) {i j : Nat} (h : Cn adj i j) (hi : i < n) : j < n:=by
  induction h with
  | refl=>exact hi
  | step _ h2 _=>exact a _ _ h2
theorem Cn.closed {S : Nat→Prop} (a : ∀ i k,S i→adj i k→S k) {i j : Nat} (h : Cn adj i j) (hi : S i) : S j:=by
  induction h with
  | refl=>exact hi
  | step _ h2 ih=>exact a _ _ ih h2
end
def adjB (s : List qe) (i k : Nat) : Prop:=∃ a b,s[i]? = some a∧s[k]? = some b∧Kj a b > 0
theorem qe8 (s : List qe) (i k : Nat) (h : adjB s i k) : adjB s k i:=by
  obtain ⟨a,b,f,d,c⟩:=h;exact ⟨b,a,d,f,by rw [qja];exact c⟩
theorem qi2 (s : List qe) (i k : Nat) (h : adjB s i k) : k < s.length:=by
  obtain ⟨a,b,f,c,d⟩:=h;exact (List.getElem?_eq_some_iff.1 c).1
theorem q8q {s : List qe} {i k : Nat} (hi : i < s.length) (d : k < s.length) : adjB s i k↔Kj s[i] s[k] > 0:=by
  constructor
  · rintro ⟨a,b,f,c,g⟩;rw [List.getElem?_eq_getElem hi] at f;rw [List.getElem?_eq_getElem d] at c;cases f;cases c;exact g
  · intro h;exact ⟨_,_,List.getElem?_eq_getElem hi,List.getElem?_eq_getElem d,h⟩
open Classical in
noncomputable def pick (s : List qe) (P : Nat→Prop) : List qe:=((List.range s.length).filter fun j=>decide (P j)).filterMap fun j=>s[j]?
theorem qx3 (s : List qe) : (List.range s.length).filterMap (fun j=>s[j]?) = s:=by
  have key : ∀ n,n≤s.length→(List.range n).filterMap (fun j=>s[j]?) = s.take n:=by
    intro n
    induction n with
    | zero=>intro _;simp
    | succ n ih=>
      intro h;rw [List.range_succ,List.filterMap_append,ih q0,List.take_succ_eq_append_getElem q0];simp [List.getElem?_eq_getElem (show n < s.length by omega)]
  rw [key _ (Nat.le_refl _),List.take_length]
theorem qgp (s : List qe) (P : Nat→Prop) : (pick s P).Sublist s:=by
  have h:=List.Sublist.filterMap (fun j=>s[j]?) (List.filter_sublist (p:=fun j=>@decide (P j) (Classical.propDecidable _)) (l:=List.range s.length));rw [qx3] at h;exact h
theorem q6g {s : List qe} {P : Nat→Prop} {b : qe} : b∈pick s P↔∃ j,∃ h : j < s.length,P j∧s[j] = b:=by
  unfold pick;simp only [List.mem_filterMap,List.mem_filter,List.mem_range,decide_eq_true_eq];constructor
  · rintro ⟨j,⟨a,d⟩,c⟩;rw [List.getElem?_eq_getElem a] at c;exact ⟨j,a,d,by simpa using c⟩
  · rintro ⟨j,a,d,c⟩;exact ⟨j,⟨a,d⟩,by rw [List.getElem?_eq_getElem a,c]⟩
noncomputable def comp (s : List qe) (i : Nat) : List qe:=pick s (Cn (adjB s) i)
def repI (s : List qe) (i : Nat) : Prop:=∀ j,j < i→¬ Cn (adjB s) j i
open Classical in
noncomputable def Zd (s : List qe) : List (List qe):=((List.range s.length).filter fun i=>decide (repI s i)).map fun i=>mrgB 2 (comp s i) []
noncomputable def q9l (s : List qe) : List (List qe) × Int:=if Qu s≠0 then ([],Qu s) else (Zd s,0)
theorem que {l m : List qe} (c : l.length≤100000) (a : m.length≤100000) (h : ∀ b,b∈l↔b∈m) : mrgB 2 l [] = mrgB 2 m []:=by
  refine qbp (q6d 2 (by simpa using c)) (q6d 2 (by simpa using a)) fun x y z=>?_;rw [qc4 c,qc4 a];constructor
  · rintro ⟨b,hb,q⟩;exact ⟨b,(h b).1 hb,q⟩
  · rintro ⟨b,hb,q⟩;exact ⟨b,(h b).2 hb,q⟩
theorem qcm {s : List qe} (hs : Qu s = 0) (P : Nat→Prop) : Qu (mrgB 2 (pick s P) []) = 0∧(mrgB 2 (pick s P) []).length≤s.length∧mkB (pick s P) = (mrgB 2 (pick s P) [],0):=by
  obtain ⟨j,g,f⟩:=Kp.1 hs;have a:=qgp s P;have h:=a.length_le;have c : ∀ b∈pick s P,vB b:=fun b hb=>g b (a.subset hb);have hb:=q136 f a q0;have d:=q6d 2 (p:=pick s P) (q:=[]) (by simp;omega);refine ⟨Kp.2 ⟨q0,d.vB (InB.mrg (by simp;omega) (q13p c) InB.nil),d⟩,q0,?_⟩;unfold mkB;rw [qq q0,qr c,qq q0]
def Uf (c d : Q6) : Prop:=(c.Y = d.Y∧c.Z = d.Z∧(d.X = c.X + 1∨d.X = c.X - 1))∨(c.X = d.X∧c.Z = d.Z∧(d.Y = c.Y + 1∨d.Y = c.Y - 1))∨(c.X = d.X∧c.Y = d.Y∧(d.Z = c.Z + 1∨d.Z = c.Z - 1))
def inC (b : qe) (c : Q6) : Prop:=inB b c.X c.Y c.Z
inductive CC (P : Q6→Prop) : Q6→Q6→Prop
  | refl (c : Q6) : CC P c c
  | step {c d e : Q6} : CC P c d→Uf d e→P e→CC P c e
theorem CC.trans {P : Q6→Prop} {c d e : Q6} (h : CC P c d) (g : CC P d e) : CC P c e:=by
  induction g with
  | refl=>exact h
  | step _ h2 h3 ih=>exact .step ih h2 h3
theorem CC.mono {P Q : Q6→Prop} (a : ∀ c,P c→Q c) {c d : Q6} (h : CC P c d) : CC Q c d:=by
  induction h with
  | refl=>exact .refl _
  | step _ h2 h3 ih=>exact .step ih h2 (a _ h3)
theorem qep {P : Q6→Prop} (f : Int→Q6) (d : ∀ t,Uf (f t) (f (t + 1))∧Uf (f (t + 1)) (f t)) {a b lo hi : Int} (g : lo≤a∧a < hi) (hb : lo≤b∧b < hi) (j : ∀ t,lo≤t→t < hi→P (f t)) : CC P (f a) (f b):=by
  have up : ∀ (n : Nat) (a : Int),lo≤a→a + n < hi→CC P (f a) (f (a + n)):=by
    intro n
    induction n with
    | zero=>intro a _ _;rw [show a + ((0 : Nat) : Int) = a by omega];exact .refl _
    | succ n ih=>
      intro a c k;have:=ih a c q0;rw [show a + ((n + 1 : Nat) : Int) = a + n + 1 by omega];exact .step this (d _).1 (j _ q0 q0)
  have down : ∀ (n : Nat) (a : Int),a < hi→lo≤a - n→CC P (f a) (f (a - n)):=by
    intro n
    induction n with
    | zero=>intro a _ _;rw [show a - ((0 : Nat) : Int) = a by omega];exact .refl _
    | succ n ih=>
      intro a c k;have:=ih a c q0;have e : a - (n : Int) = (a - ((n + 1 : Nat) : Int)) + 1:=by omega
      rw [e] at this;exact .step this (d _).2 (j _ q0 q0)
  by_cases h : a≤b
  · have:=up (b - a).toNat a g.1 q0;rw [show a + ((b - a).toNat : Int) = b by omega] at this;exact this
  · have:=down (a - b).toNat a g.2 q0;rw [show a - ((a - b).toNat : Int) = b by omega] at this;exact this
theorem qio {P : Q6→Prop} {b : qe} (l : ∀ c,inC b c→P c) {c d : Q6} (v : inC b c) (hd : inC b d) : CC P c d:=by
  obtain ⟨o,j,f⟩:=c;obtain ⟨a,k,r⟩:=d;obtain ⟨c1,c2,c3⟩:=v;obtain ⟨m,n,s⟩:=hd;have q : CC P ⟨o,j,f⟩ ⟨a,j,f⟩:=qep (fun t=>⟨t,j,f⟩) (fun t=>⟨.inl ⟨rfl,rfl,.inl rfl⟩,.inl ⟨rfl,rfl,.inr (by simp only;omega)⟩⟩) c1 m fun t h g=>l _ ⟨⟨h,g⟩,c2,c3⟩;have p : CC P ⟨a,j,f⟩ ⟨a,k,f⟩:=qep (fun t=>⟨a,t,f⟩) (fun t=>⟨.inr (.inl ⟨rfl,rfl,.inl rfl⟩),.inr (.inl ⟨rfl,rfl,.inr (by simp only;omega)⟩)⟩) c2 n fun t h g=>l _ ⟨m,⟨h,g⟩,c3⟩;have u : CC P ⟨a,k,f⟩ ⟨a,k,r⟩:=qep (fun t=>⟨a,k,t⟩) (fun t=>⟨.inr (.inr ⟨rfl,rfl,.inl rfl⟩),.inr (.inr ⟨rfl,rfl,.inr (by simp only;omega)⟩)⟩) c3 s fun t h g=>l _ ⟨m,n,⟨h,g⟩⟩;exact q.trans (p.trans u)
theorem qge {a b : Int} (c : 0 < a) (hb : 0 < b) : 0 < a * b:=Int.mul_pos c hb
theorem qf1 (a b : qe) : Kj a b > 0↔
    (min a.Hi.X b.Hi.X - max a.Lo.X b.Lo.X = 0∧min a.Hi.Y b.Hi.Y - max a.Lo.Y b.Lo.Y > 0∧min a.Hi.Z b.Hi.Z - max a.Lo.Z b.Lo.Z > 0)∨
    (min a.Hi.X b.Hi.X - max a.Lo.X b.Lo.X > 0∧min a.Hi.Y b.Hi.Y - max a.Lo.Y b.Lo.Y = 0∧min a.Hi.Z b.Hi.Z - max a.Lo.Z b.Lo.Z > 0)∨
    (min a.Hi.X b.Hi.X - max a.Lo.X b.Lo.X > 0∧min a.Hi.Y b.Hi.Y - max a.Lo.Y b.Lo.Y > 0∧min a.Hi.Z b.Hi.Z - max a.Lo.Z b.Lo.Z = 0):=by
  unfold Kj;simp only;generalize min a.Hi.X b.Hi.X - max a.Lo.X b.Lo.X = x;generalize min a.Hi.Y b.Hi.Y - max a.Lo.Y b.Lo.Y = y;generalize min a.Hi.Z b.Hi.Z - max a.Lo.Z b.Lo.Z = z;split
  · rename_i h;exact ⟨fun _=>.inl h,fun _=>qge h.2.1 h.2.2⟩
  · split
    · rename_i h;exact ⟨fun _=>.inr (.inl h),fun _=>qge h.1 h.2.2⟩
    · split
      · rename_i h;exact ⟨fun _=>.inr (.inr h),fun _=>qge h.1 h.2.1⟩
      · rename_i f d c;exact ⟨fun h=>absurd h Q1,fun h=>(h.elim (fun h=>absurd h f) fun h=>h.elim (fun h=>absurd h d) fun h=>absurd h c)⟩
end Go.Sh
namespace Go.Sh
open Go Go.Am
def disB (l : List qe) : Prop:=∀ i k (hi : i < l.length) (hk : k < l.length),i≠k→∀ c,¬ (inC l[i] c∧inC l[k] c)
theorem qjk {l : List qe} (h : CanB l) : disB l:=by
  have hp:=qj6 h.cnt;have key : ∀ i k (hi : i < l.length) (a : k < l.length),i < k→∀ c,¬ (inC l[i] c∧inC l[k] c):=fun i k hi a b c=>List.pairwise_iff_getElem.1 hp i k hi a b c.X c.Y c.Z;intro i k hi a d c f;rcases Nat.lt_or_gt_of_ne d with h | h
  · exact key i k hi a h c f
  · exact key k i a hi h c ⟨f.2,f.1⟩
theorem qfx {b : qe} (h : ltB b) : inC b b.Lo:=⟨⟨Int.le_refl _,h.1⟩,⟨Int.le_refl _,h.2.1⟩,⟨Int.le_refl _,h.2.2⟩⟩
theorem qrv {a b : qe} (l : ltB a) (hb : ltB b) (h : Kj a b > 0) : ∃ c d,inC a c∧inC b d∧Uf c d:=by
  obtain ⟨m,n,q⟩:=l;obtain ⟨b1,o,p⟩:=hb;rcases (qf1 a b).1 h with ⟨k,j,f⟩ | ⟨k,j,f⟩ | ⟨k,j,f⟩
  · by_cases g : a.Hi.X≤b.Lo.X
    · exact ⟨⟨a.Hi.X - 1,max a.Lo.Y b.Lo.Y,max a.Lo.Z b.Lo.Z⟩,⟨a.Hi.X,max a.Lo.Y b.Lo.Y,max a.Lo.Z b.Lo.Z⟩,by unfold inC inB;simp only;omega,by unfold inC inB;simp only;omega,.inl ⟨rfl,rfl,.inl (by simp only;omega)⟩⟩
    · exact ⟨⟨a.Lo.X,max a.Lo.Y b.Lo.Y,max a.Lo.Z b.Lo.Z⟩,⟨a.Lo.X - 1,max a.Lo.Y b.Lo.Y,max a.Lo.Z b.Lo.Z⟩,by unfold inC inB;simp only;omega,by unfold inC inB;simp only;omega,.inl ⟨rfl,rfl,.inr rfl⟩⟩
  · by_cases g : a.Hi.Y≤b.Lo.Y
    · exact ⟨⟨max a.Lo.X b.Lo.X,a.Hi.Y - 1,max a.Lo.Z b.Lo.Z⟩,⟨max a.Lo.X b.Lo.X,a.Hi.Y,max a.Lo.Z b.Lo.Z⟩,by unfold inC inB;simp only;omega,by unfold inC inB;simp only;omega,.inr (.inl ⟨rfl,rfl,.inl (by simp only;omega)⟩)⟩
    · exact ⟨⟨max a.Lo.X b.Lo.X,a.Lo.Y,max a.Lo.Z b.Lo.Z⟩,⟨max a.Lo.X b.Lo.X,a.Lo.Y - 1,max a.Lo.Z b.Lo.Z⟩,by unfold inC inB;simp only;omega,by unfold inC inB;simp only;omega,.inr (.inl ⟨rfl,rfl,.inr rfl⟩)⟩
  · by_cases g : a.Hi.Z≤b.Lo.Z
    · exact ⟨⟨max a.Lo.X b.Lo.X,max a.Lo.Y b.Lo.Y,a.Hi.Z - 1⟩,⟨max a.Lo.X b.Lo.X,max a.Lo.Y b.Lo.Y,a.Hi.Z⟩,by unfold inC inB;simp only;omega,by unfold inC inB;simp only;omega,.inr (.inr ⟨rfl,rfl,.inl (by simp only;omega)⟩)⟩
    · exact ⟨⟨max a.Lo.X b.Lo.X,max a.Lo.Y b.Lo.Y,a.Lo.Z⟩,⟨max a.Lo.X b.Lo.X,max a.Lo.Y b.Lo.Y,a.Lo.Z - 1⟩,by unfold inC inB;simp only;omega,by unfold inC inB;simp only;omega,.inr (.inr ⟨rfl,rfl,.inr rfl⟩)⟩
theorem qot {a b : qe} (hd : ∀ c,¬ (inC a c∧inC b c)) {c d : Q6} (r : inC a c) (n : inC b d) (h : Uf c d) : Kj a b > 0:=by
  rw [qf1];obtain ⟨t,u,x⟩:=c;obtain ⟨w,y,v⟩:=d;obtain ⟨c1,c2,c3⟩:=r;obtain ⟨s,p,q⟩:=n;simp only at c1 c2 c3 s p q
  have o : ¬ (max a.Lo.X b.Lo.X < min a.Hi.X b.Hi.X∧max a.Lo.Y b.Lo.Y < min a.Hi.Y b.Hi.Y∧max a.Lo.Z b.Lo.Z < min a.Hi.Z b.Hi.Z):=fun ⟨z,e2,e3⟩=>
    hd ⟨max a.Lo.X b.Lo.X,max a.Lo.Y b.Lo.Y,max a.Lo.Z b.Lo.Z⟩ ⟨⟨⟨by simp only;omega,by simp only;omega⟩,⟨by simp only;omega,by simp only;omega⟩,⟨by simp only;omega,by simp only;omega⟩⟩,⟨by simp only;omega,by simp only;omega⟩,⟨by simp only;omega,by simp only;omega⟩,⟨by simp only;omega,by simp only;omega⟩⟩
  rcases h with ⟨j,g,f⟩ | ⟨j,g,f⟩ | ⟨j,g,f⟩
  · simp only at j g f;have l : max a.Lo.Y b.Lo.Y < min a.Hi.Y b.Hi.Y:=by omega
    have k : max a.Lo.Z b.Lo.Z < min a.Hi.Z b.Hi.Z:=by omega
    have m : ¬ max a.Lo.X b.Lo.X < min a.Hi.X b.Hi.X:=fun h=>o ⟨h,l,k⟩;exact .inl ⟨q0,q0,q0⟩
  · simp only at j g f;have m : max a.Lo.X b.Lo.X < min a.Hi.X b.Hi.X:=by omega
    have k : max a.Lo.Z b.Lo.Z < min a.Hi.Z b.Hi.Z:=by omega
    have l : ¬ max a.Lo.Y b.Lo.Y < min a.Hi.Y b.Hi.Y:=fun h=>o ⟨m,h,k⟩;exact .inr (.inl ⟨q0,q0,q0⟩)
  · simp only at j g f;have m : max a.Lo.X b.Lo.X < min a.Hi.X b.Hi.X:=by omega
    have l : max a.Lo.Y b.Lo.Y < min a.Hi.Y b.Hi.Y:=by omega
    have k : ¬ max a.Lo.Z b.Lo.Z < min a.Hi.Z b.Hi.Z:=fun h=>o ⟨m,l,h⟩;exact .inr (.inr ⟨q0,q0,q0⟩)
theorem qc6 {l : List qe} {c : Q6} : hasB l c.X c.Y c.Z↔∃ i,∃ h : i < l.length,inC l[i] c:=by
  constructor
  · rintro ⟨b,hb,h⟩;obtain ⟨i,hi,rfl⟩:=List.getElem_of_mem hb;exact ⟨i,hi,h⟩
  · rintro ⟨i,hi,h⟩;exact ⟨_,Ki hi,h⟩
def pts (l : List qe) (c : Q6) : Prop:=hasB l c.X c.Y c.Z
theorem qrg {l : List qe} (n : ∀ b∈l,ltB b) {P : Q6→Prop} {i j : Nat} (h : Cn (adjB l) i j) (hi : i < l.length)
    (p : ∀ k (g : k < l.length),Cn (adjB l) i k→∀ c,inC l[k] c→P c) : ∀ (f : j < l.length) c d,inC l[i] c→inC l[j] d→CC P c d:=by
  induction h with
  | refl=>exact fun f c d m hd=>qio (p i hi (.refl _)) m hd
  | @step j k h1 h2 ih=>
    intro g c e m r;have f : j < l.length:=h1.lt (qi2 l) hi;obtain ⟨u,v,q,o,hs⟩:=qrv (n _ (Ki f)) (n _ (Ki g)) ((q8q f g).1 h2);have a:=p k g (.step h1 h2);exact ((ih f c u m q).step hs (a v o)).trans (qio a o r)
theorem qqm {l : List qe} (hd : disB l) {c d : Q6} (h : CC (pts l) c d) {i : Nat} (hi : i < l.length) (o : inC l[i] c) : ∀ j (a : j < l.length),inC l[j] d→Cn (adjB l) i j:=by
  induction h with
  | refl=>
    intro j a f;by_cases e : i = j
    · subst e;exact .refl _
    · exact absurd ⟨o,f⟩ (hd i j hi a e _)
  | @step d e h1 h2 h3 ih=>
    intro k n p
    have g : pts l d:=by
      cases h1 with
      | refl=>exact qc6.2 ⟨i,hi,o⟩
      | step _ _ h=>exact h
    obtain ⟨j,a,b⟩:=qc6.1 g;have:=ih j a b;by_cases m : j = k
    · subst m;exact this
    · exact .step this ((q8q a n).2 (qot (hd j k a n m) b p h2))
theorem qco {s : List qe} {i : Nat} {c : Q6} : pts (comp s i) c↔∃ k,∃ h : k < s.length,Cn (adjB s) i k∧inC s[k] c:=by
  unfold pts comp;constructor
  · rintro ⟨b,hb,h⟩;obtain ⟨k,a,d,rfl⟩:=q6g.1 hb;exact ⟨k,a,d,h⟩
  · rintro ⟨k,a,d,h⟩;exact ⟨_,q6g.2 ⟨k,a,d,rfl⟩,h⟩
theorem qrn {s m : List qe} (hs : CanB s) {i : Nat} (hi : i < s.length) (t : CanB m) (f : ∀ c,pts m c↔pts (comp s i) c) {j k : Nat} (o : j < m.length) (p : k < m.length) : Cn (adjB m) j k:=by
  have q : ∀ b∈s,ltB b:=hs.lt;have d : ∀ b∈m,ltB b:=t.lt;have v : inC m[j] m[j].Lo:=qfx (d _ (Ki o));have r : inC m[k] m[k].Lo:=qfx (d _ (Ki p));obtain ⟨a,w,u,y⟩:=qco.1 ((f _).1 (qc6.2 ⟨j,o,v⟩));obtain ⟨b,hb,b1,z⟩:=qco.1 ((f _).1 (qc6.2 ⟨k,p,r⟩));have g : Cn (adjB s) a b:=(u.symm (qe8 s)).trans b1;have l : CC (pts m) m[j].Lo m[k].Lo:=qrg q g w (fun n x hc c h=>(f c).2 (qco.2 ⟨n,x,u.trans hc,h⟩)) hb _ _ y z;exact qqm (qjk t) l o v k p r
end Go.Sh
namespace Go.Sh
open Go Go.Am
theorem qrh {N : Nat} {P Q P' Q' : Int→Int→Int→Prop} (hd : ∀ x y z,P x y z→¬ Q x y z) (f : ∀ x y z,P x y z→¬ Q' x y z) (d : ∀ x y z,Q x y z→¬ P' x y z) :
    cnt3 N (fun x y z=>(P x y z∨Q x y z)∧¬ (P' x y z∨Q' x y z)) = cnt3 N (fun x y z=>P x y z∧¬ P' x y z) + cnt3 N (fun x y z=>Q x y z∧¬ Q' x y z):=by
  rw [← qrj]
  have c : cnt3 N (fun x y z=>(P x y z∧¬ P' x y z)∧(Q x y z∧¬ Q' x y z)) = 0:=by
    have : (fun x y z=>(P x y z∧¬ P' x y z)∧(Q x y z∧¬ Q' x y z)) = fun _ _ _=>False:=by
      funext x y z;exact propext ⟨fun h=>hd x y z h.1.1 h.2.1,fun h=>h.elim⟩
    rw [this];unfold cnt3;simp only [Ji (p:=False) id,qdv]
  rw [c,Int.add_zero];exact qri fun x y z _ _ _=>⟨fun ⟨h,g⟩=>h.elim (fun h=>.inl ⟨h,fun q=>g (.inl q)⟩) fun h=>.inr ⟨h,fun q=>g (.inr q)⟩,fun h=>h.elim (fun ⟨a,b⟩=>⟨.inl a,fun q=>q.elim b (f x y z a)⟩) fun ⟨a,b⟩=>⟨.inr a,fun q=>q.elim (d x y z a) b⟩⟩
theorem q139 {N : Nat} {P Q : Int→Int→Int→Prop} (hd : ∀ x y z,P x y z→¬ Q x y z) (o : ∀ c d : Q6,Uf c d→P c.X c.Y c.Z→¬ Q d.X d.Y d.Z) (hb : ∀ c d : Q6,Uf c d→Q c.X c.Y c.Z→¬ P d.X d.Y d.Z) :
    q2m N (fun x y z=>P x y z∨Q x y z) = q2m N P + q2m N Q:=by
  have k : ∀ (f : Int→Int→Int→Q6),(∀ x y z,Uf ⟨x,y,z⟩ (f x y z))→cnt3 N (fun x y z=>(P x y z∨Q x y z)∧¬ (P (f x y z).X (f x y z).Y (f x y z).Z∨Q (f x y z).X (f x y z).Y (f x y z).Z)) = cnt3 N (fun x y z=>P x y z∧¬ P (f x y z).X (f x y z).Y (f x y z).Z) + cnt3 N (fun x y z=>Q x y z∧¬ Q (f x y z).X (f x y z).Y (f x y z).Z):=fun f a=>
    qrh (P':=fun x y z=>P (f x y z).X (f x y z).Y (f x y z).Z) (Q':=fun x y z=>Q (f x y z).X (f x y z).Y (f x y z).Z) hd (fun x y z h=>o ⟨x,y,z⟩ _ (a x y z) h) (fun x y z h=>hb ⟨x,y,z⟩ _ (a x y z) h)
  have l:=k (fun x y z=>⟨x + 1,y,z⟩) fun x y z=>.inl ⟨rfl,rfl,.inl rfl⟩;have b:=k (fun x y z=>⟨x - 1,y,z⟩) fun x y z=>.inl ⟨rfl,rfl,.inr rfl⟩;have n:=k (fun x y z=>⟨x,y + 1,z⟩) fun x y z=>.inr (.inl ⟨rfl,rfl,.inl rfl⟩);have g:=k (fun x y z=>⟨x,y - 1,z⟩) fun x y z=>.inr (.inl ⟨rfl,rfl,.inr rfl⟩);have m:=k (fun x y z=>⟨x,y,z + 1⟩) fun x y z=>.inr (.inr ⟨rfl,rfl,.inl rfl⟩);have j:=k (fun x y z=>⟨x,y,z - 1⟩) fun x y z=>.inr (.inr ⟨rfl,rfl,.inr rfl⟩);simp only at l b n g m j;unfold q2m;simp only;rw [l,b,n,g,m,j];omega
def qey (s : List qe) (A : Nat→Prop) : Prop:=∀ i k,A i→adjB s i k→A k
noncomputable def canon (s : List qe) (A : Nat→Prop) : List qe:=mrgB 2 (pick s A) []
theorem q8u {s : List qe} (hs : Qu s = 0) {A : Nat→Prop} {x y z : Int} : hasB (canon s A) x y z↔∃ k,∃ h : k < s.length,A k∧inB s[k] x y z:=by
  have d:=(Kp.1 hs).1;have:=(qgp s A).length_le;unfold canon;rw [qc4 q0];constructor
  · rintro ⟨b,hb,h⟩;obtain ⟨k,a,c,rfl⟩:=q6g.1 hb;exact ⟨k,a,c,h⟩
  · rintro ⟨k,a,c,h⟩;exact ⟨_,q6g.2 ⟨k,a,c,rfl⟩,h⟩
theorem q5n {s : List qe} (hs : Qu s = 0) (A : Nat→Prop) : Qu (canon s A) = 0∧(canon s A).length≤s.length:=⟨(qcm hs A).1,(qcm hs A).2.1⟩
theorem qrf {s : List qe} {A : Nat→Prop} (a : qey s A) {i k : Nat} (h : Cn (adjB s) i k) (b : A k) : A i:=(h.symm (qe8 s)).closed a b
theorem qrp {s : List qe} (hs : Qu s = 0) {A : Nat→Prop} (hc : qey s A) {r : Nat} (hr : r < s.length) (hn : ¬ A r) :
    jB 1 (canon s A) (mrgB 2 (comp s r) []) = ([],0)∧jB 2 (canon s A) (mrgB 2 (comp s r) []) = (canon s (fun k=>A k∨Cn (adjB s) r k),0)∧Yw (canon s (fun k=>A k∨Cn (adjB s) r k)) = Yw (canon s A) + Yw (mrgB 2 (comp s r) []):=by
  obtain ⟨hl,hv,p⟩:=Kp.1 hs;have e : mrgB 2 (comp s r) [] = canon s (Cn (adjB s) r):=rfl;rw [e];obtain ⟨c1,l1⟩:=q5n hs A;obtain ⟨c2,l2⟩:=q5n hs (Cn (adjB s) r);obtain ⟨c3,l3⟩:=q5n hs (fun k=>A k∨Cn (adjB s) r k);have t:=@q8u s hs A;have p2:=@q8u s hs (Cn (adjB s) r);have p3:=@q8u s hs (fun k=>A k∨Cn (adjB s) r k);have hd:=qjk p;have l : ∀ k,Cn (adjB s) r k→¬ A k:=fun k h g=>hn (qrf hc h g)
  have m : ∀ x y z,hasB (canon s A) x y z→¬ hasB (canon s (Cn (adjB s) r)) x y z:=fun x y z h g=>by
    obtain ⟨i,hi,q,v⟩:=t.1 h;obtain ⟨k,a,b1,w⟩:=p2.1 g;exact hd i k hi a (fun e=>l k b1 (e ▸ q)) ⟨x,y,z⟩ ⟨v,w⟩
  have n : ∀ c d : Q6,Uf c d→hasB (canon s A) c.X c.Y c.Z→¬ hasB (canon s (Cn (adjB s) r)) d.X d.Y d.Z:=fun c d o h g=>by
    obtain ⟨i,hi,q,v⟩:=t.1 h;obtain ⟨k,a,b1,w⟩:=p2.1 g;have u : i≠k:=fun e=>l k b1 (e ▸ q);exact l k b1 (hc i k q ((q8q hi a).2 (qot (hd i k hi a u) (c:=c) (d:=d) v w o)))
  have b : ∀ c d : Q6,Uf c d→Uf d c:=fun c d h=>by unfold Uf at h ⊢;omega
  refine ⟨?_,?_,?_⟩
  · refine ql1 c1 c2 CanB.nil qd fun x y z=>?_;rw [qku];exact ⟨fun h=>absurd h.2 (m x y z h.1),fun h=>absurd h (q1c x y z)⟩
  · refine ql1 c1 c2 (Kp.1 c3).2.2 q0 fun x y z=>?_;rw [q60,t,p2,p3];constructor
    · rintro (⟨k,a,f,j⟩ | ⟨k,a,f,j⟩)
      · exact ⟨k,a,.inl f,j⟩
      · exact ⟨k,a,.inr f,j⟩
    · rintro ⟨k,a,f | f,j⟩
      · exact .inl ⟨k,a,f,j⟩
      · exact .inr ⟨k,a,f,j⟩
  · have e1:=qdw (Kp.1 c1).2.2 (Kp.1 c1).2.1;have e2:=qdw (Kp.1 c2).2.2 (Kp.1 c2).2.1;have e3:=qdw (Kp.1 c3).2.2 (Kp.1 c3).2.1;rw [e1,e2,e3,← q139 m n fun c d o hq hp=>n d c (b c d o) hp hq];congr 1;funext x y z;refine propext ?_;rw [t,p2,p3];constructor
    · rintro ⟨k,a,f | f,j⟩
      · exact .inl ⟨k,a,f,j⟩
      · exact .inr ⟨k,a,f,j⟩
    · rintro (⟨k,a,f,j⟩ | ⟨k,a,f,j⟩)
      · exact ⟨k,a,.inl f,j⟩
      · exact ⟨k,a,.inr f,j⟩
open Classical in
theorem qro {s : List qe} (hs : Qu s = 0) {r : Nat} (l : r < s.length) : (Zd (mrgB 2 (comp s r) [])).length = 1:=by
  obtain ⟨y,z,d⟩:=Kp.1 hs;have e : mrgB 2 (comp s r) [] = canon s (Cn (adjB s) r):=rfl;obtain ⟨c2,l2⟩:=q5n hs (Cn (adjB s) r);have p2:=@q8u s hs (Cn (adjB s) r);rw [e];generalize x : canon s (Cn (adjB s) r) = m at *;have o:=(Kp.1 c2).2.2;have v : ∀ c,pts m c↔pts (comp s r) c:=fun c=>by rw [qco];exact p2
  have f:=fun {j k : Nat} (p : j < m.length) (w : k < m.length)=>qrn d l o v p w
  have g : 0 < m.length:=by
    have:=qfx (d.lt _ (Ki l));obtain ⟨b,hb,_⟩:=p2.2 ⟨r,l,.refl _,this⟩;exact List.length_pos_of_mem hb
  unfold Zd;rw [List.length_map]
  have q : (List.range m.length).filter (fun i=>decide (repI m i)) = [0]:=by
    obtain ⟨n,u⟩ : ∃ n,m.length = n + 1:=⟨m.length - 1,q0⟩
    rw [u,List.range_succ_eq_map,List.filter_cons,qr (Qf (show repI m 0 from fun j p=>absurd p q0))];congr 1;rw [List.filter_eq_nil_iff];intro a t;obtain ⟨b,hb,rfl⟩:=List.mem_map.1 t;have hb:=List.mem_range.1 hb;have : ¬ repI m (Nat.succ b):=fun h=>h 0 q0 (f g q0);simpa using this
  rw [q];rfl
theorem qxp (s : List qe) : ∀ k : Nat,∃ r,r≤k∧repI s r∧Cn (adjB s) r k:=by
  intro k
  induction k using Nat.strongRecOn with
  | ind k ih=>
    by_cases h : repI s k
    · exact ⟨k,Nat.le_refl _,h,.refl _⟩
    · obtain ⟨j,f⟩:=Classical.not_forall.1 h;obtain ⟨a,d⟩:=Classical.not_imp.1 f;obtain ⟨r,g,c,b⟩:=ih j a;exact ⟨r,q0,c,b.trans (Classical.not_not.1 d)⟩
end Go.Sh
namespace Go.Sh
open Go Go.Am
section
variable {α β : Type} [DecidableEq α]
def NdK (es : List (α × β)) : Prop:=(es.map Prod.fst).Nodup
theorem qls {k : α} {v : β} : ∀ {es : List (α × β)} {a : α},a∈(Zk k v es).map Prod.fst→a = k∨a∈es.map Prod.fst
  | [],a,h=>by simp [Zk] at h;exact .inl h
  | (b,w)::r,a,h=>by
    unfold Zk at h
    by_cases c : k = b
    · rw [qr c] at h
      simp only [List.map_cons,List.mem_cons] at h ⊢
      rcases h with h | h
      · exact .inl h
      · exact .inr (.inr h)
    · rw [qq c] at h
      simp only [List.map_cons,List.mem_cons] at h ⊢
      rcases h with h | h
      · exact .inr (.inl h)
      · rcases qls h with g | g
        · exact .inl g
        · exact .inr (.inr g)
theorem NdK.put {k : α} {v : β} : ∀ {es : List (α × β)},NdK es→NdK (Zk k v es)
  | [],_=>by simp [NdK,Zk]
  | (b,w)::r,h=>by
    unfold NdK at h ⊢
    unfold Zk
    simp only [List.map_cons,List.nodup_cons] at h
    by_cases a : k = b
    · subst a
      rw [qr rfl]
      simp only [List.map_cons,List.nodup_cons]
      exact h
    · rw [qq a]
      simp only [List.map_cons,List.nodup_cons]
      refine ⟨fun c=>?_,NdK.put (es:=r) h.2⟩
      rcases qls c with g | g
      · exact a g.symm
      · exact h.1 g
theorem qlk {k : α} : ∀ {es : List (α × β)} {a : α},a∈(Yz k es).map Prod.fst→a∈es.map Prod.fst
  | [],a,h=>by simp [Yz] at h
  | (b,w)::r,a,h=>by
    unfold Yz at h
    by_cases c : k = b
    · rw [qr c] at h
      simp only [List.map_cons,List.mem_cons];exact .inr h
    · rw [qq c] at h
      simp only [List.map_cons,List.mem_cons] at h ⊢
      rcases h with h | h
      · exact .inl h
      · exact .inr (qlk h)
theorem NdK.del {k : α} : ∀ {es : List (α × β)},NdK es→NdK (Yz k es)
  | [],_=>by simp [NdK,Yz]
  | (b,w)::r,h=>by
    unfold NdK at h ⊢
    unfold Yz
    simp only [List.map_cons,List.nodup_cons] at h
    by_cases a : k = b
    · rw [qr a];exact h.2
    · rw [qq a]
      simp only [List.map_cons,List.nodup_cons]
      exact ⟨fun c=>h.1 (qlk c),NdK.del (es:=r) h.2⟩
theorem qlq {z : β} {k : α} : ∀ {es : List (α × β)},k ∉ es.map Prod.fst→Yd z k es = z
  | [],_=>rfl
  | (b,w)::r,h=>by
    simp only [List.map_cons,List.mem_cons,not_or] at h
    unfold Yd
    rw [qq h.1]
    exact qlq h.2
theorem qg8 {z : β} {k k' : α} : ∀ {es : List (α × β)},NdK es→Yd z k' (Yz k es) = if k' = k then z else Yd z k' es
  | [],_=>by simp [Yz,Yd]
  | (b,w)::r,h=>by
    unfold NdK at h
    simp only [List.map_cons,List.nodup_cons] at h
    unfold Yz
    by_cases c : k = b
    · subst c
      rw [qr rfl]
      by_cases a : k' = k
      · subst a
        rw [qr rfl];exact qlq h.1
      · rw [qq a]
        simp [Yd,a]
    · rw [qq c]
      have d:=qg8 (z:=z) (k:=k) (k':=k') (es:=r) h.2
      unfold Yd
      by_cases a : k' = b
      · subst a
        rw [qr rfl,qq (Ne.symm c),qr rfl]
      · rw [qq a,qq a];exact d
theorem qlr {z v : β} {k k' : α} : ∀ {es : List (α × β)},Yd z k' (Zk k v es) = if k' = k then v else Yd z k' es
  | []=>by simp [Yd,Zk]
  | (a,w)::r=>by
    unfold Zk
    by_cases h : k = a
    · subst h
      rw [qr rfl]
      by_cases b : k' = k <;> simp [Yd,b]
    · rw [qq h]
      have c:=qlr (z:=z) (v:=v) (k:=k) (k':=k') (es:=r)
      by_cases b : k' = a
      · subst b
        simp [Yd,Ne.symm h]
      · simp [Yd,b,c]
end
end Go.Sh
namespace Go.Sh
open Go Go.Am
theorem qlz : ∀ (n : Nat) (q : List Nat),q.Nodup→(∀ j∈q,j < n)→q.length≤n
  | 0,q,_,h=>by
    cases q with
    | nil=>simp
    | cons a r=>exact absurd (h a qd) q0
  | n + 1,q,hn,h=>by
    have g:=qlz n (q.filter fun j=>decide (j < n)) (hn.filter _) fun j b=>by simpa using (List.mem_filter.1 b).2
    have key : ∀ q : List Nat,q.Nodup→(∀ j∈q,j < n + 1)→q.length≤(q.filter fun j=>decide (j < n)).length + (if n∈q then 1 else 0):=by
      intro q
      induction q with
      | nil=>intro _ _;simp
      | cons a r ih=>
        intro hd c;obtain ⟨f,d⟩:=List.nodup_cons.1 hd;have:=ih d fun j b=>c j (by simp [b]);have k:=c a qd;by_cases e : a = n
        · subst e;rw [qq f] at this;rw [qr qd,List.filter_cons_of_neg qd];simp only [List.length_cons];omega
        · rw [List.filter_cons_of_pos (by simpa using (by omega : a < n))];simp only [List.length_cons];split at this
          · rw [qr (by simp;exact .inr (by assumption))];omega
          · omega
    have:=key q hn h
    split at this <;> omega
noncomputable def bxAt (s : List qe) (j : Nat) : qe:=s[j]?.getD q2q
theorem q5l {s : List qe} {j : Nat} (h : j < s.length) : bxAt s j = s[j]:=by unfold bxAt;rw [List.getElem?_eq_getElem h];rfl
open Classical in
structure PI (s : List qe) (i : Nat) (q : List Nat) (es : List (Int × Bool)) : Prop where
  nd : q.Nodup
  lt : ∀ j∈q,j < s.length
  cn : ∀ j∈q,Cn (adjB s) i j
  get : ∀ j,j < s.length→Yd false (j : Int) es = decide ((∀ k,k < i→¬ Cn (adjB s) k j)∧j ∉ q)
  ndk : NdK es
section
variable {s : List qe} {i : Nat}
theorem PI.len {q : List Nat} {es : List (Int × Bool)} (h : PI s i q es) : q.length≤s.length:=qlz _ _ h.nd h.lt
open Classical in
theorem qw8 (hs : Qu s = 0) (hr : repI s i) {q : List Nat} {es0 : List (Int × Bool)} {p0 : List qe} {k : Nat} (hk : k < q.length) {es : List (Int × Bool)} (h : PI s i q es) :
    ∃ b,loop (q2f s ((k : Int),es0,p0)) (0,es,q.map (bxAt s)) = some b∧∃ t o,b = (o,(q ++ t).map (bxAt s))∧PI s i (q ++ t) o∧∀ m,m < s.length→adjB s q[k] m→m∈q ++ t:=by
  obtain ⟨hl,hv,ak⟩:=Kp.1 hs;rw [show q.map (bxAt s) = (q ++ ([] : List Nat)).map (bxAt s) by rw [List.append_nil]];refine Zz (f:=q2f s ((k : Int),es0,p0)) (fun n (c : List Nat × List (Int × Bool))=>((n : Int),c.2,(q ++ c.1).map (bxAt s))) s.length (fun n c=>PI s i (q ++ c.1) c.2∧∀ m,m < n→adjB s q[k] m→m∈q ++ c.1) (fun b=>∃ t o,b = (o,(q ++ t).map (bxAt s))∧PI s i (q ++ t) o∧∀ m,m < s.length→adjB s q[k] m→m∈q ++ t) (fun n c g z=>?_) (fun c z=>?_) (Nat.zero_le _) (c0:=([],es)) ⟨by simpa using h,fun m hm=>absurd hm (Nat.not_lt_zero m)⟩
  · obtain ⟨l,h2⟩:=z;have x:=l.len;have ah : k < (q ++ c.1).length:=by simp;omega
    have r : q[k] < s.length:=h.lt _ (Ki hk)
    have y : idx ((q ++ c.1).map (bxAt s)) (k : Int) = some s[q[k]]:=by
      rw [Qx (by simpa using ah)];simp only [List.getElem_map,Option.some.injEq];rw [List.getElem_append_left hk,q5l r]
    have v : q59 s[q[k]] s[n] = some (Kj s[q[k]] s[n]):=qo9 (hv _ (Ki r)) (hv _ (Ki g));have w:=l.get n g;have hw:=w64s g (show s.length≤1000000 by omega);by_cases g1 : (∀ k,k < i→¬ Cn (adjB s) k n)∧n ∉ q ++ c.1
    · rw [Qf g1] at w;by_cases g2 : Kj s[q[k]] s[n] > 0
      · refine .inl ⟨(c.1 ++ [n],Yz (n : Int) c.2),?_,?_,?_⟩
        · simp only [q2f,dlt g,Q2,w,y,Qx g,qk,v,Qf g2,hw];rw [Y4 (by simp at x ⊢;omega)];simp only [qk];rw [← List.append_assoc,List.map_append];simp [q5l g]
        · refine ⟨?_,fun j d=>?_,fun j d=>?_,fun j d=>?_,l.ndk.del⟩
          · rw [← List.append_assoc];rw [List.nodup_append];exact ⟨l.nd,qd,fun a p b hb=>by simp at hb;subst hb;exact fun e=>g1.2 (e ▸ p)⟩
          · rw [← List.append_assoc] at d;rcases List.mem_append.1 d with d | d
            · exact l.lt j d
            · simp at d;subst d;exact g
          · rw [← List.append_assoc] at d;rcases List.mem_append.1 d with d | d
            · exact l.cn j d
            · simp at d;subst d;exact .step (l.cn _ qd) ((q8q r g).2 g2)
          · rw [qg8 l.ndk,l.get j d,← List.append_assoc];by_cases e : j = n
            · subst e;rw [qr rfl,eq_comm,decide_eq_false_iff_not];exact fun h=>h.2 qd
            · rw [qq q0,decide_eq_decide];simp [e]
        · intro m hm p;rw [← List.append_assoc];by_cases e : m = n
          · subst e;simp
          · exact List.mem_append_left _ (h2 m q0 p)
      · refine .inl ⟨c,?_,l,fun m hm p=>?_⟩
        · simp only [q2f,dlt g,Q2,w,y,Qx g,qk,v,Qj g2,hw,Q3]
        · by_cases e : m = n
          · subst e;exact absurd ((q8q r g).1 p) g2
          · exact h2 m q0 p
    · rw [Qj g1] at w;refine .inl ⟨c,?_,l,fun m hm p=>?_⟩
      · simp only [q2f,dlt g,Q2,w,qk,hw,Q3]
      · by_cases e : m = n
        · subst e;have af : Cn (adjB s) i m:=.step (h.cn _ (Ki hk)) p;refine Classical.not_not.1 fun u=>g1 ⟨fun k' ag ae=>hr k' ag (ae.trans (af.symm (qe8 s))),u⟩
        · exact h2 m q0 p
  · exact ⟨_,by simp only [q2f,dnl,Q3],c.1,c.2,rfl,z.1,z.2⟩
theorem qw7 (hs : Qu s = 0) (z : repI s i) : ∀ (m k : Nat) (q : List Nat) (es : List (Int × Bool)),s.length + 1 - k = m→k≤q.length→PI s i q es→(∀ a (u : a < q.length),a < k→∀ b,adjB s q[a] b→b∈q)→
    ∃ f d,loop (q3m s) ((k : Int),es,q.map (bxAt s)) = some (d,f.map (bxAt s))∧PI s i f d∧(∀ j∈q,j∈f)∧∀ a∈f,∀ b,adjB s a b→b∈f:=by
  intro m;have hl:=(Kp.1 hs).1
  induction m with
  | zero=>
    intro k q es hm hk h _;have:=h.len;omega
  | succ m ih=>
    intro k q es hm hk h w;have x:=h.len;by_cases l : k < q.length
    · obtain ⟨b,e1,t,d,rfl,p1,p2⟩:=qw8 (es0:=es) (p0:=q.map (bxAt s)) hs z l h;have v : decide ((k : Int) < ((q.map (bxAt s)).length : Int)) = true:=Qf (by simp;omega)
      have g : q3m s ((k : Int),es,q.map (bxAt s)) = some (.inl (((k + 1 : Nat) : Int),d,(q ++ t).map (bxAt s))):=by
        simp only [q3m,v,Q2,e1,qk,w64s l (show q.length≤1000000 by omega)]
      rw [Y9 g]
      obtain ⟨f,o,f1,f2,f3,y⟩:=ih (k + 1) (q ++ t) d q0 (by simp;omega) p1 (fun a u ae b c=>by
        by_cases e : a = k
        · subst e;rw [List.getElem_append_left l] at c;exact p2 b (qi2 s _ _ c) c
        · rw [List.getElem_append_left q0] at c
          exact List.mem_append_left _ (w a q0 q0 b c))
      exact ⟨f,o,f1,f2,fun j r=>f3 j (List.mem_append_left _ r),y⟩
    · have p : decide ((k : Int) < ((q.map (bxAt s)).length : Int)) = false:=Qj (by simp;omega);refine ⟨q,es,Kn (by simp only [q3m,p,Q3]),h,fun j r=>r,fun a u b c=>?_⟩;obtain ⟨n,hn,rfl⟩:=List.getElem_of_mem u;exact w n hn q0 b c
end
open Classical in
theorem qgn (s : List qe) : q53 s = some (q9l s):=by
  unfold q53 q9l;rw [q4z,qk];by_cases hs : Qu s = 0
  rotate_left
  · rw [qr hs,show (Qu s != 0) = true by simpa using hs];rfl
  rw [qq (not_not_intro hs),hs,show ((0 : Int) != 0) = false from rfl,Q3];obtain ⟨hl,hv,aj⟩:=Kp.1 hs
  obtain ⟨es,e1,e2,e3⟩:=Zz (f:=q54 s) (fun k (es : List (Int × Bool))=>((k : Int),es)) s.length (fun k es=>NdK es∧∀ j : Nat,Yd false (j : Int) es = decide (j < k)) (fun es=>NdK es∧∀ j : Nat,Yd false (j : Int) es = decide (j < s.length)) (fun k es d n=>by
    refine .inl ⟨Zk (k : Int) true es,by simp only [q54,dlt d,Q2,w64s d (show s.length≤1000000 by omega)],n.1.put,fun j=>?_⟩;rw [qlr,n.2 j];by_cases e : j = k
    · subst e;rw [qr rfl,Qf q0]
    · rw [qq q0,decide_eq_decide];omega) (fun es n=>⟨es,by simp only [q54,dnl,Q3],n⟩) (Nat.zero_le _) (c0:=[]) ⟨by simp [NdK],fun j=>by simp [Yd]⟩
  have e1 : loop (q54 s) (0,[]) = some es:=e1;rw [e1,qk]
  obtain ⟨out,o1,o2⟩:=Zz (f:=q3l s) (fun k (es : List (Int × Bool))=>((k : Int),es,((List.range k).filter fun i=>decide (repI s i)).map fun i=>mrgB 2 (comp s i) [])) s.length (fun k es=>NdK es∧∀ j : Nat,j < s.length→Yd false (j : Int) es = decide (∀ i,i < k→¬ Cn (adjB s) i j)) (fun out=>out = Zd s) (fun k es d n=>by
    obtain ⟨c1,c2⟩:=n;have hw:=w64s d (show s.length≤1000000 by omega);have w:=c2 k d;by_cases v : repI s k
    · have g : ∀ i,i < k→¬ Cn (adjB s) i k:=v;rw [Qf g] at w
      have hP : PI s k [k] (Yz (k : Int) es):=⟨qd,by simpa using d,by simpa using Cn.refl k,fun j c=>by
        rw [qg8 c1,c2 j c];by_cases e : j = k
        · subst e;rw [qr rfl,eq_comm,decide_eq_false_iff_not];exact fun h=>h.2 qd
        · rw [qq q0,decide_eq_decide];simp [e],c1.del⟩
      obtain ⟨q,u,f1,r,f3,f4⟩:=qw7 hs v (s.length + 1) 0 [k] _ rfl qd hP (fun a ha h=>absurd h q0)
      have f1 : loop (q3m s) (0,Yz (k : Int) es,[s[k]]) = some (u,q.map (bxAt s)):=by
        rw [← q5l d];exact f1
      have hq : ∀ j,j∈q↔Cn (adjB s) k j:=fun j=>⟨r.cn j,fun h=>h.closed (S:=fun j=>j∈q) (fun a b ha z=>f4 a ha b z) (f3 k qd)⟩
      have ai:=r.len
      have t : ∀ b,b∈q.map (bxAt s)↔b∈comp s k:=fun b=>by
        unfold comp;rw [q6g,List.mem_map];constructor
        · rintro ⟨j,c,rfl⟩;exact ⟨j,r.lt j c,(hq j).1 c,(q5l (r.lt j c)).symm⟩
        · rintro ⟨j,c,h1,rfl⟩;exact ⟨j,(hq j).2 h1,q5l c⟩
      have ao:=(qgp s (Cn (adjB s) k)).length_le;have o:=que (l:=q.map (bxAt s)) (m:=comp s k) (by simp;omega) (by show (pick s _).length≤_;omega) t;obtain ⟨_,k2,_⟩:=qcm hs (Cn (adjB s) k)
      have x : mkB (q.map (bxAt s)) = (mrgB 2 (comp s k) [],0):=by
        have aa : ∀ b∈q.map (bxAt s),vB b:=fun b hb=>by
          obtain ⟨j,c,rfl⟩:=List.mem_map.1 hb;rw [q5l (r.lt j c)];exact hv _ (Ki _)
        unfold mkB;have : (mrgB 2 (comp s k) []).length≤s.length:=k2;rw [qq (by simp;omega),qr aa,o,qq q0]
      refine .inl ⟨u,?_,r.ndk,fun j c=>?_⟩
      · have ag : (((List.range k).filter fun i=>decide (repI s i)).map fun i=>mrgB 2 (comp s i) []).length≤k:=by
          rw [List.length_map];exact Nat.le_trans (List.length_filter_le _ _) qd
        simp only [q3l,dlt d,Q2,Q3,w,Bool.not_true,Qx d,qk,f1,qdg,x,hw];rw [Y4 (by simp only [List.length_singleton];omega)];simp only [qk];rw [List.range_succ,List.filter_append,List.map_append];simp [v]
      · rw [r.get j c,decide_eq_decide,hq];constructor
        · rintro ⟨h1,h2⟩ i hi;by_cases e : i = k
          · subst e;exact h2
          · exact h1 i q0
        · intro h;exact ⟨fun i hi=>h i q0,h k q0⟩
    · have g : ¬ ∀ i,i < k→¬ Cn (adjB s) i k:=v;rw [Qj g] at w;refine .inl ⟨es,?_,c1,fun j c=>?_⟩
      · simp only [q3l,dlt d,Q2,w,Bool.not_false,qk,hw];rw [List.range_succ,List.filter_append,List.map_append];simp [v]
      · rw [c2 j c,decide_eq_decide];obtain ⟨i0,y⟩:=Classical.not_forall.1 g;obtain ⟨af,p⟩:=Classical.not_imp.1 y;have p:=Classical.not_not.1 p;constructor
        · intro h i hi;by_cases e : i = k
          · subst e;exact fun n=>h i0 af (p.trans n)
          · exact h i q0
        · exact fun h i hi=>h i q0) (fun es n=>⟨Zd s,by simp only [q3l,dnl,Q3];rfl,rfl⟩) (Nat.zero_le _) (c0:=es) ⟨e2,fun j c=>by rw [e3,Qf c];simp⟩
  have o1 : loop (q3l s) (0,es,[]) = some out:=o1;rw [o1,o2];rfl
end Go.Sh
namespace Go.Sh
open Go Go.Am
open Classical in
noncomputable def Ye (s : List qe) : List Nat:=(List.range s.length).filter fun i=>decide (repI s i)
theorem qgo (s : List qe) : Zd s = (Ye s).map fun i=>mrgB 2 (comp s i) []:=rfl
open Classical in
theorem qgx {s : List qe} {r : Nat} : r∈Ye s↔r < s.length∧repI s r:=by
  unfold Ye;rw [List.mem_filter,List.mem_range,decide_eq_true_eq]
open Classical in
theorem qxs (s : List qe) : (Ye s).Pairwise (· < ·):=List.Pairwise.filter _ List.pairwise_lt_range
open Classical in
theorem qxr (s : List qe) : (Ye s).length≤s.length:=Nat.le_trans (List.length_filter_le _ _) qd
def upA (s : List qe) (n : Nat) (k : Nat) : Prop:=∃ r∈(Ye s).take n,Cn (adjB s) r k
theorem q13l (s : List qe) (n : Nat) : qey s (upA s n):=fun i k ⟨r,h1,h2⟩ ha=>⟨r,h1,.step h2 ha⟩
theorem q13n {s : List qe} {n : Nat} (c : n < (Ye s).length) : upA s (n + 1) = fun k=>upA s n k∨Cn (adjB s) (Ye s)[n] k:=by
  funext k;unfold upA;rw [List.take_succ_eq_append_getElem c];refine propext ⟨?_,?_⟩
  · rintro ⟨r,a,b⟩;rcases List.mem_append.1 a with a | a
    · exact .inl ⟨r,a,b⟩
    · simp at a;subst a;exact .inr b
  · rintro (⟨r,a,b⟩ | b)
    · exact ⟨r,List.mem_append_left _ a,b⟩
    · exact ⟨_,List.mem_append_right _ qd,b⟩
theorem q13m {s : List qe} {n : Nat} (d : n < (Ye s).length) : ¬ upA s n (Ye s)[n]:=by
  rintro ⟨r,f,c⟩;obtain ⟨j,g,rfl⟩:=List.getElem_of_mem f;have a : j < n:=by rw [List.length_take] at g;omega
  have b:=List.pairwise_iff_getElem.1 (qxs s) j n q0 d a;rw [List.getElem_take] at c;exact (qgx.1 (Ki d)).2 _ b c
theorem qql (s : List qe) : canon s (upA s 0) = []:=by
  have : pick s (upA s 0) = []:=List.eq_nil_iff_forall_not_mem.2 fun b hb=>by
    obtain ⟨j,c,⟨r,a,_⟩,_⟩:=q6g.1 hb;simp at a
  unfold canon;rw [this];exact qlu qd CanB.nil
theorem qqj {s : List qe} (hs : Qu s = 0) : canon s (upA s (Ye s).length) = s:=by
  refine qbp (Kp.1 (q5n hs _).1).2.2 (Kp.1 hs).2.2 fun x y z=>?_;rw [q8u hs];constructor
  · rintro ⟨k,a,_,h⟩;exact ⟨_,Ki a,h⟩
  · rintro ⟨b,hb,h⟩;obtain ⟨k,a,rfl⟩:=List.getElem_of_mem hb;obtain ⟨r,f,d,c⟩:=qxp s k;exact ⟨k,a,⟨r,by rw [List.take_length];exact qgx.2 ⟨q0,d⟩,c⟩,h⟩
theorem q14l (s : List qe) : qcb s = some true:=by
  unfold qcb;simp only [qi5,qsl,qk];by_cases h : (s.length≤30∧([] : List qe).length≤30)∧Qu s = 0∧Qu [] = 0
  rotate_left
  · simp only [Qj h,Bool.not_false,Q2,qk]
  rw [Qf h];obtain ⟨⟨w,_⟩,hs,_⟩:=h;have p : q9l s = (Zd s,0):=qq (not_not_intro hs);have q : (Zd s).length = (Ye s).length:=by rw [qgo,List.length_map]
  have t:=qxr s;simp only [Bool.not_true,Q3,qk,qgn,p,bne_self_eq_false];rw [Qj (by omega : ¬ ((Zd s).length : Int) > (s.length : Int)),Q3]
  have key:=Zv (f:=q43 (Zd s,0)) (fun n=>(canon s (upA s n),Yw (canon s (upA s n)),(n : Int))) (Ye s).length (.inl (s,Yw s)) (fun n g=>by
    have o:=qgx.1 (Ki g);obtain ⟨r,l,m⟩:=qrp hs (q13l s n) o.1 (q13m g);have c : Qu (mrgB 2 (comp s (Ye s)[n]) []) = 0:=(qcm hs (Cn (adjB s) (Ye s)[n])).1
    have j : idx (Zd s) (n : Int) = some (mrgB 2 (comp s (Ye s)[n]) []):=by
      rw [Qx (by omega : n < (Zd s).length)];simp [qgo]
    have d:=qro hs o.1;have k : q9l (mrgB 2 (comp s (Ye s)[n]) []) = (Zd (mrgB 2 (comp s (Ye s)[n]) []),0):=qq (not_not_intro c);have b : q3r (mrgB 2 (comp s (Ye s)[n]) []) = (Yw (mrgB 2 (comp s (Ye s)[n]) []),0):=qq (not_not_intro c);have a : decide ((n : Int) < ((Zd s).length : Int)) = true:=Qf q0;have b1:=qhp (q5n hs (upA s n)).1;have v:=qhp c;rw [← q13n g] at l m
    have u : w64 (Yw (canon s (upA s n)) + Yw (mrgB 2 (comp s (Ye s)[n]) [])) = Yw (canon s (upA s (n + 1))):=by
      rw [m,Qb q0]
    simp only [q43,a,Q2,j,qk,qgn,k,qdh,b,qo1,r,d,qo3,l,u,w64s g (show (Ye s).length≤1000000 by omega)]
    simp) (by
    have a : decide (((Ye s).length : Int) < ((Zd s).length : Int)) = false:=Qj q0
    simp only [q43,a,Q3,qqj hs]) (Nat.zero_le _)
  simp only [qql,show Yw [] = 0 from rfl] at key;have key : loop (q43 (Zd s,0)) ([],0,0) = some (.inl (s,Yw s)):=key;rw [key];have b : q3r s = (Yw s,0):=qq (not_not_intro hs);simp only [qk,qdh,b,beq_self_eq_true,Q2,sameBox s s (show s.length≤1000000 by omega),decide_true]
end Go.Sh
namespace Go.Sh
open Go Go.Am
theorem qim (x y z u v w : Int) : Yr x y z u v w = some (bx x y z u v w):=rfl
def barX (t : Nat) : qe:=bx (2 * (t : Int)) 0 0 (2 * (t : Int) + 1) 60 1
def barY (t : Nat) : qe:=bx 0 (2 * (t : Int)) 0 60 (2 * (t : Int) + 1) 1
def qfl (t u : Nat) : qe:=bx (2 * (t : Int)) (2 * (u : Int)) 0 (2 * (t : Int) + 1) (2 * (u : Int) + 1) 1
def Za : List qe:=(List.range 21).map barX
def Ui : List qe:=(List.range 21).map barY
def grid : List qe:=(List.range 21).flatMap fun t=>(List.range 21).map fun u=>qfl t u
theorem quh : loop q66 (0,[],[]) = some (Za,Ui):=by
  have key:=Zv (f:=q66) (fun k=>((k : Int),(List.range k).map barX,(List.range k).map barY)) 21 (Za,Ui) (fun k a=>by
    have hd : decide ((k : Int) < 21) = true:=Qf q0;simp only [q66,hd,Q2,w64s a (show 21≤1000000 by omega),qim,qk]
    rw [Qb (x:=2 * (k : Int)) q0,Qb (x:=2 * (k : Int) + 1) q0,Y4 (by simp;omega),Y4 (by simp;omega),List.range_succ,List.map_append,List.map_append];rfl) rfl (Nat.zero_le _)
  exact key
theorem qef : (∀ b∈Za,vB b)∧isB Za:=by decide +kernel
theorem qeh : (∀ b∈Ui,vB b)∧isB Ui:=by decide +kernel
theorem qkp : isB grid∧grid.length = 441:=by decide +kernel
theorem qbo : Za.length = 21:=by simp [Za]
theorem qeg : Ui.length = 21:=by simp [Ui]
theorem qt9 (x y z : Int) : hasB Za x y z↔∃ n,n < 21∧inB (barX n) x y z:=by
  constructor
  · rintro ⟨b,hb,h⟩;obtain ⟨n,a,rfl⟩:=List.mem_map.1 hb;exact ⟨n,List.mem_range.1 a,h⟩
  · rintro ⟨n,a,h⟩;exact ⟨_,List.mem_map.2 ⟨n,List.mem_range.2 a,rfl⟩,h⟩
theorem qta (x y z : Int) : hasB Ui x y z↔∃ n,n < 21∧inB (barY n) x y z:=by
  constructor
  · rintro ⟨b,hb,h⟩;obtain ⟨n,a,rfl⟩:=List.mem_map.1 hb;exact ⟨n,List.mem_range.1 a,h⟩
  · rintro ⟨n,a,h⟩;exact ⟨_,List.mem_map.2 ⟨n,List.mem_range.2 a,rfl⟩,h⟩
theorem qt8 (x y z : Int) : hasB grid x y z↔∃ n m,n < 21∧m < 21∧inB (qfl n m) x y z:=by
  constructor
  · rintro ⟨b,hb,h⟩;obtain ⟨n,c,hb⟩:=List.mem_flatMap.1 hb;obtain ⟨m,a,rfl⟩:=List.mem_map.1 hb;exact ⟨n,m,List.mem_range.1 c,List.mem_range.1 a,h⟩
  · rintro ⟨n,m,c,a,h⟩;exact ⟨_,List.mem_flatMap.2 ⟨n,List.mem_range.2 c,List.mem_map.2 ⟨m,List.mem_range.2 a,rfl⟩⟩,h⟩
theorem qq4 (i k : Nat) : ¬ adjB Za i k:=by
  rintro ⟨a,b,d,c,f⟩;unfold Za at d c;rw [List.getElem?_map] at d c;obtain ⟨n,h,rfl⟩:=Option.map_eq_some_iff.1 d;obtain ⟨m,g,rfl⟩:=Option.map_eq_some_iff.1 c;have:=(qf1 _ _).1 f;simp only [barX,bx] at this;omega
theorem qq5 : (Ye Za).length = 21:=by
  have h : ∀ i,repI Za i:=fun i j f d=>by
    have : i = j:=d.closed (S:=fun k=>k = j) (fun a b _ c=>absurd c (qq4 a b)) rfl;omega
  unfold Ye;rw [List.filter_eq_self.2 (fun a _=>by simpa using h a),List.length_range,qbo]
theorem qis {l m : List qe} (h : l.length≤400) (b : isB m) (c : ∀ x y z,hasB l x y z↔hasB m x y z) (a : m≠l) : Qu l = 8:=by
  have e : mrgB 2 l [] = m:=q9h (by simp;omega) b.can fun x y z=>by rw [q60,← c];simp [q1c]
  unfold Qu;rw [qq q0,e,qq a];split <;> rfl
theorem qtm {kind : Int} {p q out : List qe} (hp : Qu p = 0) (a : Qu q = 0) (d : CanB out) (b : 400 < out.length) (c : ∀ x y z,Ks kind (hasB p x y z) (hasB q x y z)↔hasB out x y z) : jB kind p q = ([],4):=by
  have f:=(Kp.1 hp).1;have g:=(Kp.1 a).1;have e:=q9h (kind:=kind) (p:=p) (q:=q) q0 d c;unfold jB;rw [qq (by simp [hp]),qq (by simp [a]),e,qr b]
theorem q14k : qca = some true:=by
  have f : Jk = some Y3:=rfl;have a : Qu Y3 = 0:=q5o Q1;have o : ({Lo:=({X:=0,Y:=0,Z:=0} : Q6),Hi:=({X:=0,Y:=0,Z:=0} : Q6)} : qe) = q2q:=rfl;have mk : mks 48 401 q2q = some (List.replicate 401 q2q):=rfl;have q : mkB (List.replicate 401 q2q) = ([],4):=by unfold mkB;rw [qr (by rw [List.length_replicate];omega)]
  have p : mkB [bx 0 0 0 1 1 0] = ([],8):=by unfold mkB;rw [qq Q1,qq Q1]
  have t : hull [] = (q2q,6):=by unfold hull;rw [qq (by simp [qr9]),qr rfl]
  have n4 : place Y3 ({Turn:=0,At:=({X:=999999,Y:=0,Z:=0} : Q6)} : Y2) = ([],16):=by
    have e : Y3.map (Zl 0 ⟨999999,0,0⟩) = [bx 999999 0 0 1000001 2 1,bx 999999 0 1 1000000 2 2]:=by
      simp only [Y3,List.map_cons,List.map_nil,Zl,Yy,qq3];rfl
    have d : ¬ ∀ b∈Y3,vB (Zl (Int.toNat 0) ⟨999999,0,0⟩ b):=fun h=>by
      have : ∀ b∈Y3.map (Zl 0 ⟨999999,0,0⟩),vB b:=fun b hb=>by
        obtain ⟨c,a,rfl⟩:=List.mem_map.1 hb;exact h c a
      rw [e] at this;exact absurd (this (bx 999999 0 0 1000001 2 1) qd) Q1
    unfold place;rw [qq (by simp [a]),qq (by unfold FOk InV;decide)];exact qq d
  have n5 : place Y3 ({Turn:=24,At:=({X:=0,Y:=0,Z:=0} : Q6)} : Y2) = ([],8):=by
    unfold place;rw [qq (by simp [a]),qr (by unfold FOk InV;decide)]
  have v : Qu [bx 0 0 0 1 1 1,bx 0 0 1 1 1 2] = 8:=qis (m:=[bx 0 0 0 1 1 2]) Q1 Q1 (fun x y z=>by simp only [qc5,q1c,or_false,inB,bx];omega) Q1
  have n6 : jB 2 Y3 [bx 0 0 0 1 1 1,bx 0 0 1 1 1 2] = ([],8):=by
    unfold jB;rw [qq (by simp [a]),v,qr Q1]
  have n7 : Qu [bx 0 0 1 1 1 2,bx 0 0 0 2 1 1] = 8:=qis (m:=[bx 0 0 0 2 1 1,bx 0 0 1 1 1 2]) Q1 Q1 (fun x y z=>by simp only [qc5,q1c,or_false];exact Or.comm) Q1;have n8 : Qu [bx 0 0 0 1000001 1 1] = 8:=by unfold Qu;rw [qq Q1,qq Q1]
  have k : Qu [bx (-1000000) (-1000000) (-1000000) 1000000 1000000 1000000] = 0:=q5o Q1;have n9 : volume [bx (-1000000) (-1000000) (-1000000) 1000000 1000000 1000000] = (8000000000000000000,0):=by unfold volume;rw [qq (by simp [k])];rfl
  have n10 : q3r [bx (-1000000) (-1000000) (-1000000) 1000000 1000000 1000000] = (24000000000000,0):=by unfold q3r;rw [qq (by simp [k])];rfl
  have r : mkB Za = (Za,0):=qch ⟨by rw [qbo];omega,qef.1,by rw [qbo];omega⟩ qef.2 fun x y z=>Iff.rfl;have u : mkB Ui = (Ui,0):=qch ⟨by rw [qeg];omega,qeh.1,by rw [qeg];omega⟩ qeh.2 fun x y z=>Iff.rfl;have l : Qu Za = 0:=q5o ⟨by rw [qbo];omega,qef⟩;have s : Qu Ui = 0:=q5o ⟨by rw [qeg];omega,qeh⟩
  have n11 : jB 1 Za Ui = ([],4):=qtm l s qkp.1.can (by rw [qkp.2];omega) fun x y z=>by
    rw [qku,qt9,qta,qt8];simp only [inB,barX,barY,qfl,bx];constructor
    · rintro ⟨⟨n,d,h⟩,⟨m,j,g⟩⟩;exact ⟨n,m,d,j,q0⟩
    · rintro ⟨n,m,d,j,h⟩;exact ⟨⟨n,d,q0⟩,⟨m,j,q0⟩⟩
  have n12 : q9l Za = (Zd Za,0):=qq (not_not_intro l);have n13 : (Zd Za).length = 21:=by rw [qgo,List.length_map,qq5]
  unfold qca;simp only [o,mk,qim,qk,qdg,q,p,q12a,t,f,qhd _ _ (show (0 : Int)≤(({Turn:=0,At:=({X:=999999,Y:=0,Z:=0} : Q6)} : Y2)).Turn by decide),n4,qhd _ _ (show (0 : Int)≤(({Turn:=24,At:=({X:=0,Y:=0,Z:=0} : Q6)} : Y2)).Turn by decide),n5,qo3,n6,q4z,n7,n8,qo5,n9,qdh,n10,quh,r,u,qo1,n11,qgn,n12,n13,qi5];rfl
end Go.Sh
