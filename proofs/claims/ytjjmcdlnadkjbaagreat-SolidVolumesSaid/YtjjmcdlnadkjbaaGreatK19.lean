/- Qb2 Pf3 Rs5 Rs6 Rs7 -/
import Derived.Test.YtjjmcdlnadkjbaaGreatK18
namespace Go.Sh
open Go Go.Am
def Z6 {α : Type} (f : α→α→Int) (l : List α) : Nat→Int
  | 0=>0
  | n + 1=>Z6 f l n + (match l[n]? with
    | some b=>sumL (fun c=>f b c) (l.take n)
    | none=>0)
theorem qjo {α : Type} (f : α→α→Int) (hs : ∀ a b,f a b = f b a) (l : List α) : ∀ n,n≤l.length→
    sumL (fun b=>sumL (fun c=>f b c) (l.take n)) (l.take n) = sumL (fun b=>f b b) (l.take n) + 2 * Z6 f l n
  | 0,_=>by simp [sumL,Z6]
  | n + 1,h=>by
    have ih:=qjo f hs l n (by omega)
    rw [List.take_succ_eq_append_getElem (by omega)]
    simp only [q9m,sumL,Int.add_zero,Z6,List.getElem?_eq_getElem (show n < l.length by omega),qfa]
    have : sumL (fun b=>f b l[n]) (l.take n) = sumL (fun c=>f l[n] c) (l.take n):=q19 fun b _=>hs b _
    rw [this]
    omega
theorem qlw {α : Type} (f g : α→α→Int) {l : List α} (hp : l.Pairwise fun a b=>f a b = g a b∧f b a = g b a) : ∀ n,n≤l.length→
    sumL (fun b=>sumL (fun c=>f b c - g b c) (l.take n)) (l.take n) = sumL (fun b=>f b b - g b b) (l.take n)
  | 0,_=>by simp [sumL]
  | n + 1,h=>by
    have ih:=qlw f g hp n (by omega)
    have hq:=List.pairwise_iff_getElem.1 hp
    rw [List.take_succ_eq_append_getElem (by omega)]
    simp only [q9m,sumL,Int.add_zero,qfa,ih]
    have hm : ∀ b∈l.take n,f b l[n] = g b l[n]∧f l[n] b = g l[n] b:=fun b hb=>by
      obtain ⟨i,hi,rfl⟩:=List.getElem_of_mem hb
      rw [List.length_take] at hi
      rw [List.getElem_take]
      exact hq i n (by omega) (by omega) (by omega)
    have s1 : sumL (fun b=>f b l[n] - g b l[n]) (l.take n) = 0:=(q19 (g:=fun _=>0) fun b hb=>by have:=hm b hb;omega).trans (qly _)
    have s2 : sumL (fun c=>f l[n] c - g l[n] c) (l.take n) = 0:=(q19 (g:=fun _=>0) fun b hb=>by have:=hm b hb;omega).trans (qly _)
    omega
theorem qic {a b c : Prop} : ind (a∧b∧c) = ind a * (ind b * ind c):=by rw [q4m,q4m]
def ov (a0 a1 b0 b1 : Int) : Int:=max 0 (min a1 b1 - max a0 b0)
theorem qfe {N : Nat} {a0 a1 b0 b1 : Int} (h1 : -N≤a0) (h2 : a1≤N) : sumZ N (fun x=>ind (a0≤x∧x < a1) * ind (b0≤x∧x < b1)) = ov a0 a1 b0 b1:=by
  have : (fun x : Int=>ind (a0≤x∧x < a1) * ind (b0≤x∧x < b1)) = fun x=>ind (max a0 b0≤x∧x < min a1 b1):=by
    funext x
    rw [← q4m]
    exact Ut ⟨fun h=>by omega,fun h=>by omega⟩
  rw [this]
  unfold ov
  by_cases h : max a0 b0≤min a1 b1
  · by_cases hb : b0≤a1∧a0≤b1
    · rw [qc6 (by omega) h (by omega)];omega
    · omega
  · have : (fun x : Int=>ind (max a0 b0≤x∧x < min a1 b1)) = fun _=>0:=by
      funext x;exact J3 (by omega)
    rw [this,qff];omega
theorem qo9 {N : Nat} {b : qf} {cx0 cx1 cy0 cy1 cz0 cz1 : Int} (h : (-(N : Int)≤b.Lo.X∧-(N : Int)≤b.Lo.Y∧-(N : Int)≤b.Lo.Z)∧b.Hi.X≤N∧b.Hi.Y≤N∧b.Hi.Z≤N) :
    (sumZ N fun x=>sumZ N fun y=>sumZ N fun z=>ind (inB b x y z) * ind ((cx0≤x∧x < cx1)∧(cy0≤y∧y < cy1)∧(cz0≤z∧z < cz1))) = ov b.Lo.X b.Hi.X cx0 cx1 * (ov b.Lo.Y b.Hi.Y cy0 cy1 * ov b.Lo.Z b.Hi.Z cz0 cz1):=by
  obtain ⟨⟨h4,h5,h6⟩,h7,h8,h9⟩:=h
  have e : ∀ x y,(sumZ N fun z=>ind (inB b x y z) * ind ((cx0≤x∧x < cx1)∧(cy0≤y∧y < cy1)∧(cz0≤z∧z < cz1))) = (ind (b.Lo.X≤x∧x < b.Hi.X) * ind (cx0≤x∧x < cx1)) * ((ind (b.Lo.Y≤y∧y < b.Hi.Y) * ind (cy0≤y∧y < cy1)) * ov b.Lo.Z b.Hi.Z cz0 cz1):=fun x y=>by
    have : (fun z=>ind (inB b x y z) * ind ((cx0≤x∧x < cx1)∧(cy0≤y∧y < cy1)∧(cz0≤z∧z < cz1))) = fun z=>(ind (b.Lo.X≤x∧x < b.Hi.X) * ind (cx0≤x∧x < cx1)) * ((ind (b.Lo.Y≤y∧y < b.Hi.Y) * ind (cy0≤y∧y < cy1)) * (ind (b.Lo.Z≤z∧z < b.Hi.Z) * ind (cz0≤z∧z < cz1))):=by
      funext z;unfold inB;rw [qic,qic]
      simp only [Int.mul_assoc,Int.mul_left_comm,Int.mul_comm]
    rw [this,q1a,q1a,qfe h6 h9]
  have e2 : ∀ x,(sumZ N fun y=>sumZ N fun z=>ind (inB b x y z) * ind ((cx0≤x∧x < cx1)∧(cy0≤y∧y < cy1)∧(cz0≤z∧z < cz1))) = (ov b.Lo.Y b.Hi.Y cy0 cy1 * ov b.Lo.Z b.Hi.Z cz0 cz1) * (ind (b.Lo.X≤x∧x < b.Hi.X) * ind (cx0≤x∧x < cx1)):=fun x=>by
    have : (fun y=>sumZ N fun z=>ind (inB b x y z) * ind ((cx0≤x∧x < cx1)∧(cy0≤y∧y < cy1)∧(cz0≤z∧z < cz1))) = fun y=>((ind (b.Lo.X≤x∧x < b.Hi.X) * ind (cx0≤x∧x < cx1)) * ov b.Lo.Z b.Hi.Z cz0 cz1) * (ind (b.Lo.Y≤y∧y < b.Hi.Y) * ind (cy0≤y∧y < cy1)):=by
      funext y;rw [e];simp only [Int.mul_assoc,Int.mul_left_comm,Int.mul_comm]
    rw [this,q1a,qfe h5 h8]
    simp only [Int.mul_assoc,Int.mul_left_comm,Int.mul_comm]
  simp only [e2]
  rw [q1a,qfe h4 h7,Int.mul_comm]
def Js (b c : qf) : Int:=
  ov b.Lo.X b.Hi.X (c.Lo.X - 1) (c.Hi.X - 1) * (ov b.Lo.Y b.Hi.Y c.Lo.Y c.Hi.Y * ov b.Lo.Z b.Hi.Z c.Lo.Z c.Hi.Z) + ov b.Lo.X b.Hi.X (c.Lo.X + 1) (c.Hi.X + 1) * (ov b.Lo.Y b.Hi.Y c.Lo.Y c.Hi.Y * ov b.Lo.Z b.Hi.Z c.Lo.Z c.Hi.Z) +
  (ov b.Lo.X b.Hi.X c.Lo.X c.Hi.X * (ov b.Lo.Y b.Hi.Y (c.Lo.Y - 1) (c.Hi.Y - 1) * ov b.Lo.Z b.Hi.Z c.Lo.Z c.Hi.Z) + ov b.Lo.X b.Hi.X c.Lo.X c.Hi.X * (ov b.Lo.Y b.Hi.Y (c.Lo.Y + 1) (c.Hi.Y + 1) * ov b.Lo.Z b.Hi.Z c.Lo.Z c.Hi.Z)) +
  (ov b.Lo.X b.Hi.X c.Lo.X c.Hi.X * (ov b.Lo.Y b.Hi.Y c.Lo.Y c.Hi.Y * ov b.Lo.Z b.Hi.Z (c.Lo.Z - 1) (c.Hi.Z - 1)) + ov b.Lo.X b.Hi.X c.Lo.X c.Hi.X * (ov b.Lo.Y b.Hi.Y c.Lo.Y c.Hi.Y * ov b.Lo.Z b.Hi.Z (c.Lo.Z + 1) (c.Hi.Z + 1)))
def Kf (a b : qf) : Int:=
  let x:=min a.Hi.X b.Hi.X - max a.Lo.X b.Lo.X
  let y:=min a.Hi.Y b.Hi.Y - max a.Lo.Y b.Lo.Y
  let z:=min a.Hi.Z b.Hi.Z - max a.Lo.Z b.Lo.Z
  if x = 0∧y > 0∧z > 0 then y * z else if x > 0∧y = 0∧z > 0 then x * z else if x > 0∧y > 0∧z = 0 then x * y else 0
theorem qof (a b : qf) : Kf a b = Kf b a:=by
  unfold Kf
  simp only [Int.min_comm b.Hi.X,Int.max_comm b.Lo.X,Int.min_comm b.Hi.Y,Int.max_comm b.Lo.Y,Int.min_comm b.Hi.Z,Int.max_comm b.Lo.Z]
def ltB (b : qf) : Prop:=b.Lo.X < b.Hi.X∧b.Lo.Y < b.Hi.Y∧b.Lo.Z < b.Hi.Z
theorem ov3 {a0 a1 b0 b1 : Int} (ha : a0 < a1) (hb : b0 < b1) :
    (min a1 b1 - max a0 b0 < 0∧ov a0 a1 b0 b1 = 0∧ov a0 a1 (b0 - 1) (b1 - 1) + ov a0 a1 (b0 + 1) (b1 + 1) = 0∧ov a0 a1 (b0 - 1) (b1 - 1) = 0∧ov a0 a1 (b0 + 1) (b1 + 1) = 0)∨
    (min a1 b1 - max a0 b0 = 0∧ov a0 a1 b0 b1 = 0∧ov a0 a1 (b0 - 1) (b1 - 1) + ov a0 a1 (b0 + 1) (b1 + 1) = 1)∨
    (min a1 b1 - max a0 b0 > 0∧ov a0 a1 b0 b1 = min a1 b1 - max a0 b0):=by
  unfold ov;omega
theorem qls {b c : qf} (hb : ltB b) (hc : ltB c) (hd : ∀ x y z,¬ (inB b x y z∧inB c x y z)) : Js b c = Kf b c:=by
  obtain ⟨b1,b2,b3⟩:=hb
  obtain ⟨c1,c2,c3⟩:=hc
  have hdis : ¬ (min b.Hi.X c.Hi.X - max b.Lo.X c.Lo.X > 0∧min b.Hi.Y c.Hi.Y - max b.Lo.Y c.Lo.Y > 0∧min b.Hi.Z c.Hi.Z - max b.Lo.Z c.Lo.Z > 0):=fun ⟨h1,h2,h3⟩=>
    hd (max b.Lo.X c.Lo.X) (max b.Lo.Y c.Lo.Y) (max b.Lo.Z c.Lo.Z) (by unfold inB;omega)
  have key : ∀ {X0 X1 Y0 Y1 Z0 Z1 x y z : Int},((x < 0∧X0 = 0∧X1 = 0)∨(x = 0∧X0 = 0∧X1 = 1)∨(x > 0∧X0 = x))→((y < 0∧Y0 = 0∧Y1 = 0)∨(y = 0∧Y0 = 0∧Y1 = 1)∨(y > 0∧Y0 = y))→
      ((z < 0∧Z0 = 0∧Z1 = 0)∨(z = 0∧Z0 = 0∧Z1 = 1)∨(z > 0∧Z0 = z))→¬ (x > 0∧y > 0∧z > 0)→
      X1 * (Y0 * Z0) + X0 * (Y1 * Z0) + X0 * (Y0 * Z1) = if x = 0∧y > 0∧z > 0 then y * z else if x > 0∧y = 0∧z > 0 then x * z else if x > 0∧y > 0∧z = 0 then x * y else 0:=by
    intro X0 X1 Y0 Y1 Z0 Z1 x y z hx hy hz hn
    rcases hx with ⟨hx,rfl,rfl⟩ | ⟨rfl,rfl,rfl⟩ | ⟨hx,rfl⟩ <;> rcases hy with ⟨hy,rfl,rfl⟩ | ⟨rfl,rfl,rfl⟩ | ⟨hy,rfl⟩ <;> rcases hz with ⟨hz,rfl,rfl⟩ | ⟨rfl,rfl,rfl⟩ | ⟨hz,rfl⟩ <;>
      first
        | (exfalso;omega)
        | (simp only [Int.zero_mul,Int.mul_zero,Int.add_zero,Int.zero_add,Int.one_mul,Int.mul_one];clear hd hdis b1 b2 b3 c1 c2 c3;(repeat' split) <;> first | omega | (simp_all;done) | (simp_all;omega))
  have e : Js b c = (ov b.Lo.X b.Hi.X (c.Lo.X - 1) (c.Hi.X - 1) + ov b.Lo.X b.Hi.X (c.Lo.X + 1) (c.Hi.X + 1)) * (ov b.Lo.Y b.Hi.Y c.Lo.Y c.Hi.Y * ov b.Lo.Z b.Hi.Z c.Lo.Z c.Hi.Z) +
      ov b.Lo.X b.Hi.X c.Lo.X c.Hi.X * ((ov b.Lo.Y b.Hi.Y (c.Lo.Y - 1) (c.Hi.Y - 1) + ov b.Lo.Y b.Hi.Y (c.Lo.Y + 1) (c.Hi.Y + 1)) * ov b.Lo.Z b.Hi.Z c.Lo.Z c.Hi.Z) +
      ov b.Lo.X b.Hi.X c.Lo.X c.Hi.X * (ov b.Lo.Y b.Hi.Y c.Lo.Y c.Hi.Y * (ov b.Lo.Z b.Hi.Z (c.Lo.Z - 1) (c.Hi.Z - 1) + ov b.Lo.Z b.Hi.Z (c.Lo.Z + 1) (c.Hi.Z + 1))):=by
    unfold Js;simp only [Int.add_mul,Int.mul_add]
  rw [e]
  unfold Kf
  refine key ?_ ?_ ?_ hdis
  · rcases ov3 b1 c1 with h | h | h
    · exact .inl ⟨h.1,h.2.1,h.2.2.1⟩
    · exact .inr (.inl h)
    · exact .inr (.inr h)
  · rcases ov3 b2 c2 with h | h | h
    · exact .inl ⟨h.1,h.2.1,h.2.2.1⟩
    · exact .inr (.inl h)
    · exact .inr (.inr h)
  · rcases ov3 b3 c3 with h | h | h
    · exact .inl ⟨h.1,h.2.1,h.2.2.1⟩
    · exact .inr (.inl h)
    · exact .inr (.inr h)
def Yq (b : qf) : Int:=2 * ((b.Hi.X - b.Lo.X) * (b.Hi.Y - b.Lo.Y) + (b.Hi.X - b.Lo.X) * (b.Hi.Z - b.Lo.Z) + (b.Hi.Y - b.Lo.Y) * (b.Hi.Z - b.Lo.Z))
theorem qyt {b : qf} (hb : ltB b) : 6 * volB b - Js b b = Yq b:=by
  obtain ⟨b1,b2,b3⟩:=hb
  have o : ∀ {a c : Int},a < c→ov a c a c = c - a∧ov a c (a - 1) (c - 1) = c - a - 1∧ov a c (a + 1) (c + 1) = c - a - 1:=fun h=>by unfold ov;omega
  obtain ⟨x0,x1,x2⟩:=o b1
  obtain ⟨y0,y1,y2⟩:=o b2
  obtain ⟨z0,z1,z2⟩:=o b3
  unfold Js volB Yq
  rw [x0,x1,x2,y0,y1,y2,z0,z1,z2]
  generalize b.Hi.X - b.Lo.X = x
  generalize b.Hi.Y - b.Lo.Y = y
  generalize b.Hi.Z - b.Lo.Z = z
  simp only [Int.sub_mul,Int.mul_sub,Int.one_mul,Int.mul_one,Int.mul_assoc]
  omega
noncomputable def q9n (N : Nat) (P : Int→Int→Int→Prop) : Int:=
  (cnt3 N (fun x y z=>P x y z∧¬ P (x + 1) y z) + cnt3 N (fun x y z=>P x y z∧¬ P (x - 1) y z)) +
  (cnt3 N (fun x y z=>P x y z∧¬ P x (y + 1) z) + cnt3 N (fun x y z=>P x y z∧¬ P x (y - 1) z)) +
  (cnt3 N (fun x y z=>P x y z∧¬ P x y (z + 1)) + cnt3 N (fun x y z=>P x y z∧¬ P x y (z - 1)))
def q1b (l : List qf) : Int:=sumL Yq l - 2 * Z6 Kf l l.length
def vBN (N : Nat) (b : qf) : Prop:=ltB b∧(-(N : Int)≤b.Lo.X∧-(N : Int)≤b.Lo.Y∧-(N : Int)≤b.Lo.Z)∧b.Hi.X≤N∧b.Hi.Y≤N∧b.Hi.Z≤N
theorem q4e {N : Nat} {l : List qf} (hc : ∀ x y z,cntB l x y z = ind (hasB l x y z)) (h : ∀ b∈l,vBN N b) (dx dy dz : Int) :
    cnt3 N (fun x y z=>hasB l x y z∧¬ hasB l (x + dx) (y + dy) (z + dz)) = volL l - sumL (fun b=>sumL (fun c=>ov b.Lo.X b.Hi.X (c.Lo.X - dx) (c.Hi.X - dx) * (ov b.Lo.Y b.Hi.Y (c.Lo.Y - dy) (c.Hi.Y - dy) * ov b.Lo.Z b.Hi.Z (c.Lo.Z - dz) (c.Hi.Z - dz))) l) l:=by
  have e1 : ∀ x y z,ind (hasB l x y z∧¬ hasB l (x + dx) (y + dy) (z + dz)) = ind (hasB l x y z) - sumL (fun b=>sumL (fun c=>ind (inB b x y z) * ind ((c.Lo.X - dx≤x∧x < c.Hi.X - dx)∧(c.Lo.Y - dy≤y∧y < c.Hi.Y - dy)∧(c.Lo.Z - dz≤z∧z < c.Hi.Z - dz))) l) l:=fun x y z=>by
    have e2 : sumL (fun b=>sumL (fun c=>ind (inB b x y z) * ind ((c.Lo.X - dx≤x∧x < c.Hi.X - dx)∧(c.Lo.Y - dy≤y∧y < c.Hi.Y - dy)∧(c.Lo.Z - dz≤z∧z < c.Hi.Z - dz))) l) l = ind (hasB l x y z) * ind (hasB l (x + dx) (y + dy) (z + dz)):=by
      rw [← hc,← hc]
      have e3 : ∀ b : qf,sumL (fun c : qf=>ind (inB b x y z) * ind ((c.Lo.X - dx≤x∧x < c.Hi.X - dx)∧(c.Lo.Y - dy≤y∧y < c.Hi.Y - dy)∧(c.Lo.Z - dz≤z∧z < c.Hi.Z - dz))) l = cntB l (x + dx) (y + dy) (z + dz) * ind (inB b x y z):=fun b=>by
        rw [qc4,Int.mul_comm]
        unfold cntB
        rw [q19 fun c _=>Ut (q:=inB c (x + dx) (y + dy) (z + dz)) ⟨fun h=>by unfold inB;omega,fun h=>by unfold inB at h;omega⟩]
      simp only [e3]
      rw [qc4,Int.mul_comm]
      rfl
    rw [e2,q4m,qps,Int.mul_sub,Int.mul_one]
  unfold cnt3
  simp only [e1,qz3]
  have e4 : (sumZ N fun x=>sumZ N fun y=>sumZ N fun z=>ind (hasB l x y z)) = volL l:=(qmh hc fun b hb=>by have:=h b hb;unfold vBN ltB at this;omega).symm
  rw [e4]
  congr 1
  simp only [← qc5]
  refine q19 fun b hb=>q19 fun c hcm=>?_
  have:=h b hb
  unfold vBN at this
  exact qo9 this.2
theorem qoa {l : List qf} (hc : ∀ x y z,cntB l x y z = ind (hasB l x y z)) : l.Pairwise fun b c=>∀ x y z,¬ (inB b x y z∧inB c x y z):=by
  have key : ∀ l : List qf,(∀ x y z,cntB l x y z≤1)→l.Pairwise fun b c=>∀ x y z,¬ (inB b x y z∧inB c x y z):=by
    intro l
    induction l with
    | nil=>intro _;exact .nil
    | cons b l ih=>
      intro h
      have nn : ∀ (l : List qf) x y z,0≤cntB l x y z:=fun l x y z=>by
        unfold cntB;induction l with
        | nil=>exact Int.le_refl _
        | cons c l ih=>have:=(q4n (p:=inB c x y z)).1;rw [sumL];omega
      have hh : ∀ x y z,ind (inB b x y z) + cntB l x y z≤1:=h
      refine List.pairwise_cons.2 ⟨fun c hc x y z ⟨h1,h2⟩=>?_,ih fun x y z=>by have:=hh x y z;have:=(q4n (p:=inB b x y z)).1;omega⟩
      have h3:=hh x y z
      rw [q4o h1] at h3
      have h4 : ∀ l : List qf,c∈l→1≤cntB l x y z:=by
        intro l
        induction l with
        | nil=>intro h;cases h
        | cons d l ih2=>
          intro hm
          have e : cntB (d::l) x y z = ind (inB d x y z) + cntB l x y z:=rfl
          rcases List.mem_cons.1 hm with rfl | hm
          · have:=nn l x y z;rw [e,q4o h2];omega
          · have:=ih2 hm;have:=(q4n (p:=inB d x y z)).1;rw [e];omega
      have:=h4 l hc
      omega
  exact key l fun x y z=>by rw [hc];exact q4n.2
theorem qz6 {N : Nat} {l : List qf} (hc : ∀ x y z,cntB l x y z = ind (hasB l x y z)) (h : ∀ b∈l,vBN N b) : q1b l = q9n N (hasB l):=by
  have hd:=qoa hc
  have e1:=q4e hc h 1 0 0
  have e2:=q4e hc h (-1) 0 0
  have e3:=q4e hc h 0 1 0
  have e4:=q4e hc h 0 (-1) 0
  have e5:=q4e hc h 0 0 1
  have e6:=q4e hc h 0 0 (-1)
  simp only [Int.add_zero,Int.sub_zero,Int.sub_neg,← Int.sub_eq_add_neg] at e1 e2 e3 e4 e5 e6
  unfold q9n
  rw [e1,e2,e3,e4,e5,e6]
  have e7 : sumL (fun b=>sumL (fun c=>Js b c) l) l = 6 * volL l - sumL Yq l + 2 * Z6 Kf l l.length:=by
    have h1:=qlw Js Kf (l:=l) (List.Pairwise.imp_of_mem (fun {b c} hb hcm hdis=>⟨qls (h b hb).1 (h c hcm).1 hdis,qls (h c hcm).1 (h b hb).1 fun x y z hh=>hdis x y z ⟨hh.2,hh.1⟩⟩) hd) l.length (Nat.le_refl _)
    have h2:=qjo Kf qof l l.length (Nat.le_refl _)
    rw [List.take_length] at h1 h2
    simp only [qlx] at h1
    have h3 : sumL (fun b=>6 * volB b - Js b b) l = sumL Yq l:=q19 fun b hb=>qyt (h b hb).1
    rw [qlx,qc4] at h3
    unfold volL
    have h4 : sumL (fun b=>sumL (fun c=>Js b c) l) l - sumL (fun b=>sumL (fun c=>Kf b c) l) l = sumL (fun b=>Js b b) l - sumL (fun b=>Kf b b) l:=h1
    omega
  unfold q1b
  unfold Js at e7
  simp only [qfa] at e7
  omega
theorem qzi {b : qf} (h : vB b) : vBN 1000000 b:=by unfold vB at h;unfold vBN ltB;omega
theorem qz5 {l : List qf} (hc : CanB l) (h : ∀ b∈l,vB b) : q1b l = q9n 1000000 (hasB l):=qz6 hc.cnt fun b hb=>qzi (h b hb)
end Go.Sh
namespace Go.Sh
open Go Go.Am
abbrev V3:=qy × qy × qy
def zeroV : qy:=⟨0,0,0⟩
noncomputable def axT (t : Nat) : V3:=match q7k (t : Int) with
  | some m=>m
  | none=>(zeroV,zeroV,zeroV)
theorem qpb : ∀ t : Nat,t < 24→q7k (t : Int) = some (axT t):=by decide +kernel
def Yw (v : qy) : Prop:=-1≤v.X∧v.X≤1∧-1≤v.Y∧v.Y≤1∧-1≤v.Z∧v.Z≤1
instance (v : qy) : Decidable (Yw v):=by unfold Yw;infer_instance
theorem qn4 : ∀ t : Nat,t < 24→Yw (axT t).1∧Yw (axT t).2.1∧Yw (axT t).2.2:=by decide +kernel
def mulV (m : V3) (v : qy) : qy:=⟨v.X * m.1.X + v.Y * m.2.1.X + v.Z * m.2.2.X,v.X * m.1.Y + v.Y * m.2.1.Y + v.Z * m.2.2.Y,v.X * m.1.Z + v.Y * m.2.1.Z + v.Z * m.2.2.Z⟩
def addV (a b : qy) : qy:=⟨a.X + b.X,a.Y + b.Y,a.Z + b.Z⟩
def Zb (v : qy) (n : Int) : Prop:=-n≤v.X∧v.X≤n∧-n≤v.Y∧v.Y≤n∧-n≤v.Z∧v.Z≤n
theorem qqn {a b : Int} {n : Int} (ha : -n≤a∧a≤n) (hb : -1≤b∧b≤1) : -n≤a * b∧a * b≤n:=by
  have : b = -1∨b = 0∨b = 1:=by omega
  rcases this with rfl | rfl | rfl <;> simp <;> omega
theorem qja {m : V3} {v : qy} {n : Int} (hm : Yw m.1∧Yw m.2.1∧Yw m.2.2) (hv : Zb v n) :
    (∀ a∈[v.X * m.1.X,v.Y * m.2.1.X,v.Z * m.2.2.X,v.X * m.1.Y,v.Y * m.2.1.Y,v.Z * m.2.2.Y,v.X * m.1.Z,v.Y * m.2.1.Z,v.Z * m.2.2.Z],-n≤a∧a≤n):=by
  obtain ⟨⟨a1,a2,a3,a4,a5,a6⟩,⟨b1,b2,b3,b4,b5,b6⟩,⟨c1,c2,c3,c4,c5,c6⟩⟩:=hm
  obtain ⟨v1,v2,v3,v4,v5,v6⟩:=hv
  intro a ha
  simp only [List.mem_cons,List.not_mem_nil,or_false] at ha
  rcases ha with rfl | rfl | rfl | rfl | rfl | rfl | rfl | rfl | rfl <;> exact qqn ⟨by assumption,by assumption⟩ ⟨by assumption,by assumption⟩
theorem qqm {m : V3} {v : qy} {n : Int} (hm : Yw m.1∧Yw m.2.1∧Yw m.2.2) (hv : Zb v n) : Zb (mulV m v) (3 * n):=by
  have b:=qja hm hv
  simp only [List.mem_cons,List.not_mem_nil,or_false,forall_eq_or_imp,forall_eq] at b
  unfold Zb mulV
  simp only
  omega
theorem qpg {m : V3} {v : qy} (hm : Yw m.1∧Yw m.2.1∧Yw m.2.2) (hv : Zb v 1000000000000) : q7m m v = some (mulV m v):=by
  have b:=qja hm hv
  simp only [List.mem_cons,List.not_mem_nil,or_false,forall_eq_or_imp,forall_eq] at b
  unfold q7m mulV
  congr 2
  · rw [Q0 (x:=v.X * m.1.X) (by omega),Q0 (x:=v.Y * m.2.1.X) (by omega),Q0 (x:=v.Z * m.2.2.X) (by omega),Q0 (x:=v.X * m.1.X + _) (by omega),Q0 (by omega)]
  · rw [Q0 (x:=v.X * m.1.Y) (by omega),Q0 (x:=v.Y * m.2.1.Y) (by omega),Q0 (x:=v.Z * m.2.2.Y) (by omega),Q0 (x:=v.X * m.1.Y + _) (by omega),Q0 (by omega)]
  · rw [Q0 (x:=v.X * m.1.Z) (by omega),Q0 (x:=v.Y * m.2.1.Z) (by omega),Q0 (x:=v.Z * m.2.2.Z) (by omega),Q0 (x:=v.X * m.1.Z + _) (by omega),Q0 (by omega)]
noncomputable def Yd (t : Nat) (at_ v : qy) : qy:=addV (mulV (axT t) v) at_
theorem qpe {f : Y5} {t : Nat} {v : qy} (ht : f.Turn = t) (h : t < 24) (ha : Zb f.At 1000000000000) (hv : Zb v 1000000000000) : q7l f v = some (Yd t f.At v):=by
  have hu:=qn4 t h
  unfold q7l
  rw [ht,qpb t h]
  simp only [Option.bind_some,qpg hu hv]
  have b:=qqm hu hv
  unfold Zb at b ha
  unfold Yd addV
  rw [Q0 (by omega),Q0 (by omega),Q0 (by omega)]
def InV (v : qy) (lo : Int) : Prop:=lo≤v.X∧v.X≤1000000∧lo≤v.Y∧v.Y≤1000000∧lo≤v.Z∧v.Z≤1000000
instance (v : qy) (lo : Int) : Decidable (InV v lo):=by unfold InV;infer_instance
theorem qha (v : qy) (lo : Int) : q2s v lo = some (decide (InV v lo)):=by
  unfold q2s
  by_cases a : min (min v.X v.Y) v.Z ≥ lo
  · by_cases b : max (max v.X v.Y) v.Z≤1000000
    · have : InV v lo:=by unfold InV;omega
      simp only [decide_eq_true a,decide_eq_true b,decide_eq_true this,cond_true,Option.bind_some]
    · have : ¬ InV v lo:=by unfold InV;omega
      simp only [decide_eq_true a,decide_eq_false b,decide_eq_false this,cond_true,Option.bind_some]
  · have : ¬ InV v lo:=by unfold InV;omega
    simp only [decide_eq_false a,decide_eq_false this,cond_false,Option.bind_some]
def FOk (f : Y5) : Prop:=f.Turn < 24∧InV f.At (-1000000)
instance (f : Y5) : Decidable (FOk f):=by unfold FOk;infer_instance
def SOk (s : qfy) : Prop:=FOk s.Frame∧InV s.Size 0
instance (s : qfy) : Decidable (SOk s):=by unfold SOk;infer_instance
theorem qo2 {P Q : Prop} [Decidable P] [Decidable Q] {R : Prop} [Decidable R] (h : R↔P∧Q) : ((cond (decide (¬ P)) (some true) ((some (decide Q)).bind fun r10=>some (!r10))).bind fun c3=>cond c3 (some (8 : Int)) (some 0)) = some (if R then 0 else 8):=by
  by_cases p : P <;> by_cases q : Q <;> simp [p,q,h]
theorem qhp (f : Y5) : q4i f = some (if FOk f then 0 else 8):=by
  unfold q4i
  rw [qha]
  have e : decide (f.Turn ≥ 24) = decide (¬ f.Turn < 24):=by rw [decide_eq_decide];omega
  rw [e]
  exact qo2 Iff.rfl
theorem qib {v : qy} {lo : Int} (h : InV v lo) (hl : -1000000≤lo) : Zb v 1000000000000:=by unfold InV at h;unfold Zb;omega
end Go.Sh
namespace Go.Sh
open Go Go.Am
def rowOk (a b c : Int) : Prop:=(a = 1∧b = 0∧c = 0)∨(a = -1∧b = 0∧c = 0)∨(a = 0∧b = 1∧c = 0)∨(a = 0∧b = -1∧c = 0)∨(a = 0∧b = 0∧c = 1)∨(a = 0∧b = 0∧c = -1)
instance (a b c : Int) : Decidable (rowOk a b c):=by unfold rowOk;infer_instance
theorem qn3 : ∀ t : Nat,t < 24→rowOk (axT t).1.X (axT t).2.1.X (axT t).2.2.X∧rowOk (axT t).1.Y (axT t).2.1.Y (axT t).2.2.Y∧rowOk (axT t).1.Z (axT t).2.1.Z (axT t).2.2.Z:=by decide +kernel
theorem qeq {a b c x y z u v w : Int} (h : rowOk a b c) (hx : x < u) (hy : y < v) (hz : z < w) : x * a + y * b + z * c≠u * a + v * b + w * c:=by
  rcases h with ⟨rfl,rfl,rfl⟩ | ⟨rfl,rfl,rfl⟩ | ⟨rfl,rfl,rfl⟩ | ⟨rfl,rfl,rfl⟩ | ⟨rfl,rfl,rfl⟩ | ⟨rfl,rfl,rfl⟩ <;> omega
def qln (p q : qy) : qf:={Lo:=({X:=min p.X q.X,Y:=min p.Y q.Y,Z:=min p.Z q.Z} : qy),Hi:=({X:=max p.X q.X,Y:=max p.Y q.Y,Z:=max p.Z q.Z} : qy)}
noncomputable def Zl (t : Nat) (at_ : qy) (b : qf) : qf:=qln (Yd t at_ b.Lo) (Yd t at_ b.Hi)
theorem qs8 {t : Nat} (h : t < 24) (at_ : qy) {b : qf} (hb : ltB b) : (Yd t at_ b.Lo).X≠(Yd t at_ b.Hi).X∧(Yd t at_ b.Lo).Y≠(Yd t at_ b.Hi).Y∧(Yd t at_ b.Lo).Z≠(Yd t at_ b.Hi).Z:=by
  obtain ⟨h1,h2,h3⟩:=qn3 t h
  unfold Yd addV mulV
  have e1:=qeq h1 hb.1 hb.2.1 hb.2.2
  have e2:=qeq h2 hb.1 hb.2.1 hb.2.2
  have e3:=qeq h3 hb.1 hb.2.1 hb.2.2
  simp only
  omega
theorem qmc {t : Nat} (h : t < 24) (at_ : qy) {b : qf} (hb : ltB b) : vB (Zl t at_ b)↔InV (Yd t at_ b.Lo) (-1000000)∧InV (Yd t at_ b.Hi) (-1000000):=by
  obtain ⟨h1,h2,h3⟩:=qs8 h at_ hb
  unfold Zl qln vB InV
  simp only
  omega
noncomputable def place (l : List qf) (f : Y5) : List qf × Int:=
  if Qi l≠0 then ([],Qi l) else if ¬ FOk f then ([],8) else if ∀ b∈l,vB (Zl f.Turn.toNat f.At b) then mkB (l.map (Zl f.Turn.toNat f.At)) else ([],16)
theorem qmd {b : qf} (h : vB b) : Zb b.Lo 1000000000000∧Zb b.Hi 1000000000000∧InV b.Lo (-1000000)∧InV b.Hi (-1000000)∧ltB b:=by
  unfold vB at h;unfold Zb InV ltB;omega
theorem qa1 {f : Y5} {t : Nat} (ht : f.Turn = t) (h24 : t < 24) (hf : FOk f) {v : qy} (hv : InV v (-1000000)) : q4h f v = some (if InV (Yd t f.At v) (-1000000) then (Yd t f.At v,0) else (zeroV,16)):=by
  unfold q4h
  simp only [qhp,qha,Option.bind_some,if_pos hf,show ((0 : Int) != 0) = false from rfl,cond_false,decide_eq_true hv,Bool.not_true]
  rw [qpe ht h24 (qib hf.2 (by omega)) (qib hv (by omega))]
  simp only [Option.bind_some]
  by_cases hi : InV (Yd t f.At v) (-1000000)
  · rw [if_pos hi];simp [hi]
  · rw [if_neg hi];simp [hi];rfl
theorem qs7 {l : List qf} (_ : l.length≤400) (P : qf→Prop) [DecidablePred P] (pl : qf→qf) (e : List qf × Int) (f : Int × List qf→Option ((Int × List qf) ⊕ ((List qf) ⊕ (List qf × Int))))
    (hok : ∀ k (h : k < l.length) (o : List qf),o.length = k→P l[k]→f ((k : Int),o) = some (.inl (((k + 1 : Nat) : Int),o ++ [pl l[k]])))
    (hbad : ∀ k (h : k < l.length) (o : List qf),o.length = k→¬ P l[k]→f ((k : Int),o) = some (.inr (.inr e)))
    (hd : ∀ o,f ((l.length : Int),o) = some (.inr (.inl o))) : loop f (0,[]) = some (if ∀ b∈l,P b then .inl (l.map pl) else .inr e):=by
  have main:=qao (f:=f) (fun k=>((k : Int),(l.take k).map pl)) l.length (fun j=>∀ b,l[j]? = some b→P b) (.inl (l.map pl)) (.inr e)
    (fun k hk hj=>by
      rw [hok k hk _ (by simp;omega) (hj k (Nat.le_refl _) _ (List.getElem?_eq_getElem hk)),List.take_succ_eq_append_getElem hk,List.map_append];rfl)
    (fun k hk _ hb=>hbad k hk _ (by simp;omega) fun h=>hb fun b hb=>by rw [List.getElem?_eq_getElem hk] at hb;cases hb;exact h)
    (fun _=>by rw [List.take_length,hd])
  have h00 : ((((0 : Nat) : Int),(l.take 0).map pl) : Int × List qf) = (0,[]):=rfl
  rw [h00] at main
  rcases main with ⟨h1,h2⟩ | ⟨j,hj,hb,h2⟩
  · rw [h2,if_pos]
    intro b hb
    obtain ⟨i,hi,rfl⟩:=List.getElem_of_mem hb
    exact h1 i hi _ (List.getElem?_eq_getElem hi)
  · rw [h2,if_neg]
    intro h
    exact hb fun b hb=>h b (List.mem_of_getElem? hb)
theorem qy2 (l : List qf) (f : Y5) (hf0 : 0≤f.Turn) : q99 l f = some (place l f):=by
  unfold q99 place
  rw [q98,Option.bind_some]
  by_cases h : ¬ Qi l = 0
  · have : (Qi l != 0) = true:=by simpa using h
    rw [if_pos h,this,cond_true]
  replace h:=Classical.not_not.1 h
  obtain ⟨hl,hv,hc⟩:=Ke.1 h
  rw [if_neg (by simp [h]),h,show ((0 : Int) != 0) = false from rfl,cond_false,qhp,Option.bind_some]
  by_cases hf : ¬ FOk f
  · rw [if_neg hf,if_pos hf];rfl
  replace hf:=Classical.not_not.1 hf
  rw [if_pos hf,if_neg (by simp [hf]),show ((0 : Int) != 0) = false from rfl,cond_false]
  have ht : f.Turn = (f.Turn.toNat : Int):=by omega
  have h24 : f.Turn.toNat < 24:=by have:=hf.1;omega
  rw [qs7 hl (fun b=>vB (Zl f.Turn.toNat f.At b)) (Zl f.Turn.toNat f.At) ([],16) (q3v l f) (fun k hk o ho hP=>by
      obtain ⟨w1,w2,w3,w4,w5⟩:=qmd (hv _ (List.getElem_mem hk))
      obtain ⟨p1,p2⟩:=(qmc h24 f.At w5).1 hP
      simp only [q3v,dlt hk,cond_true,Qk hk,Option.bind_some,qa1 ht h24 hf w3,qa1 ht h24 hf w4,if_pos p1,if_pos p2,show ((0 : Int) != 0) = false from rfl,cond_false,w64s hk (by omega)]
      rw [Kl (by simp;omega)];rfl) (fun k hk o ho hP=>by
      obtain ⟨w1,w2,w3,w4,w5⟩:=qmd (hv _ (List.getElem_mem hk))
      rw [qmc h24 f.At w5] at hP
      simp only [q3v,dlt hk,cond_true,Qk hk,Option.bind_some,qa1 ht h24 hf w3,qa1 ht h24 hf w4]
      by_cases p1 : InV (Yd f.Turn.toNat f.At l[k].Lo) (-1000000)
      · have p2 : ¬ InV (Yd f.Turn.toNat f.At l[k].Hi) (-1000000):=fun p2=>hP ⟨p1,p2⟩
        rw [if_pos p1,if_neg p2];rfl
      · rw [if_neg p1];rfl) (fun o=>by simp only [q3v,dnl,cond_false])]
  rw [Option.bind_some]
  by_cases hP : ∀ b∈l,vB (Zl f.Turn.toNat f.At b)
  · rw [if_pos hP,if_pos hP]
    simp only [ql9,Option.bind_some]
  · rw [if_neg hP,if_neg hP]
end Go.Sh
namespace Go.Sh
open Go Go.Am
theorem qzn (a b : Int) : w64 (a - w64 b) = w64 (a + -b):=by rw [qzo,Int.sub_eq_add_neg]
theorem q51 {x y : Int} (hx : -2000002≤x∧x≤2000002) (hy : -2000002≤y∧y≤2000002) : -4000008000004≤x * y∧x * y≤4000008000004:=by
  by_cases h1 : 0≤x
  · by_cases h2 : 0≤y
    · have:=Int.mul_le_mul hx.2 hy.2 h2 (by omega);have:=Int.mul_nonneg h1 h2;omega
    · have h3 : 0≤-y:=by omega
      have h4:=Int.mul_le_mul hx.2 (show -y≤2000002 by omega) h3 (by omega);have h5:=Int.mul_nonneg h1 h3;rw [Int.mul_neg] at h4 h5;omega
  · have h1' : 0≤-x:=by omega
    by_cases h2 : 0≤y
    · have h4:=Int.mul_le_mul (show -x≤2000002 by omega) hy.2 h2 (by omega);have h5:=Int.mul_nonneg h1' h2;rw [Int.neg_mul] at h4 h5;omega
    · have h3 : 0≤-y:=by omega
      have h4:=Int.mul_le_mul (show -x≤2000002 by omega) (show -y≤2000002 by omega) h3 (by omega);have h5:=Int.mul_nonneg h1' h3;rw [Int.neg_mul_neg] at h4 h5;omega
theorem qy6 {b c : qf} (hb : vB b) (hc : vB c) : q9c b c = some (Kf b c):=by
  unfold q9c Kf
  unfold vB at hb hc
  have wx : w64 (min b.Hi.X c.Hi.X - max b.Lo.X c.Lo.X) = min b.Hi.X c.Hi.X - max b.Lo.X c.Lo.X:=Q0 (by omega)
  have wy : w64 (min b.Hi.Y c.Hi.Y - max b.Lo.Y c.Lo.Y) = min b.Hi.Y c.Hi.Y - max b.Lo.Y c.Lo.Y:=Q0 (by omega)
  have wz : w64 (min b.Hi.Z c.Hi.Z - max b.Lo.Z c.Lo.Z) = min b.Hi.Z c.Hi.Z - max b.Lo.Z c.Lo.Z:=Q0 (by omega)
  simp only [wx,wy,wz]
  have bx : -2000002≤min b.Hi.X c.Hi.X - max b.Lo.X c.Lo.X∧min b.Hi.X c.Hi.X - max b.Lo.X c.Lo.X≤2000002:=by omega
  have bY : -2000002≤min b.Hi.Y c.Hi.Y - max b.Lo.Y c.Lo.Y∧min b.Hi.Y c.Hi.Y - max b.Lo.Y c.Lo.Y≤2000002:=by omega
  have bz : -2000002≤min b.Hi.Z c.Hi.Z - max b.Lo.Z c.Lo.Z∧min b.Hi.Z c.Hi.Z - max b.Lo.Z c.Lo.Z≤2000002:=by omega
  generalize min b.Hi.X c.Hi.X - max b.Lo.X c.Lo.X = x at *
  generalize min b.Hi.Y c.Hi.Y - max b.Lo.Y c.Lo.Y = y at *
  generalize min b.Hi.Z c.Hi.Z - max b.Lo.Z c.Lo.Z = z at *
  have p1:=q51 bY bz
  have p2:=q51 bx bz
  have p3:=q51 bx bY
  rw [Q0 (x:=y * z) (by omega),Q0 (x:=x * z) (by omega),Q0 (x:=x * y) (by omega)]
  by_cases x0 : x = 0
  · subst x0
    by_cases y0 : y > 0 <;> by_cases z0 : z > 0 <;> simp [y0,z0]
  · have ex : (x == 0) = false:=by simpa using x0
    by_cases x1 : x > 0
    · by_cases y0 : y = 0
      · subst y0
        by_cases z0 : z > 0 <;> simp [x0,ex,x1,z0]
      · have ey : (y == 0) = false:=by simpa using y0
        by_cases y1 : y > 0
        · by_cases z0 : z = 0
          · subst z0;simp [x0,ex,x1,y0,ey,y1]
          · have ez : (z == 0) = false:=by simpa using z0
            simp [x0,ex,x1,y0,ey,y1,z0,ez]
        · simp [x0,ex,x1,y0,ey,y1]
    · simp [x0,ex,x1]
theorem qp2 {b : qf} (h : vB b) : w64 (2 * (w64 ((w64 ((w64 ((w64 (b.Hi.X - b.Lo.X)) * (w64 (b.Hi.Y - b.Lo.Y)))) + (w64 ((w64 (b.Hi.X - b.Lo.X)) * (w64 (b.Hi.Z - b.Lo.Z)))))) + (w64 ((w64 (b.Hi.Y - b.Lo.Y)) * (w64 (b.Hi.Z - b.Lo.Z))))))) = Yq b:=by
  unfold vB at h
  rw [Q0 (x:=b.Hi.X - b.Lo.X) (by omega),Q0 (x:=b.Hi.Y - b.Lo.Y) (by omega),Q0 (x:=b.Hi.Z - b.Lo.Z) (by omega)]
  have p1:=q51 (x:=b.Hi.X - b.Lo.X) (y:=b.Hi.Y - b.Lo.Y) (by omega) (by omega)
  have p2:=q51 (x:=b.Hi.X - b.Lo.X) (y:=b.Hi.Z - b.Lo.Z) (by omega) (by omega)
  have p3:=q51 (x:=b.Hi.Y - b.Lo.Y) (y:=b.Hi.Z - b.Lo.Z) (by omega) (by omega)
  unfold Yq
  rw [Q0 (x:=(b.Hi.X - b.Lo.X) * (b.Hi.Y - b.Lo.Y)) (by omega),Q0 (x:=(b.Hi.X - b.Lo.X) * (b.Hi.Z - b.Lo.Z)) (by omega),Q0 (x:=(b.Hi.Y - b.Lo.Y) * (b.Hi.Z - b.Lo.Z)) (by omega)]
  rw [Q0 (x:=(b.Hi.X - b.Lo.X) * (b.Hi.Y - b.Lo.Y) + (b.Hi.X - b.Lo.X) * (b.Hi.Z - b.Lo.Z)) (by omega),Q0 (x:=(b.Hi.X - b.Lo.X) * (b.Hi.Y - b.Lo.Y) + (b.Hi.X - b.Lo.X) * (b.Hi.Z - b.Lo.Z) + (b.Hi.Y - b.Lo.Y) * (b.Hi.Z - b.Lo.Z)) (by omega),Q0 (by omega)]
theorem qz8 {l : List qf} (hl : l.length≤1000000) (hv : ∀ c∈l,vB c) {b : qf} (hb : vB b) (n m : Int) (hn : n = w64 m) :
    loop (q3x l b) (n,0) = some (w64 (m - 2 * sumL (fun c=>Kf b c) l)):=by
  rw [qhh l hl (fun n c=>w64 (n + (-2) * (if vB c then Kf b c else 0))) (fun n=>n) (q3x l b) (fun k hk s=>by
    have hc:=hv _ (List.getElem_mem hk)
    simp only [q3x,dlt hk,cond_true,Qk hk,Option.bind_some,qy6 hb hc,w64s hk hl,if_pos hc]
    rw [qzn]
    have : -(2 * Kf b l[k]) = -2 * Kf b l[k]:=by omega
    rw [this]) (fun s=>by simp only [q3x,dnl,cond_false]) n]
  rw [qdd (fun c=>-2 * (if vB c then Kf b c else 0)) l n m hn,qc4,q19 (g:=fun c=>Kf b c) fun c hc=>by rw [if_pos (hv c hc)]]
  congr 2
  omega
theorem qz9 {l : List qf} (hl : l.length≤400) (hv : ∀ c∈l,vB c) : loop (q3w l) (0,0) = some (w64 (q1b l)):=by
  have key:=Zj (f:=q3w l) (fun k=>(w64 (sumL Yq (l.take k) - 2 * Z6 Kf l k),(k : Int))) l.length (w64 (q1b l)) (fun k hk=>by
    have hb:=hv _ (List.getElem_mem hk)
    have hz : slc l 0 (k : Int) = some (l.take k):=by
      unfold slc;rw [if_pos (by omega)];simp
    have hin:=qz8 (l:=l.take k) (by rw [List.length_take];omega) (fun c hc=>hv c (List.mem_of_mem_take hc)) hb (w64 (w64 (sumL Yq (l.take k) - 2 * Z6 Kf l k) + Yq l[k])) (sumL Yq (l.take k) - 2 * Z6 Kf l k + Yq l[k]) (qmi _ _)
    simp only [q3w,dlt hk,cond_true,Qk hk,Option.bind_some,q6u,hz,qp2 hb,hin,w64s hk (by omega)]
    congr 3
    rw [List.take_succ_eq_append_getElem hk,q9m]
    simp only [Z6,List.getElem?_eq_getElem hk,sumL,Int.add_zero]
    congr 1
    omega) (by
    simp only [q3w,dnl,cond_false,List.take_length];rfl) (Nat.zero_le _)
  have h0 : (w64 (sumL Yq (l.take 0) - 2 * Z6 Kf l 0),((0 : Nat) : Int)) = ((0 : Int),(0 : Int)):=by
    simp [sumL,Z6]
    exact Q0 (by omega)
  rw [h0] at key
  exact key
theorem qog (b c : qf) : 0≤Kf b c:=by
  unfold Kf
  simp only
  split
  · rename_i h;exact Int.mul_nonneg (by omega) (by omega)
  · split
    · rename_i h;exact Int.mul_nonneg (by omega) (by omega)
    · split
      · rename_i h;exact Int.mul_nonneg (by omega) (by omega)
      · exact Int.le_refl _
noncomputable def qc8 (l : List qf) : Int × Int:=if Qi l≠0 then (0,Qi l) else (q1b l,0)
theorem qz7 (N : Nat) (P : Int→Int→Int→Prop) : 0≤q9n N P:=by
  unfold q9n
  have:=fun Q=>(qgf N Q).1
  have h1:=this fun x y z=>P x y z∧¬ P (x + 1) y z
  have h2:=this fun x y z=>P x y z∧¬ P (x - 1) y z
  have h3:=this fun x y z=>P x y z∧¬ P x (y + 1) z
  have h4:=this fun x y z=>P x y z∧¬ P x (y - 1) z
  have h5:=this fun x y z=>P x y z∧¬ P x y (z + 1)
  have h6:=this fun x y z=>P x y z∧¬ P x y (z - 1)
  omega
theorem qz4 {l : List qf} (h : Qi l = 0) : 0≤q1b l∧q1b l≤9600000000000000000 / 1000:=by
  obtain ⟨h1,h2,h3⟩:=Ke.1 h
  refine ⟨by rw [qz5 h3 h2];exact qz7 _ _,?_⟩
  have hp : ∀ n,0≤Z6 Kf l n:=by
    intro n
    induction n with
    | zero=>exact Int.le_refl _
    | succ n ih=>
      rw [Z6]
      have : ∀ (b : qf) (l : List qf),0≤sumL (fun c=>Kf b c) l:=fun b l=>by
        induction l with
        | nil=>exact Int.le_refl _
        | cons c l ih=>rw [sumL];have:=qog b c;omega
      split
      · rename_i b _;have:=this b (l.take n);omega
      · omega
  have hf : ∀ l : List qf,(∀ b∈l,vB b)→sumL Yq l≤l.length * 24000000000000:=by
    intro l
    induction l with
    | nil=>intro _;exact Int.le_refl _
    | cons b l ih=>
      intro hv
      have i1:=ih fun c hc=>hv c (by simp [hc])
      have hb:=hv b (by simp)
      unfold vB at hb
      have p1:=(qaz (x:=b.Hi.X - b.Lo.X) (y:=b.Hi.Y - b.Lo.Y) (z:=0) (by omega) (by omega) (by omega)).1
      have p2:=(qaz (x:=b.Hi.X - b.Lo.X) (y:=b.Hi.Z - b.Lo.Z) (z:=0) (by omega) (by omega) (by omega)).1
      have p3:=(qaz (x:=b.Hi.Y - b.Lo.Y) (y:=b.Hi.Z - b.Lo.Z) (z:=0) (by omega) (by omega) (by omega)).1
      have : Yq b≤24000000000000:=by unfold Yq;omega
      rw [sumL,List.length_cons]
      omega
  have:=hf l h2
  have:=hp l.length
  unfold q1b
  omega
theorem qy4 (l : List qf) : q9a l = some (qc8 l):=by
  unfold q9a qc8
  rw [q98,Option.bind_some]
  by_cases h : ¬ Qi l = 0
  · have : (Qi l != 0) = true:=by simpa using h
    rw [if_pos h,this,cond_true]
  replace h:=Classical.not_not.1 h
  obtain ⟨hl,hv,hc⟩:=Ke.1 h
  have:=qz4 h
  rw [if_neg (by simp [h]),h,show ((0 : Int) != 0) = false from rfl,cond_false,qz9 hl hv,Q0 (by omega)];rfl
end Go.Sh
namespace Go.Sh
open Go Go.Am
def grpR : List qg→List (Grp qh)
  | []=>[]
  | r::l=>match grpR l with
    | g::gs=>if g.lo = r.X0∧g.hi = r.X1 then ⟨g.lo,g.hi,ysp r::g.sec⟩::gs else ⟨r.X0,r.X1,[ysp r]⟩::g::gs
    | []=>[⟨r.X0,r.X1,[ysp r]⟩]
def grpB : List qf→List (Grp qg)
  | []=>[]
  | r::l=>match grpB l with
    | g::gs=>if g.lo = r.Lo.Z∧g.hi = r.Hi.Z then ⟨g.lo,g.hi,Zo r::g.sec⟩::gs else ⟨r.Lo.Z,r.Hi.Z,[Zo r]⟩::g::gs
    | []=>[⟨r.Lo.Z,r.Hi.Z,[Zo r]⟩]
theorem qi4 : ∀ l : List qg,Kb putR (grpR l) = l
  | []=>rfl
  | r::l=>by
    have ih:=qi4 l
    unfold grpR
    split
    · rename_i g gs h
      rw [h] at ih
      split
      · rename_i h1
        obtain ⟨h1,h2⟩:=h1
        rw [← ih]
        simp only [Kb,List.flatMap_cons,List.map_cons,List.cons_append,h1,h2]
        congr 1
      · rw [← ih];rfl
    · rename_i h
      rw [h] at ih
      rw [← ih];rfl
theorem qi3 : ∀ l : List qf,Kb putB (grpB l) = l
  | []=>rfl
  | r::l=>by
    have ih:=qi3 l
    unfold grpB
    split
    · rename_i g gs h
      rw [h] at ih
      split
      · rename_i h1
        obtain ⟨h1,h2⟩:=h1
        rw [← ih]
        simp only [Kb,List.flatMap_cons,List.map_cons,List.cons_append,h1,h2]
        congr 1
      · rw [← ih];rfl
    · rename_i h
      rw [h] at ih
      rw [← ih];rfl
instance {σ : Type} [DecidableEq σ] (gs : List (Grp σ)) : Decidable (CanG gs):=by unfold CanG;infer_instance
instance (s : List qh) : Decidable (Can s):=by unfold Can;infer_instance
def isR (l : List qg) : Prop:=CanG (grpR l)∧∀ g∈grpR l,Can g.sec
instance (l : List qg) : Decidable (isR l):=by unfold isR;infer_instance
def isB (l : List qf) : Prop:=CanG (grpB l)∧∀ g∈grpB l,isR g.sec
instance (l : List qf) : Decidable (isB l):=by unfold isB;infer_instance
theorem isR.can {l : List qg} (h : isR l) : CanR l:=⟨grpR l,(qi4 l).symm,h.1,h.2⟩
theorem isB.can {l : List qf} (h : isB l) : CanB l:=⟨grpB l,(qi3 l).symm,h.1,fun g hg=>(h.2 g hg).can⟩
theorem qo0 {l : List qf} (h : l.length≤400∧(∀ b∈l,vB b)∧isB l) : Qi l = 0:=Ke.2 ⟨h.1,h.2.1,h.2.2.can⟩
theorem qj5 {kind : Int} {p q out : List qf} (h : p.length + q.length≤100000) (ho : CanB out) (he : ∀ x y z,Qt kind (hasB p x y z) (hasB q x y z)↔hasB out x y z) : mrgB kind p q = out:=
  qg7 (qat kind h) ho fun x y z=>by rw [q4k kind h];exact he x y z
theorem qj3 {l out : List qf} (h : l.length≤400∧(∀ b∈l,vB b)∧out.length≤400) (ho : isB out) (he : ∀ x y z,hasB l x y z↔hasB out x y z) : mkB l = (out,0):=by
  have e : mrgB 2 l [] = out:=qj5 (by simp;omega) ho.can fun x y z=>by rw [q7n,← he];simp [q4l]
  unfold mkB
  rw [if_neg (by omega),if_pos h.2.1,e,if_neg (by omega)]
theorem qnz {kind : Int} {p q : List qf} (hp : Qi p = 0) (hq : Qi q = 0) (hl : (mrgB kind p q).length≤400) : Qi (mrgB kind p q) = 0:=by
  obtain ⟨lp,vp,cp⟩:=Ke.1 hp
  obtain ⟨lq,vq,cq⟩:=Ke.1 hq
  have hc:=qat kind (p:=p) (q:=q) (by omega)
  exact Ke.2 ⟨hl,hc.vB (InB.mrg (by omega) (qmb vp) (qmb vq)),hc⟩
theorem q1r (kind : Int) {p q : List qf} (hp : Qi p = 0) (hq : Qi q = 0) :
    jB kind p q = ([],4)∨(jB kind p q = (mrgB kind p q,0)∧Qi (mrgB kind p q) = 0∧∀ x y z,hasB (mrgB kind p q) x y z↔Qt kind (hasB p x y z) (hasB q x y z)):=by
  have lp:=(Ke.1 hp).1
  have lq:=(Ke.1 hq).1
  unfold jB
  rw [if_neg (by simp [hp]),if_neg (by simp [hq])]
  by_cases h : 400 < (mrgB kind p q).length
  · exact .inl (by rw [if_pos h])
  · exact .inr ⟨by rw [if_neg h],qnz hp hq (by omega),q4k kind (by omega)⟩
theorem qif {kind : Int} {p q out : List qf} (hp : Qi p = 0) (hq : Qi q = 0) (ho : CanB out) (hl : out.length≤400) (he : ∀ x y z,Qt kind (hasB p x y z) (hasB q x y z)↔hasB out x y z) : jB kind p q = (out,0):=by
  have lp:=(Ke.1 hp).1
  have lq:=(Ke.1 hq).1
  have e:=qj5 (kind:=kind) (p:=p) (q:=q) (by omega) ho he
  unfold jB
  rw [if_neg (by simp [hp]),if_neg (by simp [hq]),e,if_neg (by omega)]
def bx (x y z u v w : Int) : qf:={Lo:=({X:=x,Y:=y,Z:=z} : qy),Hi:=({X:=u,Y:=v,Z:=w} : qy)}
def Y8 : List qf:=[bx 0 0 0 2 2 1,bx 0 0 1 1 2 2]
theorem axT9 : axT 9 = (⟨0,1,0⟩,⟨-1,0,0⟩,⟨0,0,1⟩):=by decide +kernel
theorem qft : q4r = some true:=by
  have hst : Uu = some Y8:=rfl
  have hc : Qi Y8 = 0:=qo0 (by decide)
  have hv : volume Y8 = (6,0):=by unfold volume;rw [if_neg (by simp [hc])];rfl
  have hs : qc8 Y8 = (22,0):=by unfold qc8;rw [if_neg (by simp [hc])];rfl
  have hpl : place Y8 ({Turn:=9,At:=({X:=0,Y:=0,Z:=0} : qy)} : Y5) = ([bx (-2) 0 0 0 2 1,bx (-2) 0 1 0 1 2],0):=by
    have e : Y8.map (Zl 9 ⟨0,0,0⟩) = [bx (-2) 0 0 0 2 1,bx (-2) 0 1 0 1 2]:=by
      simp only [Y8,List.map_cons,List.map_nil,Zl,Yd,axT9];rfl
    have e2 : ∀ b∈Y8,vB (Zl 9 ⟨0,0,0⟩ b):=by
      have : ∀ b∈Y8.map (Zl 9 ⟨0,0,0⟩),vB b:=by rw [e];decide
      intro b hb;exact this _ (List.mem_map_of_mem hb)
    unfold place
    rw [if_neg (by simp [hc]),if_neg (by unfold FOk InV;decide)]
    rw [if_pos (show ∀ b∈Y8,vB (Zl (Int.toNat 9) ⟨0,0,0⟩ b) from e2)]
    show mkB (Y8.map (Zl 9 ⟨0,0,0⟩)) = _
    rw [e]
    exact qj3 (by decide) (by decide) fun x y z=>Iff.rfl
  have hm : mkB [bx 0 0 0 1 2 2,bx 1 0 0 2 2 1] = (Y8,0):=qj3 (by decide) (by decide) fun x y z=>by
    simp only [Y8,qi5,q4l,or_false,inB,bx];omega
  unfold q4r
  simp only [hst,Option.bind_some,qlb,hv,qy4,hs,qy2 _ _ (show (0 : Int)≤(({Turn:=9,At:=({X:=0,Y:=0,Z:=0} : qy)} : Y5)).Turn by decide),hpl,
    show J4 0 0 0 1 2 2 = some (bx 0 0 0 1 2 2) from rfl,show J4 1 0 0 2 2 1 = some (bx 1 0 0 2 2 1) from rfl,ql9,hm,
    show J4 (-2) 0 0 0 2 1 = some (bx (-2) 0 0 0 2 1) from rfl,show J4 (-2) 0 1 0 1 2 = some (bx (-2) 0 1 0 1 2) from rfl,
    sameBox _ _ (show [bx (-2) 0 0 0 2 1,bx (-2) 0 1 0 1 2].length≤1000000 by simp),sameBox _ _ (show Y8.length≤1000000 by simp [Y8]),decide_true,beq_self_eq_true,cond_true,
    qbr Y8 _ (show Y8.length≤1000000 by simp [Y8]),
    show decide (hasB Y8 0 0 1) = true by decide,show decide (hasB Y8 1 0 1) = false by decide,Bool.not_false]
theorem qhe (p q : List qf) : q4t p q = some (decide ((p.length≤30∧q.length≤30)∧Qi p = 0∧Qi q = 0)):=by
  unfold q4t
  simp only [qk3,Option.bind_some]
  by_cases h1 : p.length≤30
  · by_cases h2 : q.length≤30
    · rw [decide_eq_true (by omega : (p.length : Int)≤30),decide_eq_true (by omega : (q.length : Int)≤30)]
      simp only [cond_true,Option.bind_some]
      congr 1
      by_cases hp : Qi p = 0
      · rw [if_neg (by simp [hp])]
        by_cases hq : Qi q = 0
        · rw [hq];exact (decide_eq_true ⟨⟨h1,h2⟩,hp,rfl⟩).symm
        · rw [show (Qi q == 0) = false by simpa using hq];exact (decide_eq_false fun h=>hq h.2.2).symm
      · rw [if_pos hp,show (Qi p == 0) = false by simpa using hp];exact (decide_eq_false fun h=>hp h.2.1).symm
    · rw [decide_eq_true (by omega : (p.length : Int)≤30),decide_eq_false (by omega : ¬ (q.length : Int)≤30)]
      simp only [cond_true,cond_false,Option.bind_some]
      congr 1
      exact (decide_eq_false fun h=>h2 h.1.2).symm
  · rw [decide_eq_false (by omega : ¬ (p.length : Int)≤30)]
    simp only [cond_false,Option.bind_some]
    congr 1
    exact (decide_eq_false fun h=>h1 h.1.1).symm
instance (kind : Int) (a b : Prop) [Decidable a] [Decidable b] : Decidable (Qt kind a b):=by unfold Qt;infer_instance
theorem qed (kind : Int) {p q : List qf} (hp : Qi p = 0) (hq : Qi q = 0) (v : qy) (K : Option Bool) (hK : K = some (decide (Qt kind (hasB p v.X v.Y v.Z) (hasB q v.X v.Y v.Z)))) :
    ((cond ((jB kind p q).2 == 0) ((some (Qi (jB kind p q).1)).bind fun r61=>(cond (r61 != 0) (some true) ((Jc (jB kind p q).1 v).bind fun r80=>K.bind fun c82=>some (!(r80 == c82)))).bind fun c69=>some c69) (some false)) : Option Bool) = some false:=by
  rcases q1r kind hp hq with h | ⟨h1,h2,h3⟩
  · rw [h];rfl
  · have hl:=(Ke.1 h2).1
    rw [h1,hK]
    simp only [beq_self_eq_true,cond_true,h2,Option.bind_some,show ((0 : Int) != 0) = false from rfl,cond_false,qbr _ v (by omega : (mrgB kind p q).length≤1000000)]
    have : decide (hasB (mrgB kind p q) v.X v.Y v.Z) = decide (Qt kind (hasB p v.X v.Y v.Z) (hasB q v.X v.Y v.Z)):=decide_eq_decide.2 (h3 _ _ _)
    rw [this];simp
theorem qdp (kind : Int) {p q : List qf} (hp : Qi p = 0) (hq : Qi q = 0) : ((cond ((jB kind p q).2 == 0) (some true) (some ((jB kind p q).2 == 4))) : Option Bool) = some true:=by
  rcases q1r kind hp hq with h | ⟨h1,_,_⟩
  · rw [h];rfl
  · rw [h1];rfl
theorem q10d (p q : List qf) (v : qy) : qam p q v = some true:=by
  unfold qam
  simp only [qft,qhe,Option.bind_some]
  by_cases h : (p.length≤30∧q.length≤30)∧Qi p = 0∧Qi q = 0
  · rw [decide_eq_true h]
    obtain ⟨⟨l1,l2⟩,hp,hq⟩:=h
    have k2 : ((cond (decide (hasB p v.X v.Y v.Z)) (some true) (some (decide (hasB q v.X v.Y v.Z)))) : Option Bool) = some (decide (Qt 2 (hasB p v.X v.Y v.Z) (hasB q v.X v.Y v.Z))):=by
      by_cases a : hasB p v.X v.Y v.Z <;> by_cases b : hasB q v.X v.Y v.Z <;> simp [a,b,Qt]
    have k1 : ((cond (decide (hasB p v.X v.Y v.Z)) (some (decide (hasB q v.X v.Y v.Z))) (some false)) : Option Bool) = some (decide (Qt 1 (hasB p v.X v.Y v.Z) (hasB q v.X v.Y v.Z))):=by
      by_cases a : hasB p v.X v.Y v.Z <;> by_cases b : hasB q v.X v.Y v.Z <;> simp [a,b,Qt]
    have k3 : ((cond (decide (hasB p v.X v.Y v.Z)) (some (!(decide (hasB q v.X v.Y v.Z)))) (some false)) : Option Bool) = some (decide (Qt 3 (hasB p v.X v.Y v.Z) (hasB q v.X v.Y v.Z))):=by
      by_cases a : hasB p v.X v.Y v.Z <;> by_cases b : hasB q v.X v.Y v.Z <;> simp [a,b,Qt]
    simp only [Bool.not_true,cond_false,Option.bind_some,qf5,qf2,qf3,qbr p v (by omega),qbr q v (by omega),q98]
    have c2:=qed 2 hp hq v _ k2
    have c1:=qed 1 hp hq v _ k1
    have c3:=qed 3 hp hq v _ k3
    simp only [Option.bind_some] at c1 c2 c3
    simp only [c2,c1,c3,Option.bind_some,cond_false,qdp 2 hp hq,qdp 1 hp hq,qdp 3 hp hq,cond_true]
  · simp only [decide_eq_false h,Bool.not_false,cond_true,Option.bind_some]
theorem qzm {p q : List qf} (hp : Qi p = 0) (hq : Qi q = 0) (h2 : Qi (mrgB 2 p q) = 0) (h1 : Qi (mrgB 1 p q) = 0) : volL (mrgB 2 p q) + volL (mrgB 1 p q) = volL p + volL q:=by
  obtain ⟨lp,vp,cp⟩:=Ke.1 hp
  obtain ⟨lq,vq,cq⟩:=Ke.1 hq
  obtain ⟨la,va,ca⟩:=Ke.1 h2
  obtain ⟨lb,vb,cb⟩:=Ke.1 h1
  have e1 : cnt3 1000000 (hasB (mrgB 2 p q)) = cnt3 1000000 (fun x y z=>hasB p x y z∨hasB q x y z):=qgg fun x y z _ _ _=>by rw [q4k 2 (by omega),q7n]
  have e2 : cnt3 1000000 (hasB (mrgB 1 p q)) = cnt3 1000000 (fun x y z=>hasB p x y z∧hasB q x y z):=qgg fun x y z _ _ _=>by rw [q4k 1 (by omega),qaj]
  rw [q9t cp vp,q9t cq vq,q9t ca va,q9t cb vb,e1,e2]
  exact qo6 _ _
theorem q10e (p q : List qf) : qan p q = some true:=by
  unfold qan
  simp only [qft,qhe,Option.bind_some]
  by_cases h : (p.length≤30∧q.length≤30)∧Qi p = 0∧Qi q = 0
  · rw [decide_eq_true h]
    obtain ⟨⟨l1,l2⟩,hp,hq⟩:=h
    simp only [Bool.not_true,cond_false,Option.bind_some,qf5,qf2,qf3,qlb]
    rcases q1r 2 hp hq with e2 | ⟨e2,c2,m2⟩
    · rw [e2]
      rcases q1r 1 hp hq with e1 | ⟨e1,c1,m1⟩ <;> rcases q1r 3 hp hq with e3 | ⟨e3,c3,m3⟩ <;> rw [e1,e3] <;> rfl
    · rcases q1r 1 hp hq with e1 | ⟨e1,c1,m1⟩
      · rw [e2,e1]
        rcases q1r 3 hp hq with e3 | ⟨e3,c3,m3⟩ <;> rw [e3] <;> rfl
      · rcases q1r 3 hp hq with e3 | ⟨e3,c3,m3⟩
        · rw [e2,e1,e3];rfl
        · rw [e2,e1,e3]
          have hv:=qzm hp hq c2 c1
          have b1:=q9s c2
          have b2:=q9s c1
          have b3:=q9s hp
          have b4:=q9s hq
          have u2 : jB 2 (mrgB 1 p q) (mrgB 3 p q) = (p,0):=qif c1 c3 (Ke.1 hp).2.2 (by omega) fun x y z=>by
            rw [q7n,m1,m3,qaj,qi9]
            by_cases a : hasB p x y z <;> by_cases b : hasB q x y z <;> simp [a,b]
          have u1 : jB 1 (mrgB 1 p q) (mrgB 3 p q) = ([],0):=qif c1 c3 .nil (by simp) fun x y z=>by
            rw [qaj,m1,m3,qaj,qi9]
            have:=q4l x y z
            by_cases a : hasB p x y z <;> by_cases b : hasB q x y z <;> simp [a,b,this]
          have w : w64 (volL (mrgB 2 p q) - volL p) = w64 (volL q - volL (mrgB 1 p q)):=by congr 1;omega
          simp only [u2,u1,volume,c2,c1,hp,hq,ne_eq,not_true_eq_false,if_false,show ((0 : Int) != 0) = false from rfl,cond_false,Option.bind_some,beq_self_eq_true,cond_true,w,sameBox p p (by omega),decide_true]
          rfl
  · simp only [decide_eq_false h,Bool.not_false,cond_true,Option.bind_some]
end Go.Sh
