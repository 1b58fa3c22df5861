/- Qb2 Pf3 Rs5 Rs6 Rs7 Rs8 -/
import Derived.Test.YtjjmcdlnadkjbaaGreatK17
namespace Go.Sh
open Go Go.Am
def qbz {α : Type} (f : α→α→Int) (l : List α) : Nat→Int
  | 0=>0
  | n + 1=>qbz f l n + (match l[n]? with
    | some b=>sumL (fun c=>f b c) (l.take n)
    | none=>0)
theorem que {α : Type} (f : α→α→Int) (hs : ∀ a b,f a b = f b a) (l : List α) : ∀ n,n≤l.length→
    sumL (fun b=>sumL (fun c=>f b c) (l.take n)) (l.take n) = sumL (fun b=>f b b) (l.take n) + 2 * qbz f l n
  | 0,_=>by simp [sumL,qbz]
  | n + 1,h=>by
    have ih:=que f hs l n (by omega)
    rw [List.take_succ_eq_append_getElem (by omega)]
    simp only [qbo,sumL,Int.add_zero,qbz,List.getElem?_eq_getElem (show n < l.length by omega),qos]
    have : sumL (fun b=>f b l[n]) (l.take n) = sumL (fun c=>f l[n] c) (l.take n):=q7h fun b _=>hs b _
    rw [this]
    omega
theorem qxc {α : Type} (f g : α→α→Int) {l : List α} (hp : l.Pairwise fun a b=>f a b = g a b∧f b a = g b a) : ∀ n,n≤l.length→
    sumL (fun b=>sumL (fun c=>f b c - g b c) (l.take n)) (l.take n) = sumL (fun b=>f b b - g b b) (l.take n)
  | 0,_=>by simp [sumL]
  | n + 1,h=>by
    have ih:=qxc f g hp n (by omega)
    have hq:=List.pairwise_iff_getElem.1 hp
    rw [List.take_succ_eq_append_getElem (by omega)]
    simp only [qbo,sumL,Int.add_zero,qos,ih]
    have hm : ∀ b∈l.take n,f b l[n] = g b l[n]∧f l[n] b = g l[n] b:=fun b hb=>by
      obtain ⟨i,hi,rfl⟩:=List.getElem_of_mem hb
      rw [List.length_take] at hi
      rw [List.getElem_take]
      exact hq i n (by omega) (by omega) (by omega)
    have s1 : sumL (fun b=>f b l[n] - g b l[n]) (l.take n) = 0:=(q7h (g:=fun _=>0) fun b hb=>by have:=hm b hb;omega).trans (qs2 _)
    have s2 : sumL (fun c=>f l[n] c - g l[n] c) (l.take n) = 0:=(q7h (g:=fun _=>0) fun b hb=>by have:=hm b hb;omega).trans (qs2 _)
    omega
theorem qtx {a b c : Prop} : ind (a∧b∧c) = ind a * (ind b * ind c):=by rw [qf1,qf1]
def ov (a0 a1 b0 b1 : Int) : Int:=max 0 (min a1 b1 - max a0 b0)
theorem qqy {N : Nat} {a0 a1 b0 b1 : Int} (h1 : -N≤a0) (h2 : a1≤N) : sumZ N (fun x=>ind (a0≤x∧x < a1) * ind (b0≤x∧x < b1)) = ov a0 a1 b0 b1:=by
  have : (fun x : Int=>ind (a0≤x∧x < a1) * ind (b0≤x∧x < b1)) = fun x=>ind (max a0 b0≤x∧x < min a1 b1):=by
    funext x
    rw [← qf1]
    exact q9q ⟨fun h=>by omega,fun h=>by omega⟩
  rw [this]
  unfold ov
  by_cases h : max a0 b0≤min a1 b1
  · by_cases hb : b0≤a1∧a0≤b1
    · rw [qfh (by omega) h (by omega)];omega
    · omega
  · have : (fun x : Int=>ind (max a0 b0≤x∧x < min a1 b1)) = fun _=>0:=by
      funext x;exact q8w (by omega)
    rw [this,qm3];omega
theorem q13w {N : Nat} {b : q8} {cx0 cx1 cy0 cy1 cz0 cz1 : Int} (h : (-(N : Int)≤b.Lo.X∧-(N : Int)≤b.Lo.Y∧-(N : Int)≤b.Lo.Z)∧b.Hi.X≤N∧b.Hi.Y≤N∧b.Hi.Z≤N) :
    (sumZ N fun x=>sumZ N fun y=>sumZ N fun z=>ind (inB b x y z) * ind ((cx0≤x∧x < cx1)∧(cy0≤y∧y < cy1)∧(cz0≤z∧z < cz1))) = ov b.Lo.X b.Hi.X cx0 cx1 * (ov b.Lo.Y b.Hi.Y cy0 cy1 * ov b.Lo.Z b.Hi.Z cz0 cz1):=by
  obtain ⟨⟨h4,h5,h6⟩,h7,h8,h9⟩:=h
  have e : ∀ x y,(sumZ N fun z=>ind (inB b x y z) * ind ((cx0≤x∧x < cx1)∧(cy0≤y∧y < cy1)∧(cz0≤z∧z < cz1))) = (ind (b.Lo.X≤x∧x < b.Hi.X) * ind (cx0≤x∧x < cx1)) * ((ind (b.Lo.Y≤y∧y < b.Hi.Y) * ind (cy0≤y∧y < cy1)) * ov b.Lo.Z b.Hi.Z cz0 cz1):=fun x y=>by
    have : (fun z=>ind (inB b x y z) * ind ((cx0≤x∧x < cx1)∧(cy0≤y∧y < cy1)∧(cz0≤z∧z < cz1))) = fun z=>(ind (b.Lo.X≤x∧x < b.Hi.X) * ind (cx0≤x∧x < cx1)) * ((ind (b.Lo.Y≤y∧y < b.Hi.Y) * ind (cy0≤y∧y < cy1)) * (ind (b.Lo.Z≤z∧z < b.Hi.Z) * ind (cz0≤z∧z < cz1))):=by
      funext z;unfold inB;rw [qtx,qtx]
      simp only [Int.mul_assoc,Int.mul_left_comm,Int.mul_comm]
    rw [this,q9a,q9a,qqy h6 h9]
  have e2 : ∀ x,(sumZ N fun y=>sumZ N fun z=>ind (inB b x y z) * ind ((cx0≤x∧x < cx1)∧(cy0≤y∧y < cy1)∧(cz0≤z∧z < cz1))) = (ov b.Lo.Y b.Hi.Y cy0 cy1 * ov b.Lo.Z b.Hi.Z cz0 cz1) * (ind (b.Lo.X≤x∧x < b.Hi.X) * ind (cx0≤x∧x < cx1)):=fun x=>by
    have : (fun y=>sumZ N fun z=>ind (inB b x y z) * ind ((cx0≤x∧x < cx1)∧(cy0≤y∧y < cy1)∧(cz0≤z∧z < cz1))) = fun y=>((ind (b.Lo.X≤x∧x < b.Hi.X) * ind (cx0≤x∧x < cx1)) * ov b.Lo.Z b.Hi.Z cz0 cz1) * (ind (b.Lo.Y≤y∧y < b.Hi.Y) * ind (cy0≤y∧y < cy1)):=by
      funext y;rw [e];simp only [Int.mul_assoc,Int.mul_left_comm,Int.mul_comm]
    rw [this,q9a,qqy h5 h8]
    simp only [Int.mul_assoc,Int.mul_left_comm,Int.mul_comm]
  simp only [e2]
  rw [q9a,qqy h4 h7,Int.mul_comm]
def qes (b c : q8) : Int:=
  ov b.Lo.X b.Hi.X (c.Lo.X - 1) (c.Hi.X - 1) * (ov b.Lo.Y b.Hi.Y c.Lo.Y c.Hi.Y * ov b.Lo.Z b.Hi.Z c.Lo.Z c.Hi.Z) + ov b.Lo.X b.Hi.X (c.Lo.X + 1) (c.Hi.X + 1) * (ov b.Lo.Y b.Hi.Y c.Lo.Y c.Hi.Y * ov b.Lo.Z b.Hi.Z c.Lo.Z c.Hi.Z) +
  (ov b.Lo.X b.Hi.X c.Lo.X c.Hi.X * (ov b.Lo.Y b.Hi.Y (c.Lo.Y - 1) (c.Hi.Y - 1) * ov b.Lo.Z b.Hi.Z c.Lo.Z c.Hi.Z) + ov b.Lo.X b.Hi.X c.Lo.X c.Hi.X * (ov b.Lo.Y b.Hi.Y (c.Lo.Y + 1) (c.Hi.Y + 1) * ov b.Lo.Z b.Hi.Z c.Lo.Z c.Hi.Z)) +
  (ov b.Lo.X b.Hi.X c.Lo.X c.Hi.X * (ov b.Lo.Y b.Hi.Y c.Lo.Y c.Hi.Y * ov b.Lo.Z b.Hi.Z (c.Lo.Z - 1) (c.Hi.Z - 1)) + ov b.Lo.X b.Hi.X c.Lo.X c.Hi.X * (ov b.Lo.Y b.Hi.Y c.Lo.Y c.Hi.Y * ov b.Lo.Z b.Hi.Z (c.Lo.Z + 1) (c.Hi.Z + 1)))
def q3q (a b : q8) : Int:=
  let x:=min a.Hi.X b.Hi.X - max a.Lo.X b.Lo.X
  let y:=min a.Hi.Y b.Hi.Y - max a.Lo.Y b.Lo.Y
  let z:=min a.Hi.Z b.Hi.Z - max a.Lo.Z b.Lo.Z
  if x = 0∧y > 0∧z > 0 then y * z else if x > 0∧y = 0∧z > 0 then x * z else if x > 0∧y > 0∧z = 0 then x * y else 0
theorem qs6 (a b : q8) : q3q a b = q3q b a:=by
  unfold q3q
  simp only [Int.min_comm b.Hi.X,Int.max_comm b.Lo.X,Int.min_comm b.Hi.Y,Int.max_comm b.Lo.Y,Int.min_comm b.Hi.Z,Int.max_comm b.Lo.Z]
def ltB (b : q8) : Prop:=b.Lo.X < b.Hi.X∧b.Lo.Y < b.Hi.Y∧b.Lo.Z < b.Hi.Z
theorem ov3 {a0 a1 b0 b1 : Int} (ha : a0 < a1) (hb : b0 < b1) :
    (min a1 b1 - max a0 b0 < 0∧ov a0 a1 b0 b1 = 0∧ov a0 a1 (b0 - 1) (b1 - 1) + ov a0 a1 (b0 + 1) (b1 + 1) = 0∧ov a0 a1 (b0 - 1) (b1 - 1) = 0∧ov a0 a1 (b0 + 1) (b1 + 1) = 0)∨
    (min a1 b1 - max a0 b0 = 0∧ov a0 a1 b0 b1 = 0∧ov a0 a1 (b0 - 1) (b1 - 1) + ov a0 a1 (b0 + 1) (b1 + 1) = 1)∨
    (min a1 b1 - max a0 b0 > 0∧ov a0 a1 b0 b1 = min a1 b1 - max a0 b0):=by
  unfold ov;omega
theorem qk8 {b c : q8} (hb : ltB b) (hc : ltB c) (hd : ∀ x y z,¬ (inB b x y z∧inB c x y z)) : qes b c = q3q b c:=by
  obtain ⟨b1,b2,b3⟩:=hb
  obtain ⟨c1,c2,c3⟩:=hc
  have hdis : ¬ (min b.Hi.X c.Hi.X - max b.Lo.X c.Lo.X > 0∧min b.Hi.Y c.Hi.Y - max b.Lo.Y c.Lo.Y > 0∧min b.Hi.Z c.Hi.Z - max b.Lo.Z c.Lo.Z > 0):=fun ⟨h1,h2,h3⟩=>
    hd (max b.Lo.X c.Lo.X) (max b.Lo.Y c.Lo.Y) (max b.Lo.Z c.Lo.Z) (by unfold inB;omega)
  have key : ∀ {X0 X1 Y0 Y1 Z0 Z1 x y z : Int},((x < 0∧X0 = 0∧X1 = 0)∨(x = 0∧X0 = 0∧X1 = 1)∨(x > 0∧X0 = x))→((y < 0∧Y0 = 0∧Y1 = 0)∨(y = 0∧Y0 = 0∧Y1 = 1)∨(y > 0∧Y0 = y))→
      ((z < 0∧Z0 = 0∧Z1 = 0)∨(z = 0∧Z0 = 0∧Z1 = 1)∨(z > 0∧Z0 = z))→¬ (x > 0∧y > 0∧z > 0)→
      X1 * (Y0 * Z0) + X0 * (Y1 * Z0) + X0 * (Y0 * Z1) = if x = 0∧y > 0∧z > 0 then y * z else if x > 0∧y = 0∧z > 0 then x * z else if x > 0∧y > 0∧z = 0 then x * y else 0:=by
    intro X0 X1 Y0 Y1 Z0 Z1 x y z hx hy hz hn
    rcases hx with ⟨hx,rfl,rfl⟩ | ⟨rfl,rfl,rfl⟩ | ⟨hx,rfl⟩ <;> rcases hy with ⟨hy,rfl,rfl⟩ | ⟨rfl,rfl,rfl⟩ | ⟨hy,rfl⟩ <;> rcases hz with ⟨hz,rfl,rfl⟩ | ⟨rfl,rfl,rfl⟩ | ⟨hz,rfl⟩ <;>
      first
        | (exfalso;omega)
        | (simp only [Int.zero_mul,Int.mul_zero,Int.add_zero,Int.zero_add,Int.one_mul,Int.mul_one];clear hd hdis b1 b2 b3 c1 c2 c3;(repeat' split) <;> first | omega | (simp_all;done) | (simp_all;omega))
  have e : qes b c = (ov b.Lo.X b.Hi.X (c.Lo.X - 1) (c.Hi.X - 1) + ov b.Lo.X b.Hi.X (c.Lo.X + 1) (c.Hi.X + 1)) * (ov b.Lo.Y b.Hi.Y c.Lo.Y c.Hi.Y * ov b.Lo.Z b.Hi.Z c.Lo.Z c.Hi.Z) +
      ov b.Lo.X b.Hi.X c.Lo.X c.Hi.X * ((ov b.Lo.Y b.Hi.Y (c.Lo.Y - 1) (c.Hi.Y - 1) + ov b.Lo.Y b.Hi.Y (c.Lo.Y + 1) (c.Hi.Y + 1)) * ov b.Lo.Z b.Hi.Z c.Lo.Z c.Hi.Z) +
      ov b.Lo.X b.Hi.X c.Lo.X c.Hi.X * (ov b.Lo.Y b.Hi.Y c.Lo.Y c.Hi.Y * (ov b.Lo.Z b.Hi.Z (c.Lo.Z - 1) (c.Hi.Z - 1) + ov b.Lo.Z b.Hi.Z (c.Lo.Z + 1) (c.Hi.Z + 1))):=by
    unfold qes;simp only [Int.add_mul,Int.mul_add]
  rw [e]
  unfold q3q
  refine key ?_ ?_ ?_ hdis
  · rcases ov3 b1 c1 with h | h | h
    · exact .inl ⟨h.1,h.2.1,h.2.2.1⟩
    · exact .inr (.inl h)
    · exact .inr (.inr h)
  · rcases ov3 b2 c2 with h | h | h
    · exact .inl ⟨h.1,h.2.1,h.2.2.1⟩
    · exact .inr (.inl h)
    · exact .inr (.inr h)
  · rcases ov3 b3 c3 with h | h | h
    · exact .inl ⟨h.1,h.2.1,h.2.2.1⟩
    · exact .inr (.inl h)
    · exact .inr (.inr h)
def qab (b : q8) : Int:=2 * ((b.Hi.X - b.Lo.X) * (b.Hi.Y - b.Lo.Y) + (b.Hi.X - b.Lo.X) * (b.Hi.Z - b.Lo.Z) + (b.Hi.Y - b.Lo.Y) * (b.Hi.Z - b.Lo.Z))
theorem qyf {b : q8} (hb : ltB b) : 6 * volB b - qes b b = qab b:=by
  obtain ⟨b1,b2,b3⟩:=hb
  have o : ∀ {a c : Int},a < c→ov a c a c = c - a∧ov a c (a - 1) (c - 1) = c - a - 1∧ov a c (a + 1) (c + 1) = c - a - 1:=fun h=>by unfold ov;omega
  obtain ⟨x0,x1,x2⟩:=o b1
  obtain ⟨y0,y1,y2⟩:=o b2
  obtain ⟨z0,z1,z2⟩:=o b3
  unfold qes volB qab
  rw [x0,x1,x2,y0,y1,y2,z0,z1,z2]
  generalize b.Hi.X - b.Lo.X = x
  generalize b.Hi.Y - b.Lo.Y = y
  generalize b.Hi.Z - b.Lo.Z = z
  simp only [Int.sub_mul,Int.mul_sub,Int.one_mul,Int.mul_one,Int.mul_assoc]
  omega
noncomputable def qpu (N : Nat) (P : Int→Int→Int→Prop) : Int:=
  (cnt3 N (fun x y z=>P x y z∧¬ P (x + 1) y z) + cnt3 N (fun x y z=>P x y z∧¬ P (x - 1) y z)) +
  (cnt3 N (fun x y z=>P x y z∧¬ P x (y + 1) z) + cnt3 N (fun x y z=>P x y z∧¬ P x (y - 1) z)) +
  (cnt3 N (fun x y z=>P x y z∧¬ P x y (z + 1)) + cnt3 N (fun x y z=>P x y z∧¬ P x y (z - 1)))
def qgd (l : List q8) : Int:=sumL qab l - 2 * qbz q3q l l.length
def vBN (N : Nat) (b : q8) : Prop:=ltB b∧(-(N : Int)≤b.Lo.X∧-(N : Int)≤b.Lo.Y∧-(N : Int)≤b.Lo.Z)∧b.Hi.X≤N∧b.Hi.Y≤N∧b.Hi.Z≤N
theorem qgh {N : Nat} {l : List q8} (hc : ∀ x y z,cntB l x y z = ind (hasB l x y z)) (h : ∀ b∈l,vBN N b) (dx dy dz : Int) :
    cnt3 N (fun x y z=>hasB l x y z∧¬ hasB l (x + dx) (y + dy) (z + dz)) = volL l - sumL (fun b=>sumL (fun c=>ov b.Lo.X b.Hi.X (c.Lo.X - dx) (c.Hi.X - dx) * (ov b.Lo.Y b.Hi.Y (c.Lo.Y - dy) (c.Hi.Y - dy) * ov b.Lo.Z b.Hi.Z (c.Lo.Z - dz) (c.Hi.Z - dz))) l) l:=by
  have e1 : ∀ x y z,ind (hasB l x y z∧¬ hasB l (x + dx) (y + dy) (z + dz)) = ind (hasB l x y z) - sumL (fun b=>sumL (fun c=>ind (inB b x y z) * ind ((c.Lo.X - dx≤x∧x < c.Hi.X - dx)∧(c.Lo.Y - dy≤y∧y < c.Hi.Y - dy)∧(c.Lo.Z - dz≤z∧z < c.Hi.Z - dz))) l) l:=fun x y z=>by
    have e2 : sumL (fun b=>sumL (fun c=>ind (inB b x y z) * ind ((c.Lo.X - dx≤x∧x < c.Hi.X - dx)∧(c.Lo.Y - dy≤y∧y < c.Hi.Y - dy)∧(c.Lo.Z - dz≤z∧z < c.Hi.Z - dz))) l) l = ind (hasB l x y z) * ind (hasB l (x + dx) (y + dy) (z + dz)):=by
      rw [← hc,← hc]
      have e3 : ∀ b : q8,sumL (fun c : q8=>ind (inB b x y z) * ind ((c.Lo.X - dx≤x∧x < c.Hi.X - dx)∧(c.Lo.Y - dy≤y∧y < c.Hi.Y - dy)∧(c.Lo.Z - dz≤z∧z < c.Hi.Z - dz))) l = cntB l (x + dx) (y + dy) (z + dz) * ind (inB b x y z):=fun b=>by
        rw [qjt,Int.mul_comm]
        unfold cntB
        rw [q7h fun c _=>q9q (q:=inB c (x + dx) (y + dy) (z + dz)) ⟨fun h=>by unfold inB;omega,fun h=>by unfold inB at h;omega⟩]
      simp only [e3]
      rw [qjt,Int.mul_comm]
      rfl
    rw [e2,qf1,q13b,Int.mul_sub,Int.mul_one]
  unfold cnt3
  simp only [e1,q128]
  have e4 : (sumZ N fun x=>sumZ N fun y=>sumZ N fun z=>ind (hasB l x y z)) = volL l:=(qvi hc fun b hb=>by have:=h b hb;unfold vBN ltB at this;omega).symm
  rw [e4]
  congr 1
  simp only [← qe5]
  refine q7h fun b hb=>q7h fun c hcm=>?_
  have:=h b hb
  unfold vBN at this
  exact q13w this.2
theorem q112 {l : List q8} (hc : ∀ x y z,cntB l x y z = ind (hasB l x y z)) : l.Pairwise fun b c=>∀ x y z,¬ (inB b x y z∧inB c x y z):=by
  have key : ∀ l : List q8,(∀ x y z,cntB l x y z≤1)→l.Pairwise fun b c=>∀ x y z,¬ (inB b x y z∧inB c x y z):=by
    intro l
    induction l with
    | nil=>intro _;exact .nil
    | cons b l ih=>
      intro h
      have nn : ∀ (l : List q8) x y z,0≤cntB l x y z:=fun l x y z=>by
        unfold cntB;induction l with
        | nil=>exact Int.le_refl _
        | cons c l ih=>have:=(qfr (p:=inB c x y z)).1;rw [sumL];omega
      have hh : ∀ x y z,ind (inB b x y z) + cntB l x y z≤1:=h
      refine List.pairwise_cons.2 ⟨fun c hc x y z ⟨h1,h2⟩=>?_,ih fun x y z=>by have:=hh x y z;have:=(qfr (p:=inB b x y z)).1;omega⟩
      have h3:=hh x y z
      rw [qf2 h1] at h3
      have h4 : ∀ l : List q8,c∈l→1≤cntB l x y z:=by
        intro l
        induction l with
        | nil=>intro h;cases h
        | cons d l ih2=>
          intro hm
          have e : cntB (d::l) x y z = ind (inB d x y z) + cntB l x y z:=rfl
          rcases List.mem_cons.1 hm with rfl | hm
          · have:=nn l x y z;rw [e,qf2 h2];omega
          · have:=ih2 hm;have:=(qfr (p:=inB d x y z)).1;rw [e];omega
      have:=h4 l hc
      omega
  exact key l fun x y z=>by rw [hc];exact qfr.2
theorem q10g {N : Nat} {l : List q8} (hc : ∀ x y z,cntB l x y z = ind (hasB l x y z)) (h : ∀ b∈l,vBN N b) : qgd l = qpu N (hasB l):=by
  have hd:=q112 hc
  have e1:=qgh hc h 1 0 0
  have e2:=qgh hc h (-1) 0 0
  have e3:=qgh hc h 0 1 0
  have e4:=qgh hc h 0 (-1) 0
  have e5:=qgh hc h 0 0 1
  have e6:=qgh hc h 0 0 (-1)
  simp only [Int.add_zero,Int.sub_zero,Int.sub_neg,← Int.sub_eq_add_neg] at e1 e2 e3 e4 e5 e6
  unfold qpu
  rw [e1,e2,e3,e4,e5,e6]
  have e7 : sumL (fun b=>sumL (fun c=>qes b c) l) l = 6 * volL l - sumL qab l + 2 * qbz q3q l l.length:=by
    have h1:=qxc qes q3q (l:=l) (List.Pairwise.imp_of_mem (fun {b c} hb hcm hdis=>⟨qk8 (h b hb).1 (h c hcm).1 hdis,qk8 (h c hcm).1 (h b hb).1 fun x y z hh=>hdis x y z ⟨hh.2,hh.1⟩⟩) hd) l.length (Nat.le_refl _)
    have h2:=que q3q qs6 l l.length (Nat.le_refl _)
    rw [List.take_length] at h1 h2
    simp only [qvc] at h1
    have h3 : sumL (fun b=>6 * volB b - qes b b) l = sumL qab l:=q7h fun b hb=>qyf (h b hb).1
    rw [qvc,qjt] at h3
    unfold volL
    have h4 : sumL (fun b=>sumL (fun c=>qes b c) l) l - sumL (fun b=>sumL (fun c=>q3q b c) l) l = sumL (fun b=>qes b b) l - sumL (fun b=>q3q b b) l:=h1
    omega
  unfold qgd
  unfold qes at e7
  simp only [qos] at e7
  omega
theorem q14e {b : q8} (h : vB b) : vBN 1000000 b:=by unfold vB at h;unfold vBN ltB;omega
theorem q10f {l : List q8} (hc : CanB l) (h : ∀ b∈l,vB b) : qgd l = qpu 1000000 (hasB l):=q10g hc.cnt fun b hb=>q14e (h b hb)
end Go.Sh
namespace Go.Sh
open Go Go.Am
abbrev V3:=qk × qk × qk
def zeroV : qk:=⟨0,0,0⟩
noncomputable def axT (t : Nat) : V3:=match qef (t : Int) with
  | some m=>m
  | none=>(zeroV,zeroV,zeroV)
theorem qq4 : ∀ t : Nat,t < 24→qef (t : Int) = some (axT t):=by decide +kernel
def qbv (v : qk) : Prop:=-1≤v.X∧v.X≤1∧-1≤v.Y∧v.Y≤1∧-1≤v.Z∧v.Z≤1
instance (v : qk) : Decidable (qbv v):=by unfold qbv;infer_instance
theorem q10s : ∀ t : Nat,t < 24→qbv (axT t).1∧qbv (axT t).2.1∧qbv (axT t).2.2:=by decide +kernel
def mulV (m : V3) (v : qk) : qk:=⟨v.X * m.1.X + v.Y * m.2.1.X + v.Z * m.2.2.X,v.X * m.1.Y + v.Y * m.2.1.Y + v.Z * m.2.2.Y,v.X * m.1.Z + v.Y * m.2.1.Z + v.Z * m.2.2.Z⟩
def addV (a b : qk) : qk:=⟨a.X + b.X,a.Y + b.Y,a.Z + b.Z⟩
def q8u (v : qk) (n : Int) : Prop:=-n≤v.X∧v.X≤n∧-n≤v.Y∧v.Y≤n∧-n≤v.Z∧v.Z≤n
theorem q11q {a b : Int} {n : Int} (ha : -n≤a∧a≤n) (hb : -1≤b∧b≤1) : -n≤a * b∧a * b≤n:=by
  have : b = -1∨b = 0∨b = 1:=by omega
  rcases this with rfl | rfl | rfl <;> simp <;> omega
theorem qx1 {m : V3} {v : qk} {n : Int} (hm : qbv m.1∧qbv m.2.1∧qbv m.2.2) (hv : q8u v n) :
    (∀ a∈[v.X * m.1.X,v.Y * m.2.1.X,v.Z * m.2.2.X,v.X * m.1.Y,v.Y * m.2.1.Y,v.Z * m.2.2.Y,v.X * m.1.Z,v.Y * m.2.1.Z,v.Z * m.2.2.Z],-n≤a∧a≤n):=by
  obtain ⟨⟨a1,a2,a3,a4,a5,a6⟩,⟨b1,b2,b3,b4,b5,b6⟩,⟨c1,c2,c3,c4,c5,c6⟩⟩:=hm
  obtain ⟨v1,v2,v3,v4,v5,v6⟩:=hv
  intro a ha
  simp only [List.mem_cons,List.not_mem_nil,or_false] at ha
  rcases ha with rfl | rfl | rfl | rfl | rfl | rfl | rfl | rfl | rfl <;> exact q11q ⟨by assumption,by assumption⟩ ⟨by assumption,by assumption⟩
theorem q13g {m : V3} {v : qk} {n : Int} (hm : qbv m.1∧qbv m.2.1∧qbv m.2.2) (hv : q8u v n) : q8u (mulV m v) (3 * n):=by
  have b:=qx1 hm hv
  simp only [List.mem_cons,List.not_mem_nil,or_false,forall_eq_or_imp,forall_eq] at b
  unfold q8u mulV
  simp only
  omega
theorem qts {m : V3} {v : qk} (hm : qbv m.1∧qbv m.2.1∧qbv m.2.2) (hv : q8u v 1000000000000) : qfq m v = some (mulV m v):=by
  have b:=qx1 hm hv
  simp only [List.mem_cons,List.not_mem_nil,or_false,forall_eq_or_imp,forall_eq] at b
  unfold qfq mulV
  congr 2
  · rw [qr (x:=v.X * m.1.X) (by omega),qr (x:=v.Y * m.2.1.X) (by omega),qr (x:=v.Z * m.2.2.X) (by omega),qr (x:=v.X * m.1.X + _) (by omega),qr (by omega)]
  · rw [qr (x:=v.X * m.1.Y) (by omega),qr (x:=v.Y * m.2.1.Y) (by omega),qr (x:=v.Z * m.2.2.Y) (by omega),qr (x:=v.X * m.1.Y + _) (by omega),qr (by omega)]
  · rw [qr (x:=v.X * m.1.Z) (by omega),qr (x:=v.Y * m.2.1.Z) (by omega),qr (x:=v.Z * m.2.2.Z) (by omega),qr (x:=v.X * m.1.Z + _) (by omega),qr (by omega)]
noncomputable def q7b (t : Nat) (at_ v : qk) : qk:=addV (mulV (axT t) v) at_
theorem qq6 {f : q4l} {t : Nat} {v : qk} (ht : f.Turn = t) (h : t < 24) (ha : q8u f.At 1000000000000) (hv : q8u v 1000000000000) : qd9 f v = some (q7b t f.At v):=by
  have hu:=q10s t h
  unfold qd9
  rw [ht,qq4 t h]
  simp only [Option.bind_some,qts hu hv]
  have b:=q13g hu hv
  unfold q8u at b ha
  unfold q7b addV
  rw [qr (by omega),qr (by omega),qr (by omega)]
def InV (v : qk) (lo : Int) : Prop:=lo≤v.X∧v.X≤1000000∧lo≤v.Y∧v.Y≤1000000∧lo≤v.Z∧v.Z≤1000000
instance (v : qk) (lo : Int) : Decidable (InV v lo):=by unfold InV;infer_instance
theorem qtl (v : qk) (lo : Int) : qav v lo = some (decide (InV v lo)):=by
  unfold qav
  by_cases a : min (min v.X v.Y) v.Z ≥ lo
  · by_cases b : max (max v.X v.Y) v.Z≤1000000
    · have : InV v lo:=by unfold InV;omega
      simp only [decide_eq_true a,decide_eq_true b,decide_eq_true this,cond_true,Option.bind_some]
    · have : ¬ InV v lo:=by unfold InV;omega
      simp only [decide_eq_true a,decide_eq_false b,decide_eq_false this,cond_true,Option.bind_some]
  · have : ¬ InV v lo:=by unfold InV;omega
    simp only [decide_eq_false a,decide_eq_false this,cond_false,Option.bind_some]
def FOk (f : q4l) : Prop:=f.Turn < 24∧InV f.At (-1000000)
instance (f : q4l) : Decidable (FOk f):=by unfold FOk;infer_instance
def SOk (s : qr5) : Prop:=FOk s.Frame∧InV s.Size 0
instance (s : qr5) : Decidable (SOk s):=by unfold SOk;infer_instance
theorem qyz {P Q : Prop} [Decidable P] [Decidable Q] {R : Prop} [Decidable R] (h : R↔P∧Q) : ((cond (decide (¬ P)) (some true) ((some (decide Q)).bind fun r10=>some (!r10))).bind fun c3=>cond c3 (some (8 : Int)) (some 0)) = some (if R then 0 else 8):=by
  by_cases p : P <;> by_cases q : Q <;> simp [p,q,h]
theorem qid (f : q4l) : qbi f = some (if FOk f then 0 else 8):=by
  unfold qbi
  rw [qtl]
  have e : decide (f.Turn ≥ 24) = decide (¬ f.Turn < 24):=by rw [decide_eq_decide];omega
  rw [e]
  exact qyz Iff.rfl
theorem qrq {v : qk} {lo : Int} (h : InV v lo) (hl : -1000000≤lo) : q8u v 1000000000000:=by unfold InV at h;unfold q8u;omega
end Go.Sh
namespace Go.Sh
open Go Go.Am
def qr3 : q8:={Lo:=({X:=0,Y:=0,Z:=0} : qk),Hi:=({X:=0,Y:=0,Z:=0} : qk)}
def q4v (h b : q8) : q8:={Lo:=({X:=min h.Lo.X b.Lo.X,Y:=min h.Lo.Y b.Lo.Y,Z:=min h.Lo.Z b.Lo.Z} : qk),Hi:=({X:=max h.Hi.X b.Hi.X,Y:=max h.Hi.Y b.Hi.Y,Z:=max h.Hi.Z b.Hi.Z} : qk)}
def qmf : List q8→q8
  | []=>qr3
  | b::l=>(b::l).foldl q4v b
noncomputable def hull (l : List q8) : q8 × Int:=if q1v l≠0 then (qr3,q1v l) else if l = [] then (qr3,6) else (qmf l,0)
theorem qzb (l : List q8) (hl : l.length≤1000000) (f : Int × Int × Int × Int × Int × Int × Int→Option ((Int × Int × Int × Int × Int × Int × Int) ⊕ (Int × Int × Int × Int × Int × Int)))
    (hs : ∀ k (h : k < l.length) (s : q8),f ((k : Int),s.Lo.X,s.Lo.Y,s.Lo.Z,s.Hi.X,s.Hi.Y,s.Hi.Z) = some (.inl (((k + 1 : Nat) : Int),(q4v s l[k]).Lo.X,(q4v s l[k]).Lo.Y,(q4v s l[k]).Lo.Z,(q4v s l[k]).Hi.X,(q4v s l[k]).Hi.Y,(q4v s l[k]).Hi.Z)))
    (hd : ∀ s : q8,f ((l.length : Int),s.Lo.X,s.Lo.Y,s.Lo.Z,s.Hi.X,s.Hi.Y,s.Hi.Z) = some (.inr (s.Lo.X,s.Lo.Y,s.Lo.Z,s.Hi.X,s.Hi.Y,s.Hi.Z))) (s : q8) (k : Nat) (hk : k≤l.length) :
    loop f ((k : Int),((l.take k).foldl q4v s).Lo.X,((l.take k).foldl q4v s).Lo.Y,((l.take k).foldl q4v s).Lo.Z,((l.take k).foldl q4v s).Hi.X,((l.take k).foldl q4v s).Hi.Y,((l.take k).foldl q4v s).Hi.Z) =
      some ((l.foldl q4v s).Lo.X,(l.foldl q4v s).Lo.Y,(l.foldl q4v s).Lo.Z,(l.foldl q4v s).Hi.X,(l.foldl q4v s).Hi.Y,(l.foldl q4v s).Hi.Z):=
  q6u (f:=f) (fun k=>((k : Int),((l.take k).foldl q4v s).Lo.X,((l.take k).foldl q4v s).Lo.Y,((l.take k).foldl q4v s).Lo.Z,((l.take k).foldl q4v s).Hi.X,((l.take k).foldl q4v s).Hi.Y,((l.take k).foldl q4v s).Hi.Z)) l.length _ (fun k hk=>by
    rw [hs k hk,List.take_succ_eq_append_getElem hk,List.foldl_append];rfl) (by rw [List.take_length,hd]) hk
theorem qsp (l : List q8) : qeo l = some (hull l):=by
  unfold qeo hull
  rw [q8z,Option.bind_some]
  by_cases h : ¬ q1v l = 0
  · have : (q1v l != 0) = true:=by simpa using h
    rw [if_pos h,this,cond_true];rfl
  replace h:=Classical.not_not.1 h
  have hl:=(q6l.1 h).1
  rw [if_neg (by simp [h]),h,show ((0 : Int) != 0) = false from rfl,cond_false]
  cases l with
  | nil=>rfl
  | cons b l=>
    have e1 : ((((b::l).length : Int)) == 0) = false:=by simp;omega
    have key:=qzb (b::l) (by omega) (q8g (b::l)) (fun k hk s=>by
      simp only [q8g,dlt hk,cond_true,q10 hk,Option.bind_some,w64s hk (by omega)];rfl) (fun s=>by simp only [q8g,dnl,cond_false]) b 0 (Nat.zero_le _)
    have key : loop (q8g (b::l)) (0,b.Lo.X,b.Lo.Y,b.Lo.Z,b.Hi.X,b.Hi.Y,b.Hi.Z) = _:=key
    rw [e1,cond_false,show idx (b::l) 0 = some b from rfl,Option.bind_some,key,if_neg (by simp)]
    rfl
noncomputable def qjn (l : List q8) (z : Int) : List qb × Int:=if q1v l≠0 then ([],q1v l) else (atB l z,0)
theorem qh7 (l : List q8) (z : Int) : q9k l z = some (qjn l z):=by
  unfold q9k qjn
  rw [q8z,Option.bind_some]
  by_cases h : ¬ q1v l = 0
  · have : (q1v l != 0) = true:=by simpa using h
    rw [if_pos h,this,cond_true]
  replace h:=Classical.not_not.1 h
  have hl:=(q6l.1 h).1
  rw [if_neg (by simp [h]),h,show ((0 : Int) != 0) = false from rfl,cond_false]
  have e : qb2 = q4d:=rfl
  rw [e,qt6 l hl z];rfl
def rowOk (a b c : Int) : Prop:=(a = 1∧b = 0∧c = 0)∨(a = -1∧b = 0∧c = 0)∨(a = 0∧b = 1∧c = 0)∨(a = 0∧b = -1∧c = 0)∨(a = 0∧b = 0∧c = 1)∨(a = 0∧b = 0∧c = -1)
instance (a b c : Int) : Decidable (rowOk a b c):=by unfold rowOk;infer_instance
theorem q10r : ∀ t : Nat,t < 24→rowOk (axT t).1.X (axT t).2.1.X (axT t).2.2.X∧rowOk (axT t).1.Y (axT t).2.1.Y (axT t).2.2.Y∧rowOk (axT t).1.Z (axT t).2.1.Z (axT t).2.2.Z:=by decide +kernel
theorem quw {a b c x y z u v w : Int} (h : rowOk a b c) (hx : x < u) (hy : y < v) (hz : z < w) : x * a + y * b + z * c≠u * a + v * b + w * c:=by
  rcases h with ⟨rfl,rfl,rfl⟩ | ⟨rfl,rfl,rfl⟩ | ⟨rfl,rfl,rfl⟩ | ⟨rfl,rfl,rfl⟩ | ⟨rfl,rfl,rfl⟩ | ⟨rfl,rfl,rfl⟩ <;> omega
def q12m (p q : qk) : q8:={Lo:=({X:=min p.X q.X,Y:=min p.Y q.Y,Z:=min p.Z q.Z} : qk),Hi:=({X:=max p.X q.X,Y:=max p.Y q.Y,Z:=max p.Z q.Z} : qk)}
noncomputable def qai (t : Nat) (at_ : qk) (b : q8) : q8:=q12m (q7b t at_ b.Lo) (q7b t at_ b.Hi)
theorem q121 {t : Nat} (h : t < 24) (at_ : qk) {b : q8} (hb : ltB b) : (q7b t at_ b.Lo).X≠(q7b t at_ b.Hi).X∧(q7b t at_ b.Lo).Y≠(q7b t at_ b.Hi).Y∧(q7b t at_ b.Lo).Z≠(q7b t at_ b.Hi).Z:=by
  obtain ⟨h1,h2,h3⟩:=q10r t h
  unfold q7b addV mulV
  have e1:=quw h1 hb.1 hb.2.1 hb.2.2
  have e2:=quw h2 hb.1 hb.2.1 hb.2.2
  have e3:=quw h3 hb.1 hb.2.1 hb.2.2
  simp only
  omega
theorem qvg {t : Nat} (h : t < 24) (at_ : qk) {b : q8} (hb : ltB b) : vB (qai t at_ b)↔InV (q7b t at_ b.Lo) (-1000000)∧InV (q7b t at_ b.Hi) (-1000000):=by
  obtain ⟨h1,h2,h3⟩:=q121 h at_ hb
  unfold qai q12m vB InV
  simp only
  omega
noncomputable def place (l : List q8) (f : q4l) : List q8 × Int:=
  if q1v l≠0 then ([],q1v l) else if ¬ FOk f then ([],8) else if ∀ b∈l,vB (qai f.Turn.toNat f.At b) then mkB (l.map (qai f.Turn.toNat f.At)) else ([],16)
theorem qs3 {b : q8} (h : vB b) : q8u b.Lo 1000000000000∧q8u b.Hi 1000000000000∧InV b.Lo (-1000000)∧InV b.Hi (-1000000)∧ltB b:=by
  unfold vB at h;unfold q8u InV ltB;omega
theorem qiz {f : q4l} {t : Nat} (ht : f.Turn = t) (h24 : t < 24) (hf : FOk f) {v : qk} (hv : InV v (-1000000)) : qbh f v = some (if InV (q7b t f.At v) (-1000000) then (q7b t f.At v,0) else (zeroV,16)):=by
  unfold qbh
  simp only [qid,qtl,Option.bind_some,if_pos hf,show ((0 : Int) != 0) = false from rfl,cond_false,decide_eq_true hv,Bool.not_true]
  rw [qq6 ht h24 (qrq hf.2 (by omega)) (qrq hv (by omega))]
  simp only [Option.bind_some]
  by_cases hi : InV (q7b t f.At v) (-1000000)
  · rw [if_pos hi];simp [hi]
  · rw [if_neg hi];simp [hi];rfl
theorem qy5 {l : List q8} (hl : l.length≤400) (P : q8→Prop) [DecidablePred P] (pl : q8→q8) (e : List q8 × Int) (f : Int × List q8→Option ((Int × List q8) ⊕ ((List q8) ⊕ (List q8 × Int))))
    (hok : ∀ k (h : k < l.length) (o : List q8),o.length = k→P l[k]→f ((k : Int),o) = some (.inl (((k + 1 : Nat) : Int),o ++ [pl l[k]])))
    (hbad : ∀ k (h : k < l.length) (o : List q8),o.length = k→¬ P l[k]→f ((k : Int),o) = some (.inr (.inr e)))
    (hd : ∀ o,f ((l.length : Int),o) = some (.inr (.inl o))) : loop f (0,[]) = some (if ∀ b∈l,P b then .inl (l.map pl) else .inr e):=by
  have main:=ql2 (f:=f) (fun k=>((k : Int),(l.take k).map pl)) l.length (fun j=>∀ b,l[j]? = some b→P b) (.inl (l.map pl)) (.inr e)
    (fun k hk hj=>by
      rw [hok k hk _ (by simp;omega) (hj k (Nat.le_refl _) _ (List.getElem?_eq_getElem hk)),List.take_succ_eq_append_getElem hk,List.map_append];rfl)
    (fun k hk _ hb=>hbad k hk _ (by simp;omega) fun h=>hb fun b hb=>by rw [List.getElem?_eq_getElem hk] at hb;cases hb;exact h)
    (fun _=>by rw [List.take_length,hd])
  have h00 : ((((0 : Nat) : Int),(l.take 0).map pl) : Int × List q8) = (0,[]):=rfl
  rw [h00] at main
  rcases main with ⟨h1,h2⟩ | ⟨j,hj,hb,h2⟩
  · rw [h2,if_pos]
    intro b hb
    obtain ⟨i,hi,rfl⟩:=List.getElem_of_mem hb
    exact h1 i hi _ (List.getElem?_eq_getElem hi)
  · rw [h2,if_neg]
    intro h
    exact hb fun b hb=>h b (List.mem_of_getElem? hb)
theorem qqs (l : List q8) (f : q4l) (hf0 : 0≤f.Turn) : qde l f = some (place l f):=by
  unfold qde place
  rw [q8z,Option.bind_some]
  by_cases h : ¬ q1v l = 0
  · have : (q1v l != 0) = true:=by simpa using h
    rw [if_pos h,this,cond_true]
  replace h:=Classical.not_not.1 h
  obtain ⟨hl,hv,hc⟩:=q6l.1 h
  rw [if_neg (by simp [h]),h,show ((0 : Int) != 0) = false from rfl,cond_false,qid,Option.bind_some]
  by_cases hf : ¬ FOk f
  · rw [if_neg hf,if_pos hf];rfl
  replace hf:=Classical.not_not.1 hf
  rw [if_pos hf,if_neg (by simp [hf]),show ((0 : Int) != 0) = false from rfl,cond_false]
  have ht : f.Turn = (f.Turn.toNat : Int):=by omega
  have h24 : f.Turn.toNat < 24:=by have:=hf.1;omega
  rw [qy5 hl (fun b=>vB (qai f.Turn.toNat f.At b)) (qai f.Turn.toNat f.At) ([],16) (q7t l f) (fun k hk o ho hP=>by
      obtain ⟨w1,w2,w3,w4,w5⟩:=qs3 (hv _ (List.getElem_mem hk))
      obtain ⟨p1,p2⟩:=(qvg h24 f.At w5).1 hP
      simp only [q7t,dlt hk,cond_true,q10 hk,Option.bind_some,qiz ht h24 hf w3,qiz ht h24 hf w4,if_pos p1,if_pos p2,show ((0 : Int) != 0) = false from rfl,cond_false,w64s hk (by omega)]
      rw [q62 (by simp;omega)];rfl) (fun k hk o ho hP=>by
      obtain ⟨w1,w2,w3,w4,w5⟩:=qs3 (hv _ (List.getElem_mem hk))
      rw [qvg h24 f.At w5] at hP
      simp only [q7t,dlt hk,cond_true,q10 hk,Option.bind_some,qiz ht h24 hf w3,qiz ht h24 hf w4]
      by_cases p1 : InV (q7b f.Turn.toNat f.At l[k].Lo) (-1000000)
      · have p2 : ¬ InV (q7b f.Turn.toNat f.At l[k].Hi) (-1000000):=fun p2=>hP ⟨p1,p2⟩
        rw [if_pos p1,if_neg p2];rfl
      · rw [if_neg p1];rfl) (fun o=>by simp only [q7t,dnl,cond_false])]
  rw [Option.bind_some]
  by_cases hP : ∀ b∈l,vB (qai f.Turn.toNat f.At b)
  · rw [if_pos hP,if_pos hP]
    simp only [qg2,Option.bind_some]
  · rw [if_neg hP,if_neg hP]
end Go.Sh
namespace Go.Sh
open Go Go.Am
theorem qwl (a b : Int) : w64 (a - w64 b) = w64 (a + -b):=by rw [q10j,Int.sub_eq_add_neg]
theorem qji {x y : Int} (hx : -2000002≤x∧x≤2000002) (hy : -2000002≤y∧y≤2000002) : -4000008000004≤x * y∧x * y≤4000008000004:=by
  by_cases h1 : 0≤x
  · by_cases h2 : 0≤y
    · have:=Int.mul_le_mul hx.2 hy.2 h2 (by omega);have:=Int.mul_nonneg h1 h2;omega
    · have h3 : 0≤-y:=by omega
      have h4:=Int.mul_le_mul hx.2 (show -y≤2000002 by omega) h3 (by omega);have h5:=Int.mul_nonneg h1 h3;rw [Int.mul_neg] at h4 h5;omega
  · have h1' : 0≤-x:=by omega
    by_cases h2 : 0≤y
    · have h4:=Int.mul_le_mul (show -x≤2000002 by omega) hy.2 h2 (by omega);have h5:=Int.mul_nonneg h1' h2;rw [Int.neg_mul] at h4 h5;omega
    · have h3 : 0≤-y:=by omega
      have h4:=Int.mul_le_mul (show -x≤2000002 by omega) (show -y≤2000002 by omega) h3 (by omega);have h5:=Int.mul_nonneg h1' h3;rw [Int.neg_mul_neg] at h4 h5;omega
theorem qop {b c : q8} (hb : vB b) (hc : vB c) : qbg b c = some (q3q b c):=by
  unfold qbg q3q
  unfold vB at hb hc
  have wx : w64 (min b.Hi.X c.Hi.X - max b.Lo.X c.Lo.X) = min b.Hi.X c.Hi.X - max b.Lo.X c.Lo.X:=qr (by omega)
  have wy : w64 (min b.Hi.Y c.Hi.Y - max b.Lo.Y c.Lo.Y) = min b.Hi.Y c.Hi.Y - max b.Lo.Y c.Lo.Y:=qr (by omega)
  have wz : w64 (min b.Hi.Z c.Hi.Z - max b.Lo.Z c.Lo.Z) = min b.Hi.Z c.Hi.Z - max b.Lo.Z c.Lo.Z:=qr (by omega)
  simp only [wx,wy,wz]
  have bx : -2000002≤min b.Hi.X c.Hi.X - max b.Lo.X c.Lo.X∧min b.Hi.X c.Hi.X - max b.Lo.X c.Lo.X≤2000002:=by omega
  have bY : -2000002≤min b.Hi.Y c.Hi.Y - max b.Lo.Y c.Lo.Y∧min b.Hi.Y c.Hi.Y - max b.Lo.Y c.Lo.Y≤2000002:=by omega
  have bz : -2000002≤min b.Hi.Z c.Hi.Z - max b.Lo.Z c.Lo.Z∧min b.Hi.Z c.Hi.Z - max b.Lo.Z c.Lo.Z≤2000002:=by omega
  generalize min b.Hi.X c.Hi.X - max b.Lo.X c.Lo.X = x at *
  generalize min b.Hi.Y c.Hi.Y - max b.Lo.Y c.Lo.Y = y at *
  generalize min b.Hi.Z c.Hi.Z - max b.Lo.Z c.Lo.Z = z at *
  have p1:=qji bY bz
  have p2:=qji bx bz
  have p3:=qji bx bY
  rw [qr (x:=y * z) (by omega),qr (x:=x * z) (by omega),qr (x:=x * y) (by omega)]
  by_cases x0 : x = 0
  · subst x0
    by_cases y0 : y > 0 <;> by_cases z0 : z > 0 <;> simp [y0,z0]
  · have ex : (x == 0) = false:=by simpa using x0
    by_cases x1 : x > 0
    · by_cases y0 : y = 0
      · subst y0
        by_cases z0 : z > 0 <;> simp [x0,ex,x1,z0]
      · have ey : (y == 0) = false:=by simpa using y0
        by_cases y1 : y > 0
        · by_cases z0 : z = 0
          · subst z0;simp [x0,ex,x1,y0,ey,y1]
          · have ez : (z == 0) = false:=by simpa using z0
            simp [x0,ex,x1,y0,ey,y1,z0,ez]
        · simp [x0,ex,x1,y0,ey,y1]
    · simp [x0,ex,x1]
theorem q13x {b : q8} (h : vB b) : w64 (2 * (w64 ((w64 ((w64 ((w64 (b.Hi.X - b.Lo.X)) * (w64 (b.Hi.Y - b.Lo.Y)))) + (w64 ((w64 (b.Hi.X - b.Lo.X)) * (w64 (b.Hi.Z - b.Lo.Z)))))) + (w64 ((w64 (b.Hi.Y - b.Lo.Y)) * (w64 (b.Hi.Z - b.Lo.Z))))))) = qab b:=by
  unfold vB at h
  rw [qr (x:=b.Hi.X - b.Lo.X) (by omega),qr (x:=b.Hi.Y - b.Lo.Y) (by omega),qr (x:=b.Hi.Z - b.Lo.Z) (by omega)]
  have p1:=qji (x:=b.Hi.X - b.Lo.X) (y:=b.Hi.Y - b.Lo.Y) (by omega) (by omega)
  have p2:=qji (x:=b.Hi.X - b.Lo.X) (y:=b.Hi.Z - b.Lo.Z) (by omega) (by omega)
  have p3:=qji (x:=b.Hi.Y - b.Lo.Y) (y:=b.Hi.Z - b.Lo.Z) (by omega) (by omega)
  unfold qab
  rw [qr (x:=(b.Hi.X - b.Lo.X) * (b.Hi.Y - b.Lo.Y)) (by omega),qr (x:=(b.Hi.X - b.Lo.X) * (b.Hi.Z - b.Lo.Z)) (by omega),qr (x:=(b.Hi.Y - b.Lo.Y) * (b.Hi.Z - b.Lo.Z)) (by omega)]
  rw [qr (x:=(b.Hi.X - b.Lo.X) * (b.Hi.Y - b.Lo.Y) + (b.Hi.X - b.Lo.X) * (b.Hi.Z - b.Lo.Z)) (by omega),qr (x:=(b.Hi.X - b.Lo.X) * (b.Hi.Y - b.Lo.Y) + (b.Hi.X - b.Lo.X) * (b.Hi.Z - b.Lo.Z) + (b.Hi.Y - b.Lo.Y) * (b.Hi.Z - b.Lo.Z)) (by omega),qr (by omega)]
theorem qyi {l : List q8} (hl : l.length≤1000000) (hv : ∀ c∈l,vB c) {b : q8} (hb : vB b) (n m : Int) (hn : n = w64 m) :
    loop (q6w l b) (n,0) = some (w64 (m - 2 * sumL (fun c=>q3q b c) l)):=by
  rw [qj8 l hl (fun n c=>w64 (n + (-2) * (if vB c then q3q b c else 0))) (fun n=>n) (q6w l b) (fun k hk s=>by
    have hc:=hv _ (List.getElem_mem hk)
    simp only [q6w,dlt hk,cond_true,q10 hk,Option.bind_some,qop hb hc,w64s hk hl,if_pos hc]
    rw [qwl]
    have : -(2 * q3q b l[k]) = -2 * q3q b l[k]:=by omega
    rw [this]) (fun s=>by simp only [q6w,dnl,cond_false]) n]
  rw [qhj (fun c=>-2 * (if vB c then q3q b c else 0)) l n m hn,qjt,q7h (g:=fun c=>q3q b c) fun c hc=>by rw [if_pos (hv c hc)]]
  congr 2
  omega
theorem qve {l : List q8} (hl : l.length≤400) (hv : ∀ c∈l,vB c) : loop (q6v l) (0,0) = some (w64 (qgd l)):=by
  have key:=q6u (f:=q6v l) (fun k=>(w64 (sumL qab (l.take k) - 2 * qbz q3q l k),(k : Int))) l.length (w64 (qgd l)) (fun k hk=>by
    have hb:=hv _ (List.getElem_mem hk)
    have hz : slc l 0 (k : Int) = some (l.take k):=by
      unfold slc;rw [if_pos (by omega)];simp
    have hin:=qyi (l:=l.take k) (by rw [List.length_take];omega) (fun c hc=>hv c (List.mem_of_mem_take hc)) hb (w64 (w64 (sumL qab (l.take k) - 2 * qbz q3q l k) + qab l[k])) (sumL qab (l.take k) - 2 * qbz q3q l k + qab l[k]) (qs4 _ _)
    simp only [q6v,dlt hk,cond_true,q10 hk,Option.bind_some,qd2,hz,q13x hb,hin,w64s hk (by omega)]
    congr 3
    rw [List.take_succ_eq_append_getElem hk,qbo]
    simp only [qbz,List.getElem?_eq_getElem hk,sumL,Int.add_zero]
    congr 1
    omega) (by
    simp only [q6v,dnl,cond_false,List.take_length];rfl) (Nat.zero_le _)
  have h0 : (w64 (sumL qab (l.take 0) - 2 * qbz q3q l 0),((0 : Nat) : Int)) = ((0 : Int),(0 : Int)):=by
    simp [sumL,qbz]
    exact qr (by omega)
  rw [h0] at key
  exact key
theorem qxo (b c : q8) : 0≤q3q b c:=by
  unfold q3q
  simp only
  split
  · rename_i h;exact Int.mul_nonneg (by omega) (by omega)
  · split
    · rename_i h;exact Int.mul_nonneg (by omega) (by omega)
    · split
      · rename_i h;exact Int.mul_nonneg (by omega) (by omega)
      · exact Int.le_refl _
noncomputable def qmm (l : List q8) : Int × Int:=if q1v l≠0 then (0,q1v l) else (qgd l,0)
theorem q12a (N : Nat) (P : Int→Int→Int→Prop) : 0≤qpu N P:=by
  unfold qpu
  have:=fun Q=>(qws N Q).1
  have h1:=this fun x y z=>P x y z∧¬ P (x + 1) y z
  have h2:=this fun x y z=>P x y z∧¬ P (x - 1) y z
  have h3:=this fun x y z=>P x y z∧¬ P x (y + 1) z
  have h4:=this fun x y z=>P x y z∧¬ P x (y - 1) z
  have h5:=this fun x y z=>P x y z∧¬ P x y (z + 1)
  have h6:=this fun x y z=>P x y z∧¬ P x y (z - 1)
  omega
theorem q129 {l : List q8} (h : q1v l = 0) : 0≤qgd l∧qgd l≤9600000000000000000 / 1000:=by
  obtain ⟨h1,h2,h3⟩:=q6l.1 h
  refine ⟨by rw [q10f h3 h2];exact q12a _ _,?_⟩
  have hp : ∀ n,0≤qbz q3q l n:=by
    intro n
    induction n with
    | zero=>exact Int.le_refl _
    | succ n ih=>
      rw [qbz]
      have : ∀ (b : q8) (l : List q8),0≤sumL (fun c=>q3q b c) l:=fun b l=>by
        induction l with
        | nil=>exact Int.le_refl _
        | cons c l ih=>rw [sumL];have:=qxo b c;omega
      split
      · rename_i b _;have:=this b (l.take n);omega
      · omega
  have hf : ∀ l : List q8,(∀ b∈l,vB b)→sumL qab l≤l.length * 24000000000000:=by
    intro l
    induction l with
    | nil=>intro _;exact Int.le_refl _
    | cons b l ih=>
      intro hv
      have i1:=ih fun c hc=>hv c (by simp [hc])
      have hb:=hv b (by simp)
      unfold vB at hb
      have p1:=(qsx (x:=b.Hi.X - b.Lo.X) (y:=b.Hi.Y - b.Lo.Y) (z:=0) (by omega) (by omega) (by omega)).1
      have p2:=(qsx (x:=b.Hi.X - b.Lo.X) (y:=b.Hi.Z - b.Lo.Z) (z:=0) (by omega) (by omega) (by omega)).1
      have p3:=(qsx (x:=b.Hi.Y - b.Lo.Y) (y:=b.Hi.Z - b.Lo.Z) (z:=0) (by omega) (by omega) (by omega)).1
      have : qab b≤24000000000000:=by unfold qab;omega
      rw [sumL,List.length_cons]
      omega
  have:=hf l h2
  have:=hp l.length
  unfold qgd
  omega
theorem qon (l : List q8) : qbf l = some (qmm l):=by
  unfold qbf qmm
  rw [q8z,Option.bind_some]
  by_cases h : ¬ q1v l = 0
  · have : (q1v l != 0) = true:=by simpa using h
    rw [if_pos h,this,cond_true]
  replace h:=Classical.not_not.1 h
  obtain ⟨hl,hv,hc⟩:=q6l.1 h
  have:=q129 h
  rw [if_neg (by simp [h]),h,show ((0 : Int) != 0) = false from rfl,cond_false,qve hl hv,qr (by omega)];rfl
end Go.Sh
namespace Go.Sh
open Go Go.Am
def grpR : List qb→List (Grp qe)
  | []=>[]
  | r::l=>match grpR l with
    | g::gs=>if g.lo = r.X0∧g.hi = r.X1 then ⟨g.lo,g.hi,ysp r::g.sec⟩::gs else ⟨r.X0,r.X1,[ysp r]⟩::g::gs
    | []=>[⟨r.X0,r.X1,[ysp r]⟩]
def grpB : List q8→List (Grp qb)
  | []=>[]
  | r::l=>match grpB l with
    | g::gs=>if g.lo = r.Lo.Z∧g.hi = r.Hi.Z then ⟨g.lo,g.hi,q97 r::g.sec⟩::gs else ⟨r.Lo.Z,r.Hi.Z,[q97 r]⟩::g::gs
    | []=>[⟨r.Lo.Z,r.Hi.Z,[q97 r]⟩]
theorem qrn : ∀ l : List qb,q65 putR (grpR l) = l
  | []=>rfl
  | r::l=>by
    have ih:=qrn l
    unfold grpR
    split
    · rename_i g gs h
      rw [h] at ih
      split
      · rename_i h1
        obtain ⟨h1,h2⟩:=h1
        rw [← ih]
        simp only [q65,List.flatMap_cons,List.map_cons,List.cons_append,h1,h2]
        congr 1
      · rw [← ih];rfl
    · rename_i h
      rw [h] at ih
      rw [← ih];rfl
theorem qrm : ∀ l : List q8,q65 putB (grpB l) = l
  | []=>rfl
  | r::l=>by
    have ih:=qrm l
    unfold grpB
    split
    · rename_i g gs h
      rw [h] at ih
      split
      · rename_i h1
        obtain ⟨h1,h2⟩:=h1
        rw [← ih]
        simp only [q65,List.flatMap_cons,List.map_cons,List.cons_append,h1,h2]
        congr 1
      · rw [← ih];rfl
    · rename_i h
      rw [h] at ih
      rw [← ih];rfl
instance {σ : Type} [DecidableEq σ] (gs : List (Grp σ)) : Decidable (CanG gs):=by unfold CanG;infer_instance
instance (s : List qe) : Decidable (Can s):=by unfold Can;infer_instance
def isR (l : List qb) : Prop:=CanG (grpR l)∧∀ g∈grpR l,Can g.sec
instance (l : List qb) : Decidable (isR l):=by unfold isR;infer_instance
def isB (l : List q8) : Prop:=CanG (grpB l)∧∀ g∈grpB l,isR g.sec
instance (l : List q8) : Decidable (isB l):=by unfold isB;infer_instance
theorem isR.can {l : List qb} (h : isR l) : CanR l:=⟨grpR l,(qrn l).symm,h.1,h.2⟩
theorem isB.can {l : List q8} (h : isB l) : CanB l:=⟨grpB l,(qrm l).symm,h.1,fun g hg=>(h.2 g hg).can⟩
theorem qyx {l : List q8} (h : l.length≤400∧(∀ b∈l,vB b)∧isB l) : q1v l = 0:=q6l.2 ⟨h.1,h.2.1,h.2.2.can⟩
theorem q13f {kind : Int} {p q out : List q8} (h : p.length + q.length≤100000) (ho : CanB out) (he : ∀ x y z,q5v kind (hasB p x y z) (hasB q x y z)↔hasB out x y z) : mrgB kind p q = out:=
  qn8 (qo2 kind h) ho fun x y z=>by rw [qnv kind h];exact he x y z
theorem qzn {l out : List q8} (h : l.length≤400∧(∀ b∈l,vB b)∧out.length≤400) (ho : isB out) (he : ∀ x y z,hasB l x y z↔hasB out x y z) : mkB l = (out,0):=by
  have e : mrgB 2 l [] = out:=q13f (by simp;omega) ho.can fun x y z=>by rw [qja,← he];simp [qgp]
  unfold mkB
  rw [if_neg (by omega),if_pos h.2.1,e,if_neg (by omega)]
def bx (x y z u v w : Int) : q8:={Lo:=({X:=x,Y:=y,Z:=z} : qk),Hi:=({X:=u,Y:=v,Z:=w} : qk)}
def q84 : List q8:=[bx 0 0 0 2 2 1,bx 0 0 1 1 2 2]
theorem axT9 : axT 9 = (⟨0,1,0⟩,⟨-1,0,0⟩,⟨0,0,1⟩):=by decide +kernel
theorem q12p : qfs = some true:=by
  have hst : q9r = some q84:=rfl
  have hc : q1v q84 = 0:=qyx (by decide)
  have hv : volume q84 = (6,0):=by unfold volume;rw [if_neg (by simp [hc])];rfl
  have hs : qmm q84 = (22,0):=by unfold qmm;rw [if_neg (by simp [hc])];rfl
  have hpl : place q84 ({Turn:=9,At:=({X:=0,Y:=0,Z:=0} : qk)} : q4l) = ([bx (-2) 0 0 0 2 1,bx (-2) 0 1 0 1 2],0):=by
    have e : q84.map (qai 9 ⟨0,0,0⟩) = [bx (-2) 0 0 0 2 1,bx (-2) 0 1 0 1 2]:=by
      simp only [q84,List.map_cons,List.map_nil,qai,q7b,axT9];rfl
    have e2 : ∀ b∈q84,vB (qai 9 ⟨0,0,0⟩ b):=by
      have : ∀ b∈q84.map (qai 9 ⟨0,0,0⟩),vB b:=by rw [e];decide
      intro b hb;exact this _ (List.mem_map_of_mem hb)
    unfold place
    rw [if_neg (by simp [hc]),if_neg (by unfold FOk InV;decide)]
    rw [if_pos (show ∀ b∈q84,vB (qai (Int.toNat 9) ⟨0,0,0⟩ b) from e2)]
    show mkB (q84.map (qai 9 ⟨0,0,0⟩)) = _
    rw [e]
    exact qzn (by decide) (by decide) fun x y z=>Iff.rfl
  have hm : mkB [bx 0 0 0 1 2 2,bx 1 0 0 2 2 1] = (q84,0):=qzn (by decide) (by decide) fun x y z=>by
    simp only [q84,qro,qgp,or_false,inB,bx];omega
  unfold qfs
  simp only [hst,Option.bind_some,qeq,hv,qon,hs,qqs _ _ (show (0 : Int)≤(({Turn:=9,At:=({X:=0,Y:=0,Z:=0} : qk)} : q4l)).Turn by decide),hpl,
    show q9g 0 0 0 1 2 2 = some (bx 0 0 0 1 2 2) from rfl,show q9g 1 0 0 2 2 1 = some (bx 1 0 0 2 2 1) from rfl,qg2,hm,
    show q9g (-2) 0 0 0 2 1 = some (bx (-2) 0 0 0 2 1) from rfl,show q9g (-2) 0 1 0 1 2 = some (bx (-2) 0 1 0 1 2) from rfl,
    sameBox _ _ (show [bx (-2) 0 0 0 2 1,bx (-2) 0 1 0 1 2].length≤1000000 by simp),sameBox _ _ (show q84.length≤1000000 by simp [q84]),decide_true,beq_self_eq_true,cond_true,
    qh6 q84 _ (show q84.length≤1000000 by simp [q84]),
    show decide (hasB q84 0 0 1) = true by decide,show decide (hasB q84 1 0 1) = false by decide,Bool.not_false]
theorem q14r (p q : List q8) : qif p q = some (decide ((p.length≤30∧q.length≤30)∧q1v p = 0∧q1v q = 0)):=by
  unfold qif
  simp only [qw2,Option.bind_some]
  by_cases h1 : p.length≤30
  · by_cases h2 : q.length≤30
    · rw [decide_eq_true (by omega : (p.length : Int)≤30),decide_eq_true (by omega : (q.length : Int)≤30)]
      simp only [cond_true,Option.bind_some]
      congr 1
      by_cases hp : q1v p = 0
      · rw [if_neg (by simp [hp])]
        by_cases hq : q1v q = 0
        · rw [hq];exact (decide_eq_true ⟨⟨h1,h2⟩,hp,rfl⟩).symm
        · rw [show (q1v q == 0) = false by simpa using hq];exact (decide_eq_false fun h=>hq h.2.2).symm
      · rw [if_pos hp,show (q1v p == 0) = false by simpa using hp];exact (decide_eq_false fun h=>hp h.2.1).symm
    · rw [decide_eq_true (by omega : (p.length : Int)≤30),decide_eq_false (by omega : ¬ (q.length : Int)≤30)]
      simp only [cond_true,cond_false,Option.bind_some]
      congr 1
      exact (decide_eq_false fun h=>h2 h.1.2).symm
  · rw [decide_eq_false (by omega : ¬ (p.length : Int)≤30)]
    simp only [cond_false,Option.bind_some]
    congr 1
    exact (decide_eq_false fun h=>h1 h.1.1).symm
instance (kind : Int) (a b : Prop) [Decidable a] [Decidable b] : Decidable (q5v kind a b):=by unfold q5v;infer_instance
end Go.Sh
namespace Go.Sh
open Go Go.Am
theorem q132 (N : Nat) (P : Int→Int→Prop) : 0≤cnt2 N P∧cnt2 N P≤2 * N * (2 * N * 1):=by
  constructor
  · exact qdj fun x _ _=>qdj fun y _ _=>qfr.1
  · rw [← qet (N:=N) (c:=1),← qet]
    exact qgi fun x _ _=>qgi fun y _ _=>qfr.2
theorem q10p {l : List qb} (h : q9m l = 0) : 0≤qdm l∧qdm l≤4000000000000:=by
  obtain ⟨h1,h2,h3⟩:=qj5.1 h
  rw [qyn h3 h2]
  have:=q132 1000000 (hasR l)
  omega
noncomputable def area (l : List qb) : Int × Int:=if q9m l≠0 then (0,q9m l) else (qdm l,0)
theorem qyq {r : qb} (h : vR r) : w64 ((w64 (r.X1 - r.X0)) * (w64 (r.Y1 - r.Y0))) = qj0 r:=by
  unfold vR at h
  rw [qr (x:=r.X1 - r.X0) (by omega),qr (x:=r.Y1 - r.Y0) (by omega)]
  have:=qji (x:=r.X1 - r.X0) (y:=r.Y1 - r.Y0) (by omega) (by omega)
  rw [qr (by omega)];rfl
theorem qqe (l : List qb) : qdb l = some (area l):=by
  unfold qdb area
  rw [qpi,Option.bind_some]
  by_cases h : ¬ q9m l = 0
  · have : (q9m l != 0) = true:=by simpa using h
    rw [if_pos h,this,cond_true]
  replace h:=Classical.not_not.1 h
  obtain ⟨hl,hv,hc⟩:=qj5.1 h
  have hb:=q10p h
  rw [if_neg (by simp [h]),h,show ((0 : Int) != 0) = false from rfl,cond_false]
  rw [qj8 l (by omega) (fun n b=>w64 (n + w64 ((w64 (b.X1 - b.X0)) * (w64 (b.Y1 - b.Y0))))) (fun n=>n) (q8y l) (fun k hk s=>by
      simp only [q8y,dlt hk,cond_true,q10 hk,Option.bind_some,w64s hk (by omega : l.length≤1000000)]) (fun s=>by simp only [q8y,dnl,cond_false]) 0]
  rw [qhy (g:=fun n b=>w64 (n + qj0 b)) fun b hb s=>by rw [qyq (hv b hb)]]
  rw [qhj qj0 l 0 0 (by rw [qr (by omega)]),qr (by unfold qdm at hb;omega),Int.zero_add];rfl
theorem q12q (l : List q8) (z : Int) : qdm (atB l z) = sumL (fun b=>qj0 (q97 b) * ind (b.Lo.Z≤z∧z < b.Hi.Z)) l:=by
  unfold qdm
  induction l with
  | nil=>rfl
  | cons b l ih=>
    have e : atB (b::l) z = (if covB z b = true then [q97 b] else []) ++ atB l z:=rfl
    rw [e,qbo,ih,sumL]
    congr 1
    by_cases hc : covB z b = true
    · rw [if_pos hc,qf2 (q9y.1 hc)];simp [sumL]
    · rw [if_neg hc,q8w (fun h=>hc (q9y.2 h))];simp [sumL]
theorem q10e {α : Type} {n : Nat} (f : α→Int→Int) (l : List α) : sumL (fun a=>sumN n (f a)) l = sumN n fun x=>sumL (fun a=>f a x) l:=by
  induction l with
  | nil=>exact qm2.symm
  | cons a l ih=>
    have : (fun x=>sumL (fun a=>f a x) (a::l)) = fun x=>f a x + (fun x=>sumL (fun a=>f a x) l) x:=rfl
    rw [sumL,ih,this,qot]
theorem q10q {l : List q8} {lo : Int} {n : Nat} (h : ∀ b∈l,lo≤b.Lo.Z∧b.Lo.Z≤b.Hi.Z∧b.Hi.Z≤lo + n) : sumN n (fun j=>qdm (atB l (lo + j))) = volL l:=by
  simp only [q12q]
  rw [← q10e]
  refine q7h fun b hb=>?_
  obtain ⟨h1,h2,h3⟩:=h b hb
  rw [qov]
  have : (fun j : Int=>ind (b.Lo.Z≤lo + j∧lo + j < b.Hi.Z)) = fun j=>ind (b.Lo.Z - lo≤j∧j < b.Hi.Z - lo):=by
    funext j;exact q9q ⟨fun h=>by omega,fun h=>by omega⟩
  rw [this,qou]
  have e : max 0 (min (b.Hi.Z - lo) n - max (b.Lo.Z - lo) 0) = b.Hi.Z - b.Lo.Z:=by omega
  rw [e];rfl
theorem qrp : ∀ (l : List q8) (s : q8),((l.foldl q4v s).Lo.Z≤s.Lo.Z∧s.Hi.Z≤(l.foldl q4v s).Hi.Z)∧∀ b∈l,(l.foldl q4v s).Lo.Z≤b.Lo.Z∧b.Hi.Z≤(l.foldl q4v s).Hi.Z
  | [],s=>⟨⟨Int.le_refl _,Int.le_refl _⟩,by simp⟩
  | b::l,s=>by
    obtain ⟨h1,h2⟩:=qrp l (q4v s b)
    have e1 : (q4v s b).Lo.Z≤s.Lo.Z∧(q4v s b).Lo.Z≤b.Lo.Z:=by unfold q4v;simp only;omega
    have e2 : s.Hi.Z≤(q4v s b).Hi.Z∧b.Hi.Z≤(q4v s b).Hi.Z:=by unfold q4v;simp only;omega
    rw [List.foldl_cons]
    refine ⟨by omega,fun c hc=>?_⟩
    rcases List.mem_cons.1 hc with rfl | hc
    · omega
    · exact h2 c hc
theorem q11h {l : List q8} : ∀ b∈l,(qmf l).Lo.Z≤b.Lo.Z∧b.Hi.Z≤(qmf l).Hi.Z:=by
  cases l with
  | nil=>simp
  | cons b l=>exact (qrp (b::l) b).2
theorem qsk {p : List q8} (hp : q1v p = 0) (h : q8 × Int) (hb : ∀ b∈p,h.1.Lo.Z≤b.Lo.Z∧b.Hi.Z≤h.1.Hi.Z) (hlo : -100≤h.1.Lo.Z) (hhi : h.1.Hi.Z≤100) (hne : p≠[]) :
    loop (q5q h p) (volL p,h.1.Lo.Z) = some (.inl 0):=by
  obtain ⟨lp,vp,cp⟩:=q6l.1 hp
  obtain ⟨b0,hb0⟩ : ∃ b,b∈p:=by cases p with
    | nil=>exact absurd rfl hne
    | cons b _=>exact ⟨b,by simp⟩
  have e0:=hb b0 hb0
  have e1:=vp b0 hb0
  have hle : h.1.Lo.Z≤h.1.Hi.Z:=by unfold vB at e1;omega
  obtain ⟨n,hn⟩ : ∃ n : Nat,h.1.Hi.Z = h.1.Lo.Z + n:=⟨(h.1.Hi.Z - h.1.Lo.Z).toNat,by omega⟩
  have hsum:=q10q (l:=p) (lo:=h.1.Lo.Z) (n:=n) fun b hbm=>by
    have:=hb b hbm
    have:=vp b hbm
    unfold vB at this
    omega
  have key:=q6u (f:=q5q h p) (fun k=>(w64 (volL p - sumN k (fun j=>qdm (atB p (h.1.Lo.Z + j)))),h.1.Lo.Z + k)) n (.inl 0) (fun k hk=>by
    have hd : decide (h.1.Lo.Z + (k : Int) < h.1.Hi.Z) = true:=decide_eq_true (by omega)
    have hw : w64 (h.1.Lo.Z + (k : Int) + 1) = h.1.Lo.Z + ((k + 1 : Nat) : Int):=by rw [qr (by omega)];omega
    simp only [q5q,hd,cond_true,qh7,qqe,Option.bind_some,qjn,area,hp,qr9 hp,ne_eq,not_true_eq_false,if_false,show ((0 : Int) != 0) = false from rfl,cond_false,hw,q10i]
    rw [sumN]
    congr 3
    congr 1
    omega) (by
    have hd : decide (h.1.Lo.Z + (n : Int) < h.1.Hi.Z) = false:=decide_eq_false (by omega)
    simp only [q5q,hd,cond_false]
    rw [hsum]
    simp
    exact qr (by omega)) (Nat.zero_le _)
  have bd:=qxe hp
  have h0 : (w64 (volL p - sumN 0 (fun j=>qdm (atB p (h.1.Lo.Z + j)))),h.1.Lo.Z + ((0 : Nat) : Int)) = (volL p,h.1.Lo.Z):=by
    simp only [sumN,Int.sub_zero]
    rw [qr (by omega)]
    simp
  rw [h0] at key
  exact key
theorem q13t (p : List q8) (v : qk) : qac p v = some true:=by
  classical
  unfold qac
  simp only [q12p,q14r,Option.bind_some]
  by_cases h : (p.length≤30∧([] : List q8).length≤30)∧q1v p = 0∧q1v [] = 0
  · rw [decide_eq_true h]
    obtain ⟨⟨l1,l2⟩,hp,_⟩:=h
    have hn:=q9f p v.Z
    have hh : (decide (hasR (atB p v.Z) v.X v.Y) == decide (hasB p v.X v.Y v.Z)) = true:=by
      by_cases a : hasB p v.X v.Y v.Z
      · have b:=qcq.2 a;simp [a,b]
      · have b : ¬ hasR (atB p v.Z) v.X v.Y:=fun b=>a (qcq.1 b);simp [a,b]
    simp only [Bool.not_true,cond_false,Option.bind_some,qh7,qjn,hp,ne_eq,not_true_eq_false,if_false,show ((0 : Int) != 0) = false from rfl,qum,qr9 hp,qjj _ _ _ (by omega : (atB p v.Z).length≤1000000),qh6 p v (by omega),hh,Bool.not_true,cond_false,qsp,hull,qeq,volume]
    by_cases hne : p = []
    · subst hne;rfl
    · rw [if_neg hne]
      simp only [show ((0 : Int) != 0) = false from rfl,cond_false]
      by_cases h1 : (qmf p).Lo.Z < -100
      · rw [decide_eq_true h1];rfl
      · by_cases h2 : (qmf p).Hi.Z > 100
        · rw [decide_eq_false h1,decide_eq_true h2];rfl
        · rw [decide_eq_false h1,decide_eq_false h2]
          simp only [cond_false,Option.bind_some]
          rw [qsk hp (qmf p,0) q11h (by simp only;omega) (by simp only;omega) hne];rfl
  · simp only [decide_eq_false h,Bool.not_false,cond_true,Option.bind_some]
end Go.Sh
