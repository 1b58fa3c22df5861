/- Qb2 Pf3 Rs5 Rs6 Rs7 Rs8 Rs9 Rs10 -/
import Derived.Test.YtjjmcdlnadkjbaaGreatK12
namespace Go.Sh
open Go Go.Am
def Yk {α : Type} (f : α→α→Int) (l : List α) : Nat→Int
  | 0=>0
  | n + 1=>Yk f l n + (match l[n]? with
    | some b=>sumL (fun c=>f b c) (l.take n)
    | none=>0)
theorem qiw {α : Type} (f : α→α→Int) (hs : ∀ a b,f a b = f b a) (l : List α) : ∀ n,n≤l.length→
    sumL (fun b=>sumL (fun c=>f b c) (l.take n)) (l.take n) = sumL (fun b=>f b b) (l.take n) + 2 * Yk f l n
  | 0,_=>by simp [sumL,Yk]
  | n + 1,h=>by
    have ih:=qiw f hs l n (by omega)
    rw [List.take_succ_eq_append_getElem (by omega)]
    simp only [q9c,sumL,Int.add_zero,Yk,List.getElem?_eq_getElem (show n < l.length by omega),qem]
    have : sumL (fun b=>f b l[n]) (l.take n) = sumL (fun c=>f l[n] c) (l.take n):=Zl fun b _=>hs b _
    rw [this]
    omega
theorem qkw {α : Type} (f g : α→α→Int) {l : List α} (hp : l.Pairwise fun a b=>f a b = g a b∧f b a = g b a) : ∀ n,n≤l.length→
    sumL (fun b=>sumL (fun c=>f b c - g b c) (l.take n)) (l.take n) = sumL (fun b=>f b b - g b b) (l.take n)
  | 0,_=>by simp [sumL]
  | n + 1,h=>by
    have ih:=qkw f g hp n (by omega)
    have hq:=List.pairwise_iff_getElem.1 hp
    rw [List.take_succ_eq_append_getElem (by omega)]
    simp only [q9c,sumL,Int.add_zero,qem,ih]
    have hm : ∀ b∈l.take n,f b l[n] = g b l[n]∧f l[n] b = g l[n] b:=fun b hb=>by
      obtain ⟨i,hi,rfl⟩:=List.getElem_of_mem hb
      rw [List.length_take] at hi
      rw [List.getElem_take]
      exact hq i n (by omega) (by omega) (by omega)
    have s1 : sumL (fun b=>f b l[n] - g b l[n]) (l.take n) = 0:=(Zl (g:=fun _=>0) fun b hb=>by have:=hm b hb;omega).trans (qky _)
    have s2 : sumL (fun c=>f l[n] c - g l[n] c) (l.take n) = 0:=(Zl (g:=fun _=>0) fun b hb=>by have:=hm b hb;omega).trans (qky _)
    omega
theorem qhq {a b c : Prop} : ind (a∧b∧c) = ind a * (ind b * ind c):=by rw [q4k,q4k]
def ov (a0 a1 b0 b1 : Int) : Int:=max 0 (min a1 b1 - max a0 b0)
theorem qeq {N : Nat} {a0 a1 b0 b1 : Int} (h1 : -N≤a0) (h2 : a1≤N) : sumZ N (fun x=>ind (a0≤x∧x < a1) * ind (b0≤x∧x < b1)) = ov a0 a1 b0 b1:=by
  have : (fun x : Int=>ind (a0≤x∧x < a1) * ind (b0≤x∧x < b1)) = fun x=>ind (max a0 b0≤x∧x < min a1 b1):=by
    funext x
    rw [← q4k]
    exact Jd ⟨fun h=>by omega,fun h=>by omega⟩
  rw [this]
  unfold ov
  by_cases h : max a0 b0≤min a1 b1
  · by_cases hb : b0≤a1∧a0≤b1
    · rw [qbg (by omega) h (by omega)];omega
    · omega
  · have : (fun x : Int=>ind (max a0 b0≤x∧x < min a1 b1)) = fun _=>0:=by
      funext x;exact Zw (by omega)
    rw [this,qer];omega
theorem qnh {N : Nat} {b : qg} {cx0 cx1 cy0 cy1 cz0 cz1 : Int} (h : (-(N : Int)≤b.Lo.X∧-(N : Int)≤b.Lo.Y∧-(N : Int)≤b.Lo.Z)∧b.Hi.X≤N∧b.Hi.Y≤N∧b.Hi.Z≤N) :
    (sumZ N fun x=>sumZ N fun y=>sumZ N fun z=>ind (inB b x y z) * ind ((cx0≤x∧x < cx1)∧(cy0≤y∧y < cy1)∧(cz0≤z∧z < cz1))) = ov b.Lo.X b.Hi.X cx0 cx1 * (ov b.Lo.Y b.Hi.Y cy0 cy1 * ov b.Lo.Z b.Hi.Z cz0 cz1):=by
  obtain ⟨⟨h4,h5,h6⟩,h7,h8,h9⟩:=h
  have e : ∀ x y,(sumZ N fun z=>ind (inB b x y z) * ind ((cx0≤x∧x < cx1)∧(cy0≤y∧y < cy1)∧(cz0≤z∧z < cz1))) = (ind (b.Lo.X≤x∧x < b.Hi.X) * ind (cx0≤x∧x < cx1)) * ((ind (b.Lo.Y≤y∧y < b.Hi.Y) * ind (cy0≤y∧y < cy1)) * ov b.Lo.Z b.Hi.Z cz0 cz1):=fun x y=>by
    have : (fun z=>ind (inB b x y z) * ind ((cx0≤x∧x < cx1)∧(cy0≤y∧y < cy1)∧(cz0≤z∧z < cz1))) = fun z=>(ind (b.Lo.X≤x∧x < b.Hi.X) * ind (cx0≤x∧x < cx1)) * ((ind (b.Lo.Y≤y∧y < b.Hi.Y) * ind (cy0≤y∧y < cy1)) * (ind (b.Lo.Z≤z∧z < b.Hi.Z) * ind (cz0≤z∧z < cz1))):=by
      funext z;unfold inB;rw [qhq,qhq]
      simp only [Int.mul_assoc,Int.mul_left_comm,Int.mul_comm]
    rw [this,q13,q13,qeq h6 h9]
  have e2 : ∀ x,(sumZ N fun y=>sumZ N fun z=>ind (inB b x y z) * ind ((cx0≤x∧x < cx1)∧(cy0≤y∧y < cy1)∧(cz0≤z∧z < cz1))) = (ov b.Lo.Y b.Hi.Y cy0 cy1 * ov b.Lo.Z b.Hi.Z cz0 cz1) * (ind (b.Lo.X≤x∧x < b.Hi.X) * ind (cx0≤x∧x < cx1)):=fun x=>by
    have : (fun y=>sumZ N fun z=>ind (inB b x y z) * ind ((cx0≤x∧x < cx1)∧(cy0≤y∧y < cy1)∧(cz0≤z∧z < cz1))) = fun y=>((ind (b.Lo.X≤x∧x < b.Hi.X) * ind (cx0≤x∧x < cx1)) * ov b.Lo.Z b.Hi.Z cz0 cz1) * (ind (b.Lo.Y≤y∧y < b.Hi.Y) * ind (cy0≤y∧y < cy1)):=by
      funext y;rw [e];simp only [Int.mul_assoc,Int.mul_left_comm,Int.mul_comm]
    rw [this,q13,qeq h5 h8]
    simp only [Int.mul_assoc,Int.mul_left_comm,Int.mul_comm]
  simp only [e2]
  rw [q13,qeq h4 h7,Int.mul_comm]
def Jk (b c : qg) : Int:=
  ov b.Lo.X b.Hi.X (c.Lo.X - 1) (c.Hi.X - 1) * (ov b.Lo.Y b.Hi.Y c.Lo.Y c.Hi.Y * ov b.Lo.Z b.Hi.Z c.Lo.Z c.Hi.Z) + ov b.Lo.X b.Hi.X (c.Lo.X + 1) (c.Hi.X + 1) * (ov b.Lo.Y b.Hi.Y c.Lo.Y c.Hi.Y * ov b.Lo.Z b.Hi.Z c.Lo.Z c.Hi.Z) +
  (ov b.Lo.X b.Hi.X c.Lo.X c.Hi.X * (ov b.Lo.Y b.Hi.Y (c.Lo.Y - 1) (c.Hi.Y - 1) * ov b.Lo.Z b.Hi.Z c.Lo.Z c.Hi.Z) + ov b.Lo.X b.Hi.X c.Lo.X c.Hi.X * (ov b.Lo.Y b.Hi.Y (c.Lo.Y + 1) (c.Hi.Y + 1) * ov b.Lo.Z b.Hi.Z c.Lo.Z c.Hi.Z)) +
  (ov b.Lo.X b.Hi.X c.Lo.X c.Hi.X * (ov b.Lo.Y b.Hi.Y c.Lo.Y c.Hi.Y * ov b.Lo.Z b.Hi.Z (c.Lo.Z - 1) (c.Hi.Z - 1)) + ov b.Lo.X b.Hi.X c.Lo.X c.Hi.X * (ov b.Lo.Y b.Hi.Y c.Lo.Y c.Hi.Y * ov b.Lo.Z b.Hi.Z (c.Lo.Z + 1) (c.Hi.Z + 1)))
def K6 (a b : qg) : Int:=
  let x:=min a.Hi.X b.Hi.X - max a.Lo.X b.Lo.X
  let y:=min a.Hi.Y b.Hi.Y - max a.Lo.Y b.Lo.Y
  let z:=min a.Hi.Z b.Hi.Z - max a.Lo.Z b.Lo.Z
  if x = 0∧y > 0∧z > 0 then y * z else if x > 0∧y = 0∧z > 0 then x * z else if x > 0∧y > 0∧z = 0 then x * y else 0
theorem qno (a b : qg) : K6 a b = K6 b a:=by
  unfold K6
  simp only [Int.min_comm b.Hi.X,Int.max_comm b.Lo.X,Int.min_comm b.Hi.Y,Int.max_comm b.Lo.Y,Int.min_comm b.Hi.Z,Int.max_comm b.Lo.Z]
def ltB (b : qg) : Prop:=b.Lo.X < b.Hi.X∧b.Lo.Y < b.Hi.Y∧b.Lo.Z < b.Hi.Z
theorem ov3 {a0 a1 b0 b1 : Int} (ha : a0 < a1) (hb : b0 < b1) :
    (min a1 b1 - max a0 b0 < 0∧ov a0 a1 b0 b1 = 0∧ov a0 a1 (b0 - 1) (b1 - 1) + ov a0 a1 (b0 + 1) (b1 + 1) = 0∧ov a0 a1 (b0 - 1) (b1 - 1) = 0∧ov a0 a1 (b0 + 1) (b1 + 1) = 0)∨
    (min a1 b1 - max a0 b0 = 0∧ov a0 a1 b0 b1 = 0∧ov a0 a1 (b0 - 1) (b1 - 1) + ov a0 a1 (b0 + 1) (b1 + 1) = 1)∨
    (min a1 b1 - max a0 b0 > 0∧ov a0 a1 b0 b1 = min a1 b1 - max a0 b0):=by
  unfold ov;omega
theorem qks {b c : qg} (hb : ltB b) (hc : ltB c) (hd : ∀ x y z,¬ (inB b x y z∧inB c x y z)) : Jk b c = K6 b c:=by
  obtain ⟨b1,b2,b3⟩:=hb
  obtain ⟨c1,c2,c3⟩:=hc
  have hdis : ¬ (min b.Hi.X c.Hi.X - max b.Lo.X c.Lo.X > 0∧min b.Hi.Y c.Hi.Y - max b.Lo.Y c.Lo.Y > 0∧min b.Hi.Z c.Hi.Z - max b.Lo.Z c.Lo.Z > 0):=fun ⟨h1,h2,h3⟩=>
    hd (max b.Lo.X c.Lo.X) (max b.Lo.Y c.Lo.Y) (max b.Lo.Z c.Lo.Z) (by unfold inB;omega)
  have key : ∀ {X0 X1 Y0 Y1 Z0 Z1 x y z : Int},((x < 0∧X0 = 0∧X1 = 0)∨(x = 0∧X0 = 0∧X1 = 1)∨(x > 0∧X0 = x))→((y < 0∧Y0 = 0∧Y1 = 0)∨(y = 0∧Y0 = 0∧Y1 = 1)∨(y > 0∧Y0 = y))→
      ((z < 0∧Z0 = 0∧Z1 = 0)∨(z = 0∧Z0 = 0∧Z1 = 1)∨(z > 0∧Z0 = z))→¬ (x > 0∧y > 0∧z > 0)→
      X1 * (Y0 * Z0) + X0 * (Y1 * Z0) + X0 * (Y0 * Z1) = if x = 0∧y > 0∧z > 0 then y * z else if x > 0∧y = 0∧z > 0 then x * z else if x > 0∧y > 0∧z = 0 then x * y else 0:=by
    intro X0 X1 Y0 Y1 Z0 Z1 x y z hx hy hz hn
    rcases hx with ⟨hx,rfl,rfl⟩ | ⟨rfl,rfl,rfl⟩ | ⟨hx,rfl⟩ <;> rcases hy with ⟨hy,rfl,rfl⟩ | ⟨rfl,rfl,rfl⟩ | ⟨hy,rfl⟩ <;> rcases hz with ⟨hz,rfl,rfl⟩ | ⟨rfl,rfl,rfl⟩ | ⟨hz,rfl⟩ <;>
      first
        | (exfalso;omega)
        | (simp only [Int.zero_mul,Int.mul_zero,Int.add_zero,Int.zero_add,Int.one_mul,Int.mul_one];clear hd hdis b1 b2 b3 c1 c2 c3;(repeat' split) <;> first | omega | (simp_all;done) | (simp_all;omega))
  have e : Jk b c = (ov b.Lo.X b.Hi.X (c.Lo.X - 1) (c.Hi.X - 1) + ov b.Lo.X b.Hi.X (c.Lo.X + 1) (c.Hi.X + 1)) * (ov b.Lo.Y b.Hi.Y c.Lo.Y c.Hi.Y * ov b.Lo.Z b.Hi.Z c.Lo.Z c.Hi.Z) +
      ov b.Lo.X b.Hi.X c.Lo.X c.Hi.X * ((ov b.Lo.Y b.Hi.Y (c.Lo.Y - 1) (c.Hi.Y - 1) + ov b.Lo.Y b.Hi.Y (c.Lo.Y + 1) (c.Hi.Y + 1)) * ov b.Lo.Z b.Hi.Z c.Lo.Z c.Hi.Z) +
      ov b.Lo.X b.Hi.X c.Lo.X c.Hi.X * (ov b.Lo.Y b.Hi.Y c.Lo.Y c.Hi.Y * (ov b.Lo.Z b.Hi.Z (c.Lo.Z - 1) (c.Hi.Z - 1) + ov b.Lo.Z b.Hi.Z (c.Lo.Z + 1) (c.Hi.Z + 1))):=by
    unfold Jk;simp only [Int.add_mul,Int.mul_add]
  rw [e]
  unfold K6
  refine key ?_ ?_ ?_ hdis
  · rcases ov3 b1 c1 with h | h | h
    · exact .inl ⟨h.1,h.2.1,h.2.2.1⟩
    · exact .inr (.inl h)
    · exact .inr (.inr h)
  · rcases ov3 b2 c2 with h | h | h
    · exact .inl ⟨h.1,h.2.1,h.2.2.1⟩
    · exact .inr (.inl h)
    · exact .inr (.inr h)
  · rcases ov3 b3 c3 with h | h | h
    · exact .inl ⟨h.1,h.2.1,h.2.2.1⟩
    · exact .inr (.inl h)
    · exact .inr (.inr h)
def Y2 (b : qg) : Int:=2 * ((b.Hi.X - b.Lo.X) * (b.Hi.Y - b.Lo.Y) + (b.Hi.X - b.Lo.X) * (b.Hi.Z - b.Lo.Z) + (b.Hi.Y - b.Lo.Y) * (b.Hi.Z - b.Lo.Z))
theorem qy7 {b : qg} (hb : ltB b) : 6 * volB b - Jk b b = Y2 b:=by
  obtain ⟨b1,b2,b3⟩:=hb
  have o : ∀ {a c : Int},a < c→ov a c a c = c - a∧ov a c (a - 1) (c - 1) = c - a - 1∧ov a c (a + 1) (c + 1) = c - a - 1:=fun h=>by unfold ov;omega
  obtain ⟨x0,x1,x2⟩:=o b1
  obtain ⟨y0,y1,y2⟩:=o b2
  obtain ⟨z0,z1,z2⟩:=o b3
  unfold Jk volB Y2
  rw [x0,x1,x2,y0,y1,y2,z0,z1,z2]
  generalize b.Hi.X - b.Lo.X = x
  generalize b.Hi.Y - b.Lo.Y = y
  generalize b.Hi.Z - b.Lo.Z = z
  simp only [Int.sub_mul,Int.mul_sub,Int.one_mul,Int.mul_one,Int.mul_assoc]
  omega
noncomputable def q9d (N : Nat) (P : Int→Int→Int→Prop) : Int:=
  (cnt3 N (fun x y z=>P x y z∧¬ P (x + 1) y z) + cnt3 N (fun x y z=>P x y z∧¬ P (x - 1) y z)) +
  (cnt3 N (fun x y z=>P x y z∧¬ P x (y + 1) z) + cnt3 N (fun x y z=>P x y z∧¬ P x (y - 1) z)) +
  (cnt3 N (fun x y z=>P x y z∧¬ P x y (z + 1)) + cnt3 N (fun x y z=>P x y z∧¬ P x y (z - 1)))
def Z6 (l : List qg) : Int:=sumL Y2 l - 2 * Yk K6 l l.length
def vBN (N : Nat) (b : qg) : Prop:=ltB b∧(-(N : Int)≤b.Lo.X∧-(N : Int)≤b.Lo.Y∧-(N : Int)≤b.Lo.Z)∧b.Hi.X≤N∧b.Hi.Y≤N∧b.Hi.Z≤N
theorem q49 {N : Nat} {l : List qg} (hc : ∀ x y z,cntB l x y z = ind (hasB l x y z)) (h : ∀ b∈l,vBN N b) (dx dy dz : Int) :
    cnt3 N (fun x y z=>hasB l x y z∧¬ hasB l (x + dx) (y + dy) (z + dz)) = volL l - sumL (fun b=>sumL (fun c=>ov b.Lo.X b.Hi.X (c.Lo.X - dx) (c.Hi.X - dx) * (ov b.Lo.Y b.Hi.Y (c.Lo.Y - dy) (c.Hi.Y - dy) * ov b.Lo.Z b.Hi.Z (c.Lo.Z - dz) (c.Hi.Z - dz))) l) l:=by
  have e1 : ∀ x y z,ind (hasB l x y z∧¬ hasB l (x + dx) (y + dy) (z + dz)) = ind (hasB l x y z) - sumL (fun b=>sumL (fun c=>ind (inB b x y z) * ind ((c.Lo.X - dx≤x∧x < c.Hi.X - dx)∧(c.Lo.Y - dy≤y∧y < c.Hi.Y - dy)∧(c.Lo.Z - dz≤z∧z < c.Hi.Z - dz))) l) l:=fun x y z=>by
    have e2 : sumL (fun b=>sumL (fun c=>ind (inB b x y z) * ind ((c.Lo.X - dx≤x∧x < c.Hi.X - dx)∧(c.Lo.Y - dy≤y∧y < c.Hi.Y - dy)∧(c.Lo.Z - dz≤z∧z < c.Hi.Z - dz))) l) l = ind (hasB l x y z) * ind (hasB l (x + dx) (y + dy) (z + dz)):=by
      rw [← hc,← hc]
      have e3 : ∀ b : qg,sumL (fun c : qg=>ind (inB b x y z) * ind ((c.Lo.X - dx≤x∧x < c.Hi.X - dx)∧(c.Lo.Y - dy≤y∧y < c.Hi.Y - dy)∧(c.Lo.Z - dz≤z∧z < c.Hi.Z - dz))) l = cntB l (x + dx) (y + dy) (z + dz) * ind (inB b x y z):=fun b=>by
        rw [qbe,Int.mul_comm]
        unfold cntB
        rw [Zl fun c _=>Jd (q:=inB c (x + dx) (y + dy) (z + dz)) ⟨fun h=>by unfold inB;omega,fun h=>by unfold inB at h;omega⟩]
      simp only [e3]
      rw [qbe,Int.mul_comm]
      rfl
    rw [e2,q4k,qp4,Int.mul_sub,Int.mul_one]
  unfold cnt3
  simp only [e1,qyj]
  have e4 : (sumZ N fun x=>sumZ N fun y=>sumZ N fun z=>ind (hasB l x y z)) = volL l:=(qev hc fun b hb=>by have:=h b hb;unfold vBN ltB at this;omega).symm
  rw [e4]
  congr 1
  simp only [← qbf]
  refine Zl fun b hb=>Zl fun c hcm=>?_
  have:=h b hb
  unfold vBN at this
  exact qnh this.2
theorem qni {l : List qg} (hc : ∀ x y z,cntB l x y z = ind (hasB l x y z)) : l.Pairwise fun b c=>∀ x y z,¬ (inB b x y z∧inB c x y z):=by
  have key : ∀ l : List qg,(∀ x y z,cntB l x y z≤1)→l.Pairwise fun b c=>∀ x y z,¬ (inB b x y z∧inB c x y z):=by
    intro l
    induction l with
    | nil=>intro _;exact .nil
    | cons b l ih=>
      intro h
      have nn : ∀ (l : List qg) x y z,0≤cntB l x y z:=fun l x y z=>by
        unfold cntB;induction l with
        | nil=>exact Int.le_refl _
        | cons c l ih=>have:=(q4l (p:=inB c x y z)).1;rw [sumL];omega
      have hh : ∀ x y z,ind (inB b x y z) + cntB l x y z≤1:=h
      refine List.pairwise_cons.2 ⟨fun c hc x y z ⟨h1,h2⟩=>?_,ih fun x y z=>by have:=hh x y z;have:=(q4l (p:=inB b x y z)).1;omega⟩
      have h3:=hh x y z
      rw [q4m h1] at h3
      have h4 : ∀ l : List qg,c∈l→1≤cntB l x y z:=by
        intro l
        induction l with
        | nil=>intro h;cases h
        | cons d l ih2=>
          intro hm
          have e : cntB (d::l) x y z = ind (inB d x y z) + cntB l x y z:=rfl
          rcases List.mem_cons.1 hm with rfl | hm
          · have:=nn l x y z;rw [e,q4m h2];omega
          · have:=ih2 hm;have:=(q4l (p:=inB d x y z)).1;rw [e];omega
      have:=h4 l hc
      omega
  exact key l fun x y z=>by rw [hc];exact q4l.2
theorem ql7 {N : Nat} {l : List qg} (hc : ∀ x y z,cntB l x y z = ind (hasB l x y z)) (h : ∀ b∈l,vBN N b) : Z6 l = q9d N (hasB l):=by
  have hd:=qni hc
  have e1:=q49 hc h 1 0 0
  have e2:=q49 hc h (-1) 0 0
  have e3:=q49 hc h 0 1 0
  have e4:=q49 hc h 0 (-1) 0
  have e5:=q49 hc h 0 0 1
  have e6:=q49 hc h 0 0 (-1)
  simp only [Int.add_zero,Int.sub_zero,Int.sub_neg,← Int.sub_eq_add_neg] at e1 e2 e3 e4 e5 e6
  unfold q9d
  rw [e1,e2,e3,e4,e5,e6]
  have e7 : sumL (fun b=>sumL (fun c=>Jk b c) l) l = 6 * volL l - sumL Y2 l + 2 * Yk K6 l l.length:=by
    have h1:=qkw Jk K6 (l:=l) (List.Pairwise.imp_of_mem (fun {b c} hb hcm hdis=>⟨qks (h b hb).1 (h c hcm).1 hdis,qks (h c hcm).1 (h b hb).1 fun x y z hh=>hdis x y z ⟨hh.2,hh.1⟩⟩) hd) l.length (Nat.le_refl _)
    have h2:=qiw K6 qno l l.length (Nat.le_refl _)
    rw [List.take_length] at h1 h2
    simp only [qkx] at h1
    have h3 : sumL (fun b=>6 * volB b - Jk b b) l = sumL Y2 l:=Zl fun b hb=>qy7 (h b hb).1
    rw [qkx,qbe] at h3
    unfold volL
    have h4 : sumL (fun b=>sumL (fun c=>Jk b c) l) l - sumL (fun b=>sumL (fun c=>K6 b c) l) l = sumL (fun b=>Jk b b) l - sumL (fun b=>K6 b b) l:=h1
    omega
  unfold Z6
  unfold Jk at e7
  simp only [qem] at e7
  omega
theorem q26 {b : qg} (h : vB b) : vBN 1000000 b:=by unfold vB at h;unfold vBN ltB;omega
theorem ql6 {l : List qg} (hc : CanB l) (h : ∀ b∈l,vB b) : Z6 l = q9d 1000000 (hasB l):=ql7 hc.cnt fun b hb=>q26 (h b hb)
end Go.Sh
namespace Go.Sh
open Go Go.Am
theorem qzy {n : Int} (h : (Lit.int .u8 n).wf = true) : 0≤n:=by
  simp [Lit.wf,IntKind.min,IntKind.max,IntKind.signed,IntKind.bits] at h
  omega
abbrev V3:=qj × qj × qj
def zeroV : qj:=⟨0,0,0⟩
noncomputable def axT (t : Nat) : V3:=match q1a (t : Int) with
  | some m=>m
  | none=>(zeroV,zeroV,zeroV)
theorem qa3 : ∀ t : Nat,t < 24→q1a (t : Int) = some (axT t):=by decide +kernel
noncomputable def qjn (t : Nat) : List Int:=match iter (q7o (t : Int)) 7 (0,[]) with
  | some b=>b
  | none=>[]
theorem qp0 : ∀ t : Nat,t < 24→iter (q7o (t : Int)) 7 (0,[]) = some (qjn t):=by decide +kernel
theorem qp2 : ∀ t : Nat,t < 24→((idx (qjn t) (Int.tmod (t : Int) 4)).bind fun v21=>(U5 (w64 (Int.tdiv (t : Int) 4))).bind fun r23=>(U5 v21).bind fun r25=>(U5 (w64 (Int.tdiv (t : Int) 4))).bind fun r27=>(U5 v21).bind fun r29=>(qaq r27 r29).bind fun r31=>some (r23,r25,r31)) = some (axT t):=by decide +kernel
theorem qp1 (t : Nat) (h : t < 24) : q7n (t : Int) = some (axT t):=by
  unfold q7n
  rw [q4r.2 ⟨7,qp0 t h⟩]
  exact qp2 t h
def Ya (v : qj) : Prop:=-1≤v.X∧v.X≤1∧-1≤v.Y∧v.Y≤1∧-1≤v.Z∧v.Z≤1
instance (v : qj) : Decidable (Ya v):=by unfold Ya;infer_instance
theorem q46 : ∀ t : Nat,t < 24→Ya (axT t).1∧Ya (axT t).2.1∧Ya (axT t).2.2:=by decide +kernel
theorem qm9 : ∀ t : Nat,t < 24→∀ u : Nat,u < 24→axT t = axT u→t = u:=by decide +kernel
def mulV (m : V3) (v : qj) : qj:=⟨v.X * m.1.X + v.Y * m.2.1.X + v.Z * m.2.2.X,v.X * m.1.Y + v.Y * m.2.1.Y + v.Z * m.2.2.Y,v.X * m.1.Z + v.Y * m.2.1.Z + v.Z * m.2.2.Z⟩
def addV (a b : qj) : qj:=⟨a.X + b.X,a.Y + b.Y,a.Z + b.Z⟩
def Kc (v : qj) (n : Int) : Prop:=-n≤v.X∧v.X≤n∧-n≤v.Y∧v.Y≤n∧-n≤v.Z∧v.Z≤n
theorem qq4 {a b : Int} {n : Int} (ha : -n≤a∧a≤n) (hb : -1≤b∧b≤1) : -n≤a * b∧a * b≤n:=by
  have : b = -1∨b = 0∨b = 1:=by omega
  rcases this with rfl | rfl | rfl <;> simp <;> omega
theorem qdc {m : V3} {v : qj} {n : Int} (hm : Ya m.1∧Ya m.2.1∧Ya m.2.2) (hv : Kc v n) :
    (∀ a∈[v.X * m.1.X,v.Y * m.2.1.X,v.Z * m.2.2.X,v.X * m.1.Y,v.Y * m.2.1.Y,v.Z * m.2.2.Y,v.X * m.1.Z,v.Y * m.2.1.Z,v.Z * m.2.2.Z],-n≤a∧a≤n):=by
  obtain ⟨⟨a1,a2,a3,a4,a5,a6⟩,⟨b1,b2,b3,b4,b5,b6⟩,⟨c1,c2,c3,c4,c5,c6⟩⟩:=hm
  obtain ⟨v1,v2,v3,v4,v5,v6⟩:=hv
  intro a ha
  simp only [List.mem_cons,List.not_mem_nil,or_false] at ha
  rcases ha with rfl | rfl | rfl | rfl | rfl | rfl | rfl | rfl | rfl <;> exact qq4 ⟨by assumption,by assumption⟩ ⟨by assumption,by assumption⟩
theorem qaf {m : V3} {v : qj} {n : Int} (hm : Ya m.1∧Ya m.2.1∧Ya m.2.2) (hv : Kc v n) : Kc (mulV m v) (3 * n):=by
  have b:=qdc hm hv
  simp only [List.mem_cons,List.not_mem_nil,or_false,forall_eq_or_imp,forall_eq] at b
  unfold Kc mulV
  simp only
  omega
theorem qa6 {m : V3} {v : qj} (hm : Ya m.1∧Ya m.2.1∧Ya m.2.2) (hv : Kc v 1000000000000) : q4h m v = some (mulV m v):=by
  have b:=qdc hm hv
  simp only [List.mem_cons,List.not_mem_nil,or_false,forall_eq_or_imp,forall_eq] at b
  unfold q4h mulV
  congr 2
  · rw [qu (x:=v.X * m.1.X) (by omega),qu (x:=v.Y * m.2.1.X) (by omega),qu (x:=v.Z * m.2.2.X) (by omega),qu (x:=v.X * m.1.X + _) (by omega),qu (by omega)]
  · rw [qu (x:=v.X * m.1.Y) (by omega),qu (x:=v.Y * m.2.1.Y) (by omega),qu (x:=v.Z * m.2.2.Y) (by omega),qu (x:=v.X * m.1.Y + _) (by omega),qu (by omega)]
  · rw [qu (x:=v.X * m.1.Z) (by omega),qu (x:=v.Y * m.2.1.Z) (by omega),qu (x:=v.Z * m.2.2.Z) (by omega),qu (x:=v.X * m.1.Z + _) (by omega),qu (by omega)]
theorem qs9 {m : V3} {v : qj} (hm : Ya m.1∧Ya m.2.1∧Ya m.2.2) (hv : Kc v 1000000000000) : q7q m v = some (mulV m v):=by
  have b:=qdc hm hv
  simp only [List.mem_cons,List.not_mem_nil,or_false,forall_eq_or_imp,forall_eq] at b
  unfold q7q q1q U6 mulV
  simp only [Option.bind_some]
  congr 2
  · rw [qu (x:=v.X * m.1.X) (by omega),qu (x:=v.Y * m.2.1.X) (by omega),qu (x:=v.Z * m.2.2.X) (by omega),qu (x:=v.Y * m.2.1.X + _) (by omega),qu (by omega)];omega
  · rw [qu (x:=v.X * m.1.Y) (by omega),qu (x:=v.Y * m.2.1.Y) (by omega),qu (x:=v.Z * m.2.2.Y) (by omega),qu (x:=v.Y * m.2.1.Y + _) (by omega),qu (by omega)];omega
  · rw [qu (x:=v.X * m.1.Z) (by omega),qu (x:=v.Y * m.2.1.Z) (by omega),qu (x:=v.Z * m.2.2.Z) (by omega),qu (x:=v.Y * m.2.1.Z + _) (by omega),qu (by omega)];omega
noncomputable def Km (t : Nat) (at_ v : qj) : qj:=addV (mulV (axT t) v) at_
theorem qcm {f : Qj} {t : Nat} {v : qj} (ht : f.Turn = t) (h : t < 24) (ha : Kc f.At 1000000000000) (hv : Kc v 1000000000000) : q2k f v = some (Km t f.At v):=by
  have hu:=q46 t h
  unfold q2k
  rw [ht,qa3 t h]
  simp only [Option.bind_some,qa6 hu hv]
  have b:=qaf hu hv
  unfold Kc at b ha
  unfold Km addV
  rw [qu (by omega),qu (by omega),qu (by omega)]
theorem qjc {f : Qj} {t : Nat} {v : qj} (ht : f.Turn = t) (h : t < 24) (ha : Kc f.At 1000000000000) (hv : Kc v 1000000000000) : q54 f v = some (Km t f.At v):=by
  have hu:=q46 t h
  unfold q54
  rw [ht,qu (by omega),qp1 t h]
  simp only [Option.bind_some,qs9 hu hv]
  have b:=qaf hu hv
  unfold Kc at b ha
  unfold Km addV U6
  simp only [Option.bind_some]
  rw [qu (by omega),qu (by omega),qu (by omega)]
theorem qq5 {u : Nat} (h : u < 24) : q74 (axT u) = some (u : Int):=by
  have key:=Zd (f:=q4g (axT u)) (σ:=Unit) (fun k _=>(k : Int)) 24 (fun k _=>k≤u) (fun b=>b = .inr (u : Int)) ?_ ?_ (k0:=0) (c0:=()) (by omega) (by omega)
  · obtain ⟨b,h1,rfl⟩:=key
    have h1 : loop (q4g (axT u)) 0 = some (.inr (u : Int)):=h1
    unfold q74;rw [h1];rfl
  · intro k _ hk hku
    have hb : decide ((k : Int) < 24) = true:=decide_eq_true (by omega)
    simp only [q4g,hb,cond_true,qa3 k hk,Option.bind_some]
    by_cases e : k = u
    · subst e
      exact .inr ⟨.inr (k : Int),by simp,rfl⟩
    · have hne : axT k≠axT u:=fun he=>e (qm9 k hk u h he)
      refine .inl ⟨(),?_,by omega⟩
      have hw : IntKind.u8.wrap ((k : Int) + 1) = ((k + 1 : Nat) : Int):=by
        simp [IntKind.wrap,IntKind.bits,IntKind.signed];omega
      have hbeq : ((axT k).1.X == (axT u).1.X && ((axT k).1.Y == (axT u).1.Y && ((axT k).1.Z == (axT u).1.Z && ((axT k).2.1.X == (axT u).2.1.X && ((axT k).2.1.Y == (axT u).2.1.Y && ((axT k).2.1.Z == (axT u).2.1.Z && ((axT k).2.2.X == (axT u).2.2.X && ((axT k).2.2.Y == (axT u).2.2.Y && ((axT k).2.2.Z == (axT u).2.2.Z && true))))))))) = false:=by
        rw [Bool.eq_false_iff]
        intro hh
        simp only [Bool.and_eq_true,beq_iff_eq] at hh
        apply hne
        generalize axT k = a at hh ⊢
        generalize axT u = b at hh ⊢
        obtain ⟨⟨a1,a2,a3⟩,⟨a4,a5,a6⟩,⟨a7,a8,a9⟩⟩:=a
        obtain ⟨⟨b1,b2,b3⟩,⟨b4,b5,b6⟩,⟨b7,b8,b9⟩⟩:=b
        simp only at hh
        obtain ⟨rfl,rfl,rfl,rfl,rfl,rfl,rfl,rfl,rfl,_⟩:=hh
        rfl
      rw [hbeq,hw];rfl
  · intro _ hi;omega
def qg3 (n m : V3) : V3:=(mulV n m.1,mulV n m.2.1,mulV n m.2.2)
noncomputable def Uf (t u : Nat) : Nat:=match (List.range 24).find? (fun v=>decide (axT v = qg3 (axT u) (axT t))) with
  | some v=>v
  | none=>0
theorem qnj : ∀ t : Nat,t < 24→∀ u : Nat,u < 24→Uf t u < 24∧axT (Uf t u) = qg3 (axT u) (axT t):=by decide +kernel
theorem qeu {v : qj} (h : Ya v) : Kc v 1000000000000:=by unfold Ya at h;unfold Kc;omega
theorem qze {f g : Qj} {t u : Nat} (ht : f.Turn = t) (hu : g.Turn = u) (h : t < 24) (h' : u < 24) (hf : Kc f.At 1000000000000) (hg : Kc g.At 1000000000000) : q4i f g = some ⟨(Uf t u : Nat),Km u g.At f.At⟩:=by
  have au:=q46 u h'
  obtain ⟨b1,b2,b3⟩:=q46 t h
  unfold q4i
  rw [ht,hu,qa3 t h,qa3 u h']
  simp only [Option.bind_some]
  have s1:=qa6 au (qeu b1)
  have s2:=qa6 au (qeu b2)
  have s3:=qa6 au (qeu b3)
  have key : loop (q1b (axT u)) (0,[(axT t).1,(axT t).2.1,(axT t).2.2]) = some [mulV (axT u) (axT t).1,mulV (axT u) (axT t).2.1,mulV (axT u) (axT t).2.2]:=by
    rw [Kf (a':=((1 : Int),[mulV (axT u) (axT t).1,(axT t).2.1,(axT t).2.2])) (by simp [q1b,idxA,s1,qu])]
    rw [Kf (a':=((2 : Int),[mulV (axT u) (axT t).1,mulV (axT u) (axT t).2.1,(axT t).2.2])) (by simp [q1b,idxA,s2,qu])]
    rw [Kf (a':=((3 : Int),[mulV (axT u) (axT t).1,mulV (axT u) (axT t).2.1,mulV (axT u) (axT t).2.2])) (by simp [q1b,idxA,s3,qu])]
    exact K1 (by simp [q1b])
  rw [key]
  simp only [Option.bind_some,arr3]
  obtain ⟨c1,c2⟩:=qnj t h u h'
  have : (mulV (axT u) (axT t).1,mulV (axT u) (axT t).2.1,mulV (axT u) (axT t).2.2) = axT (Uf t u):=c2.symm
  rw [this,qq5 c1,qcm hu h' hg hf]
  rfl
def InV (v : qj) (lo : Int) : Prop:=lo≤v.X∧v.X≤1000000∧lo≤v.Y∧v.Y≤1000000∧lo≤v.Z∧v.Z≤1000000
instance (v : qj) (lo : Int) : Decidable (InV v lo):=by unfold InV;infer_instance
theorem qgp (v : qj) (lo : Int) : q2j v lo = some (decide (InV v lo)):=by
  unfold q2j
  by_cases a : min (min v.X v.Y) v.Z ≥ lo
  · by_cases b : max (max v.X v.Y) v.Z≤1000000
    · have : InV v lo:=by unfold InV;omega
      simp only [decide_eq_true a,decide_eq_true b,decide_eq_true this,cond_true,Option.bind_some]
    · have : ¬ InV v lo:=by unfold InV;omega
      simp only [decide_eq_true a,decide_eq_false b,decide_eq_false this,cond_true,Option.bind_some]
  · have : ¬ InV v lo:=by unfold InV;omega
    simp only [decide_eq_false a,decide_eq_false this,cond_false,Option.bind_some]
theorem qlt (v : qj) (lo : Int) : Jj v lo = some (decide (InV v lo)):=by
  unfold Jj InV
  by_cases a : v.X ≥ lo <;> by_cases b : v.Y ≥ lo <;> by_cases c : v.Z ≥ lo <;> by_cases d : v.X≤1000000 <;> by_cases e : v.Y≤1000000 <;> by_cases f : v.Z≤1000000 <;> simp [a,b,c,d,e,f] <;> omega
def FOk (f : Qj) : Prop:=f.Turn < 24∧InV f.At (-1000000)
instance (f : Qj) : Decidable (FOk f):=by unfold FOk;infer_instance
def SOk (s : qfc) : Prop:=FOk s.Frame∧InV s.Size 0
instance (s : qfc) : Decidable (SOk s):=by unfold SOk;infer_instance
theorem qfr {P Q : Prop} [Decidable P] [Decidable Q] {R : Prop} [Decidable R] (h : R↔P∧Q) : ((cond (decide (¬ P)) (some true) ((some (decide Q)).bind fun r10=>some (!r10))).bind fun c3=>cond c3 (some (8 : Int)) (some 0)) = some (if R then 0 else 8):=by
  by_cases p : P <;> by_cases q : Q <;> simp [p,q,h]
theorem qci (f : Qj) : q2h f = some (if FOk f then 0 else 8):=by
  unfold q2h
  rw [qgp]
  have e : decide (f.Turn ≥ 24) = decide (¬ f.Turn < 24):=by rw [decide_eq_decide];omega
  rw [e]
  exact qfr Iff.rfl
theorem qs5 (f : Qj) : q7m f = some (if FOk f then 0 else 8):=by
  unfold q7m
  rw [qlt]
  have e : decide (f.Turn ≥ 24) = decide (¬ f.Turn < 24):=by rw [decide_eq_decide];omega
  rw [e]
  exact qfr Iff.rfl
theorem q76 {v : qj} {lo : Int} (h : InV v lo) (hl : -1000000≤lo) : Kc v 1000000000000:=by unfold InV at h;unfold Kc;omega
end Go.Sh
namespace Go.Sh
open Go Go.Am
def rowOk (a b c : Int) : Prop:=(a = 1∧b = 0∧c = 0)∨(a = -1∧b = 0∧c = 0)∨(a = 0∧b = 1∧c = 0)∨(a = 0∧b = -1∧c = 0)∨(a = 0∧b = 0∧c = 1)∨(a = 0∧b = 0∧c = -1)
instance (a b c : Int) : Decidable (rowOk a b c):=by unfold rowOk;infer_instance
theorem qma : ∀ t : Nat,t < 24→rowOk (axT t).1.X (axT t).2.1.X (axT t).2.2.X∧rowOk (axT t).1.Y (axT t).2.1.Y (axT t).2.2.Y∧rowOk (axT t).1.Z (axT t).2.1.Z (axT t).2.2.Z:=by decide +kernel
theorem qe1 {a b c x y z u v w : Int} (h : rowOk a b c) (hx : x < u) (hy : y < v) (hz : z < w) : x * a + y * b + z * c≠u * a + v * b + w * c:=by
  rcases h with ⟨rfl,rfl,rfl⟩ | ⟨rfl,rfl,rfl⟩ | ⟨rfl,rfl,rfl⟩ | ⟨rfl,rfl,rfl⟩ | ⟨rfl,rfl,rfl⟩ | ⟨rfl,rfl,rfl⟩ <;> omega
def q3v (p q : qj) : qg:={Lo:=({X:=min p.X q.X,Y:=min p.Y q.Y,Z:=min p.Z q.Z} : qj),Hi:=({X:=max p.X q.X,Y:=max p.Y q.Y,Z:=max p.Z q.Z} : qj)}
noncomputable def Qr (t : Nat) (at_ : qj) (b : qg) : qg:=q3v (Km t at_ b.Lo) (Km t at_ b.Hi)
theorem qrr {t : Nat} (h : t < 24) (at_ : qj) {b : qg} (hb : ltB b) : (Km t at_ b.Lo).X≠(Km t at_ b.Hi).X∧(Km t at_ b.Lo).Y≠(Km t at_ b.Hi).Y∧(Km t at_ b.Lo).Z≠(Km t at_ b.Hi).Z:=by
  obtain ⟨h1,h2,h3⟩:=qma t h
  unfold Km addV mulV
  have e1:=qe1 h1 hb.1 hb.2.1 hb.2.2
  have e2:=qe1 h2 hb.1 hb.2.1 hb.2.2
  have e3:=qe1 h3 hb.1 hb.2.1 hb.2.2
  simp only
  omega
theorem qlf {t : Nat} (h : t < 24) (at_ : qj) {b : qg} (hb : ltB b) : vB (Qr t at_ b)↔InV (Km t at_ b.Lo) (-1000000)∧InV (Km t at_ b.Hi) (-1000000):=by
  obtain ⟨h1,h2,h3⟩:=qrr h at_ hb
  unfold Qr q3v vB InV
  simp only
  omega
noncomputable def place (l : List qg) (f : Qj) : List qg × Int:=
  if Qy l≠0 then ([],Qy l) else if ¬ FOk f then ([],8) else if ∀ b∈l,vB (Qr f.Turn.toNat f.At b) then mkB (l.map (Qr f.Turn.toNat f.At)) else ([],16)
theorem qlg {b : qg} (h : vB b) : Kc b.Lo 1000000000000∧Kc b.Hi 1000000000000∧InV b.Lo (-1000000)∧InV b.Hi (-1000000)∧ltB b:=by
  unfold vB at h;unfold Kc InV ltB;omega
theorem q9p {f : Qj} {t : Nat} (ht : f.Turn = t) (h24 : t < 24) (hf : FOk f) {v : qj} (hv : InV v (-1000000)) : q4f f v = some (if InV (Km t f.At v) (-1000000) then (Km t f.At v,0) else (zeroV,16)):=by
  unfold q4f
  simp only [qci,qgp,Option.bind_some,if_pos hf,show ((0 : Int) != 0) = false from rfl,cond_false,decide_eq_true hv,Bool.not_true]
  rw [qcm ht h24 (q76 hf.2 (by omega)) (q76 hv (by omega))]
  simp only [Option.bind_some]
  by_cases hi : InV (Km t f.At v) (-1000000)
  · rw [if_pos hi];simp [hi]
  · rw [if_neg hi];simp [hi];rfl
theorem qrq {l : List qg} (hl : l.length≤400) (P : qg→Prop) [DecidablePred P] (pl : qg→qg) (e : List qg × Int) (f : Int × List qg→Option ((Int × List qg) ⊕ ((List qg) ⊕ (List qg × Int))))
    (hok : ∀ k (h : k < l.length) (o : List qg),o.length = k→P l[k]→f ((k : Int),o) = some (.inl (((k + 1 : Nat) : Int),o ++ [pl l[k]])))
    (hbad : ∀ k (h : k < l.length) (o : List qg),o.length = k→¬ P l[k]→f ((k : Int),o) = some (.inr (.inr e)))
    (hd : ∀ o,f ((l.length : Int),o) = some (.inr (.inl o))) : loop f (0,[]) = some (if ∀ b∈l,P b then .inl (l.map pl) else .inr e):=by
  have main:=qd1 (f:=f) (fun k=>((k : Int),(l.take k).map pl)) l.length (fun j=>∀ b,l[j]? = some b→P b) (.inl (l.map pl)) (.inr e)
    (fun k hk hj=>by
      rw [hok k hk _ (by simp;omega) (hj k (Nat.le_refl _) _ (List.getElem?_eq_getElem hk)),List.take_succ_eq_append_getElem hk,List.map_append];rfl)
    (fun k hk _ hb=>hbad k hk _ (by simp;omega) fun h=>hb fun b hb=>by rw [List.getElem?_eq_getElem hk] at hb;cases hb;exact h)
    (fun _=>by rw [List.take_length,hd])
  have h00 : ((((0 : Nat) : Int),(l.take 0).map pl) : Int × List qg) = (0,[]):=rfl
  rw [h00] at main
  rcases main with ⟨h1,h2⟩ | ⟨j,hj,hb,h2⟩
  · rw [h2,if_pos]
    intro b hb
    obtain ⟨i,hi,rfl⟩:=List.getElem_of_mem hb
    exact h1 i hi _ (List.getElem?_eq_getElem hi)
  · rw [h2,if_neg]
    intro h
    exact hb fun b hb=>h b (List.mem_of_getElem? hb)
theorem qeh (l : List qg) (f : Qj) (hf0 : 0≤f.Turn) : q3m l f = some (place l f):=by
  unfold q3m place
  rw [qee,Option.bind_some]
  by_cases h : ¬ Qy l = 0
  · have : (Qy l != 0) = true:=by simpa using h
    rw [if_pos h,this,cond_true]
  replace h:=Classical.not_not.1 h
  obtain ⟨hl,hv,hc⟩:=Zt.1 h
  rw [if_neg (by simp [h]),h,show ((0 : Int) != 0) = false from rfl,cond_false,qci,Option.bind_some]
  by_cases hf : ¬ FOk f
  · rw [if_neg hf,if_pos hf];rfl
  replace hf:=Classical.not_not.1 hf
  rw [if_pos hf,if_neg (by simp [hf]),show ((0 : Int) != 0) = false from rfl,cond_false]
  have ht : f.Turn = (f.Turn.toNat : Int):=by omega
  have h24 : f.Turn.toNat < 24:=by have:=hf.1;omega
  rw [qrq hl (fun b=>vB (Qr f.Turn.toNat f.At b)) (Qr f.Turn.toNat f.At) ([],16) (q3n l f) (fun k hk o ho hP=>by
      obtain ⟨w1,w2,w3,w4,w5⟩:=qlg (hv _ (List.getElem_mem hk))
      obtain ⟨p1,p2⟩:=(qlf h24 f.At w5).1 hP
      simp only [q3n,dlt hk,cond_true,Ql hk,Option.bind_some,q9p ht h24 hf w3,q9p ht h24 hf w4,if_pos p1,if_pos p2,show ((0 : Int) != 0) = false from rfl,cond_false,w64s hk (by omega)]
      rw [Kq (by simp;omega)];rfl) (fun k hk o ho hP=>by
      obtain ⟨w1,w2,w3,w4,w5⟩:=qlg (hv _ (List.getElem_mem hk))
      rw [qlf h24 f.At w5] at hP
      simp only [q3n,dlt hk,cond_true,Ql hk,Option.bind_some,q9p ht h24 hf w3,q9p ht h24 hf w4]
      by_cases p1 : InV (Km f.Turn.toNat f.At l[k].Lo) (-1000000)
      · have p2 : ¬ InV (Km f.Turn.toNat f.At l[k].Hi) (-1000000):=fun p2=>hP ⟨p1,p2⟩
        rw [if_pos p1,if_neg p2];rfl
      · rw [if_neg p1];rfl) (fun o=>by simp only [q3n,dnl,cond_false])]
  rw [Option.bind_some]
  by_cases hP : ∀ b∈l,vB (Qr f.Turn.toNat f.At b)
  · rw [if_pos hP,if_pos hP]
    simp only [qke,Option.bind_some]
  · rw [if_neg hP,if_neg hP]
theorem qsk {f : Qj} (hf0 : 0≤f.Turn) (hf : FOk f) {b : qg} (hb : Kc b.Lo 1000000000000∧Kc b.Hi 1000000000000) : q7t b f = some (Qr f.Turn.toNat f.At b):=by
  have ht : f.Turn = (f.Turn.toNat : Int):=by omega
  have h24 : f.Turn.toNat < 24:=by have:=hf.1;omega
  unfold q7t
  rw [qjc ht h24 (q76 hf.2 (by omega)) hb.1,Option.bind_some,qjc ht h24 (q76 hf.2 (by omega)) hb.2];rfl
end Go.Sh
namespace Go.Sh
open Go Go.Am
theorem qz6 (a b : Int) : w64 (a - w64 b) = w64 (a + -b):=by rw [qz7,Int.sub_eq_add_neg]
theorem q4x {x y : Int} (hx : -2000002≤x∧x≤2000002) (hy : -2000002≤y∧y≤2000002) : -4000008000004≤x * y∧x * y≤4000008000004:=by
  by_cases h1 : 0≤x
  · by_cases h2 : 0≤y
    · have:=Int.mul_le_mul hx.2 hy.2 h2 (by omega);have:=Int.mul_nonneg h1 h2;omega
    · have h3 : 0≤-y:=by omega
      have h4:=Int.mul_le_mul hx.2 (show -y≤2000002 by omega) h3 (by omega);have h5:=Int.mul_nonneg h1 h3;rw [Int.mul_neg] at h4 h5;omega
  · have h1' : 0≤-x:=by omega
    by_cases h2 : 0≤y
    · have h4:=Int.mul_le_mul (show -x≤2000002 by omega) hy.2 h2 (by omega);have h5:=Int.mul_nonneg h1' h2;rw [Int.neg_mul] at h4 h5;omega
    · have h3 : 0≤-y:=by omega
      have h4:=Int.mul_le_mul (show -x≤2000002 by omega) (show -y≤2000002 by omega) h3 (by omega);have h5:=Int.mul_nonneg h1' h3;rw [Int.neg_mul_neg] at h4 h5;omega
theorem qxo {b c : qg} (hb : vB b) (hc : vB c) : q91 b c = some (K6 b c):=by
  unfold q91 K6
  unfold vB at hb hc
  have wx : w64 (min b.Hi.X c.Hi.X - max b.Lo.X c.Lo.X) = min b.Hi.X c.Hi.X - max b.Lo.X c.Lo.X:=qu (by omega)
  have wy : w64 (min b.Hi.Y c.Hi.Y - max b.Lo.Y c.Lo.Y) = min b.Hi.Y c.Hi.Y - max b.Lo.Y c.Lo.Y:=qu (by omega)
  have wz : w64 (min b.Hi.Z c.Hi.Z - max b.Lo.Z c.Lo.Z) = min b.Hi.Z c.Hi.Z - max b.Lo.Z c.Lo.Z:=qu (by omega)
  simp only [wx,wy,wz]
  have bx : -2000002≤min b.Hi.X c.Hi.X - max b.Lo.X c.Lo.X∧min b.Hi.X c.Hi.X - max b.Lo.X c.Lo.X≤2000002:=by omega
  have bY : -2000002≤min b.Hi.Y c.Hi.Y - max b.Lo.Y c.Lo.Y∧min b.Hi.Y c.Hi.Y - max b.Lo.Y c.Lo.Y≤2000002:=by omega
  have bz : -2000002≤min b.Hi.Z c.Hi.Z - max b.Lo.Z c.Lo.Z∧min b.Hi.Z c.Hi.Z - max b.Lo.Z c.Lo.Z≤2000002:=by omega
  generalize min b.Hi.X c.Hi.X - max b.Lo.X c.Lo.X = x at *
  generalize min b.Hi.Y c.Hi.Y - max b.Lo.Y c.Lo.Y = y at *
  generalize min b.Hi.Z c.Hi.Z - max b.Lo.Z c.Lo.Z = z at *
  have p1:=q4x bY bz
  have p2:=q4x bx bz
  have p3:=q4x bx bY
  rw [qu (x:=y * z) (by omega),qu (x:=x * z) (by omega),qu (x:=x * y) (by omega)]
  by_cases x0 : x = 0
  · subst x0
    by_cases y0 : y > 0 <;> by_cases z0 : z > 0 <;> simp [y0,z0]
  · have ex : (x == 0) = false:=by simpa using x0
    by_cases x1 : x > 0
    · by_cases y0 : y = 0
      · subst y0
        by_cases z0 : z > 0 <;> simp [x0,ex,x1,z0]
      · have ey : (y == 0) = false:=by simpa using y0
        by_cases y1 : y > 0
        · by_cases z0 : z = 0
          · subst z0;simp [x0,ex,x1,y0,ey,y1]
          · have ez : (z == 0) = false:=by simpa using z0
            simp [x0,ex,x1,y0,ey,y1,z0,ez]
        · simp [x0,ex,x1,y0,ey,y1]
    · simp [x0,ex,x1]
theorem qoe {b : qg} (h : vB b) : w64 (2 * (w64 ((w64 ((w64 ((w64 (b.Hi.X - b.Lo.X)) * (w64 (b.Hi.Y - b.Lo.Y)))) + (w64 ((w64 (b.Hi.X - b.Lo.X)) * (w64 (b.Hi.Z - b.Lo.Z)))))) + (w64 ((w64 (b.Hi.Y - b.Lo.Y)) * (w64 (b.Hi.Z - b.Lo.Z))))))) = Y2 b:=by
  unfold vB at h
  rw [qu (x:=b.Hi.X - b.Lo.X) (by omega),qu (x:=b.Hi.Y - b.Lo.Y) (by omega),qu (x:=b.Hi.Z - b.Lo.Z) (by omega)]
  have p1:=q4x (x:=b.Hi.X - b.Lo.X) (y:=b.Hi.Y - b.Lo.Y) (by omega) (by omega)
  have p2:=q4x (x:=b.Hi.X - b.Lo.X) (y:=b.Hi.Z - b.Lo.Z) (by omega) (by omega)
  have p3:=q4x (x:=b.Hi.Y - b.Lo.Y) (y:=b.Hi.Z - b.Lo.Z) (by omega) (by omega)
  unfold Y2
  rw [qu (x:=(b.Hi.X - b.Lo.X) * (b.Hi.Y - b.Lo.Y)) (by omega),qu (x:=(b.Hi.X - b.Lo.X) * (b.Hi.Z - b.Lo.Z)) (by omega),qu (x:=(b.Hi.Y - b.Lo.Y) * (b.Hi.Z - b.Lo.Z)) (by omega)]
  rw [qu (x:=(b.Hi.X - b.Lo.X) * (b.Hi.Y - b.Lo.Y) + (b.Hi.X - b.Lo.X) * (b.Hi.Z - b.Lo.Z)) (by omega),qu (x:=(b.Hi.X - b.Lo.X) * (b.Hi.Y - b.Lo.Y) + (b.Hi.X - b.Lo.X) * (b.Hi.Z - b.Lo.Z) + (b.Hi.Y - b.Lo.Y) * (b.Hi.Z - b.Lo.Z)) (by omega),qu (by omega)]
theorem qyn {l : List qg} (hl : l.length≤1000000) (hv : ∀ c∈l,vB c) {b : qg} (hb : vB b) (n m : Int) (hn : n = w64 m) :
    loop (q3q l b) (n,0) = some (w64 (m - 2 * sumL (fun c=>K6 b c) l)):=by
  rw [qgv l hl (fun n c=>w64 (n + (-2) * (if vB c then K6 b c else 0))) (fun n=>n) (q3q l b) (fun k hk s=>by
    have hc:=hv _ (List.getElem_mem hk)
    simp only [q3q,dlt hk,cond_true,Ql hk,Option.bind_some,qxo hb hc,w64s hk hl,if_pos hc]
    rw [qz6]
    have : -(2 * K6 b l[k]) = -2 * K6 b l[k]:=by omega
    rw [this]) (fun s=>by simp only [q3q,dnl,cond_false]) n]
  rw [qch (fun c=>-2 * (if vB c then K6 b c else 0)) l n m hn,qbe,Zl (g:=fun c=>K6 b c) fun c hc=>by rw [if_pos (hv c hc)]]
  congr 2
  omega
theorem qyo {l : List qg} (hl : l.length≤400) (hv : ∀ c∈l,vB c) : loop (q3p l) (0,0) = some (w64 (Z6 l)):=by
  have key:=Z4 (f:=q3p l) (fun k=>(w64 (sumL Y2 (l.take k) - 2 * Yk K6 l k),(k : Int))) l.length (w64 (Z6 l)) (fun k hk=>by
    have hb:=hv _ (List.getElem_mem hk)
    have hz : slc l 0 (k : Int) = some (l.take k):=by
      unfold slc;rw [if_pos (by omega)];simp
    have hin:=qyn (l:=l.take k) (by rw [List.length_take];omega) (fun c hc=>hv c (List.mem_of_mem_take hc)) hb (w64 (w64 (sumL Y2 (l.take k) - 2 * Yk K6 l k) + Y2 l[k])) (sumL Y2 (l.take k) - 2 * Yk K6 l k + Y2 l[k]) (qlj _ _)
    simp only [q3p,dlt hk,cond_true,Ql hk,Option.bind_some,q6i,hz,qoe hb,hin,w64s hk (by omega)]
    congr 3
    rw [List.take_succ_eq_append_getElem hk,q9c]
    simp only [Yk,List.getElem?_eq_getElem hk,sumL,Int.add_zero]
    congr 1
    omega) (by
    simp only [q3p,dnl,cond_false,List.take_length];rfl) (Nat.zero_le _)
  have h0 : (w64 (sumL Y2 (l.take 0) - 2 * Yk K6 l 0),((0 : Nat) : Int)) = ((0 : Int),(0 : Int)):=by
    simp [sumL,Yk]
    exact qu (by omega)
  rw [h0] at key
  exact key
theorem qnq (b c : qg) : 0≤K6 b c:=by
  unfold K6
  simp only
  split
  · rename_i h;exact Int.mul_nonneg (by omega) (by omega)
  · split
    · rename_i h;exact Int.mul_nonneg (by omega) (by omega)
    · split
      · rename_i h;exact Int.mul_nonneg (by omega) (by omega)
      · exact Int.le_refl _
noncomputable def q9e (l : List qg) : Int × Int:=if Qy l≠0 then (0,Qy l) else (Z6 l,0)
theorem qym (N : Nat) (P : Int→Int→Int→Prop) : 0≤q9d N P:=by
  unfold q9d
  have:=fun Q=>(qfv N Q).1
  have h1:=this fun x y z=>P x y z∧¬ P (x + 1) y z
  have h2:=this fun x y z=>P x y z∧¬ P (x - 1) y z
  have h3:=this fun x y z=>P x y z∧¬ P x (y + 1) z
  have h4:=this fun x y z=>P x y z∧¬ P x (y - 1) z
  have h5:=this fun x y z=>P x y z∧¬ P x y (z + 1)
  have h6:=this fun x y z=>P x y z∧¬ P x y (z - 1)
  omega
theorem qyk {l : List qg} (h : Qy l = 0) : 0≤Z6 l∧Z6 l≤9600000000000000000 / 1000:=by
  obtain ⟨h1,h2,h3⟩:=Zt.1 h
  refine ⟨by rw [ql6 h3 h2];exact qym _ _,?_⟩
  have hp : ∀ n,0≤Yk K6 l n:=by
    intro n
    induction n with
    | zero=>exact Int.le_refl _
    | succ n ih=>
      rw [Yk]
      have : ∀ (b : qg) (l : List qg),0≤sumL (fun c=>K6 b c) l:=fun b l=>by
        induction l with
        | nil=>exact Int.le_refl _
        | cons c l ih=>rw [sumL];have:=qnq b c;omega
      split
      · rename_i b _;have:=this b (l.take n);omega
      · omega
  have hf : ∀ l : List qg,(∀ b∈l,vB b)→sumL Y2 l≤l.length * 24000000000000:=by
    intro l
    induction l with
    | nil=>intro _;exact Int.le_refl _
    | cons b l ih=>
      intro hv
      have i1:=ih fun c hc=>hv c (by simp [hc])
      have hb:=hv b (by simp)
      unfold vB at hb
      have p1:=(qak (x:=b.Hi.X - b.Lo.X) (y:=b.Hi.Y - b.Lo.Y) (z:=0) (by omega) (by omega) (by omega)).1
      have p2:=(qak (x:=b.Hi.X - b.Lo.X) (y:=b.Hi.Z - b.Lo.Z) (z:=0) (by omega) (by omega) (by omega)).1
      have p3:=(qak (x:=b.Hi.Y - b.Lo.Y) (y:=b.Hi.Z - b.Lo.Z) (z:=0) (by omega) (by omega) (by omega)).1
      have : Y2 b≤24000000000000:=by unfold Y2;omega
      rw [sumL,List.length_cons]
      omega
  have:=hf l h2
  have:=hp l.length
  unfold Z6
  omega
theorem qkg (l : List qg) : q3o l = some (q9e l):=by
  unfold q3o q9e
  rw [qee,Option.bind_some]
  by_cases h : ¬ Qy l = 0
  · have : (Qy l != 0) = true:=by simpa using h
    rw [if_pos h,this,cond_true]
  replace h:=Classical.not_not.1 h
  obtain ⟨hl,hv,hc⟩:=Zt.1 h
  have:=qyk h
  rw [if_neg (by simp [h]),h,show ((0 : Int) != 0) = false from rfl,cond_false,qyo hl hv,qu (by omega)];rfl
end Go.Sh
namespace Go.Sh
open Go Go.Am
def grpR : List qi→List (Grp qk)
  | []=>[]
  | r::l=>match grpR l with
    | g::gs=>if g.lo = r.X0∧g.hi = r.X1 then ⟨g.lo,g.hi,ysp r::g.sec⟩::gs else ⟨r.X0,r.X1,[ysp r]⟩::g::gs
    | []=>[⟨r.X0,r.X1,[ysp r]⟩]
def grpB : List qg→List (Grp qi)
  | []=>[]
  | r::l=>match grpB l with
    | g::gs=>if g.lo = r.Lo.Z∧g.hi = r.Hi.Z then ⟨g.lo,g.hi,Zh r::g.sec⟩::gs else ⟨r.Lo.Z,r.Hi.Z,[Zh r]⟩::g::gs
    | []=>[⟨r.Lo.Z,r.Hi.Z,[Zh r]⟩]
theorem qhh : ∀ l : List qi,Ke putR (grpR l) = l
  | []=>rfl
  | r::l=>by
    have ih:=qhh l
    unfold grpR
    split
    · rename_i g gs h
      rw [h] at ih
      split
      · rename_i h1
        obtain ⟨h1,h2⟩:=h1
        rw [← ih]
        simp only [Ke,List.flatMap_cons,List.map_cons,List.cons_append,h1,h2]
        congr 1
      · rw [← ih];rfl
    · rename_i h
      rw [h] at ih
      rw [← ih];rfl
theorem qhg : ∀ l : List qg,Ke putB (grpB l) = l
  | []=>rfl
  | r::l=>by
    have ih:=qhg l
    unfold grpB
    split
    · rename_i g gs h
      rw [h] at ih
      split
      · rename_i h1
        obtain ⟨h1,h2⟩:=h1
        rw [← ih]
        simp only [Ke,List.flatMap_cons,List.map_cons,List.cons_append,h1,h2]
        congr 1
      · rw [← ih];rfl
    · rename_i h
      rw [h] at ih
      rw [← ih];rfl
instance {σ : Type} [DecidableEq σ] (gs : List (Grp σ)) : Decidable (CanG gs):=by unfold CanG;infer_instance
instance (s : List qk) : Decidable (Can s):=by unfold Can;infer_instance
def isR (l : List qi) : Prop:=CanG (grpR l)∧∀ g∈grpR l,Can g.sec
instance (l : List qi) : Decidable (isR l):=by unfold isR;infer_instance
def isB (l : List qg) : Prop:=CanG (grpB l)∧∀ g∈grpB l,isR g.sec
instance (l : List qg) : Decidable (isB l):=by unfold isB;infer_instance
theorem isR.can {l : List qi} (h : isR l) : CanR l:=⟨grpR l,(qhh l).symm,h.1,h.2⟩
theorem isB.can {l : List qg} (h : isB l) : CanB l:=⟨grpB l,(qhg l).symm,h.1,fun g hg=>(h.2 g hg).can⟩
theorem qn7 {l : List qg} (h : l.length≤400∧(∀ b∈l,vB b)∧isB l) : Qy l = 0:=Zt.2 ⟨h.1,h.2.1,h.2.2.can⟩
theorem qq2 {kind : Int} {p q out : List qg} (h : p.length + q.length≤100000) (ho : CanB out) (he : ∀ x y z,Kl kind (hasB p x y z) (hasB q x y z)↔hasB out x y z) : mrgB kind p q = out:=
  qc0 (qae kind h) ho fun x y z=>by rw [qcq kind h];exact he x y z
theorem qie {l out : List qg} (h : l.length≤400∧(∀ b∈l,vB b)∧out.length≤400) (ho : isB out) (he : ∀ x y z,hasB l x y z↔hasB out x y z) : mkB l = (out,0):=by
  have e : mrgB 2 l [] = out:=qq2 (by simp;omega) ho.can fun x y z=>by rw [qhn,← he];simp [q75]
  unfold mkB
  rw [if_neg (by omega),if_pos h.2.1,e,if_neg (by omega)]
def bx (x y z u v w : Int) : qg:={Lo:=({X:=x,Y:=y,Z:=z} : qj),Hi:=({X:=u,Y:=v,Z:=w} : qj)}
def Y5 : List qg:=[bx 0 0 0 2 2 1,bx 0 0 1 1 2 2]
theorem axT9 : axT 9 = (⟨0,1,0⟩,⟨-1,0,0⟩,⟨0,0,1⟩):=by decide +kernel
theorem qlz : q78 = some true:=by
  have hst : Uu = some Y5:=rfl
  have hc : Qy Y5 = 0:=qn7 (by decide)
  have hv : volume Y5 = (6,0):=by unfold volume;rw [if_neg (by simp [hc])];rfl
  have hs : q9e Y5 = (22,0):=by unfold q9e;rw [if_neg (by simp [hc])];rfl
  have hpl : place Y5 ({Turn:=9,At:=({X:=0,Y:=0,Z:=0} : qj)} : Qj) = ([bx (-2) 0 0 0 2 1,bx (-2) 0 1 0 1 2],0):=by
    have e : Y5.map (Qr 9 ⟨0,0,0⟩) = [bx (-2) 0 0 0 2 1,bx (-2) 0 1 0 1 2]:=by
      simp only [Y5,List.map_cons,List.map_nil,Qr,Km,axT9];rfl
    have e2 : ∀ b∈Y5,vB (Qr 9 ⟨0,0,0⟩ b):=by
      have : ∀ b∈Y5.map (Qr 9 ⟨0,0,0⟩),vB b:=by rw [e];decide
      intro b hb;exact this _ (List.mem_map_of_mem hb)
    unfold place
    rw [if_neg (by simp [hc]),if_neg (by unfold FOk InV;decide)]
    rw [if_pos (show ∀ b∈Y5,vB (Qr (Int.toNat 9) ⟨0,0,0⟩ b) from e2)]
    show mkB (Y5.map (Qr 9 ⟨0,0,0⟩)) = _
    rw [e]
    exact qie (by decide) (by decide) fun x y z=>Iff.rfl
  have hm : mkB [bx 0 0 0 1 2 2,bx 1 0 0 2 2 1] = (Y5,0):=qie (by decide) (by decide) fun x y z=>by
    simp only [Y5,qhj,q75,or_false,inB,bx];omega
  unfold q78
  simp only [hst,Option.bind_some,qkh,hv,qkg,hs,qeh _ _ (show (0 : Int)≤(({Turn:=9,At:=({X:=0,Y:=0,Z:=0} : qj)} : Qj)).Turn by decide),hpl,
    show Zx 0 0 0 1 2 2 = some (bx 0 0 0 1 2 2) from rfl,show Zx 1 0 0 2 2 1 = some (bx 1 0 0 2 2 1) from rfl,qke,hm,
    show Zx (-2) 0 0 0 2 1 = some (bx (-2) 0 0 0 2 1) from rfl,show Zx (-2) 0 1 0 1 2 = some (bx (-2) 0 1 0 1 2) from rfl,
    sameBox _ _ (show [bx (-2) 0 0 0 2 1,bx (-2) 0 1 0 1 2].length≤1000000 by simp),sameBox _ _ (show Y5.length≤1000000 by simp [Y5]),decide_true,beq_self_eq_true,cond_true,
    qeg Y5 _ (show Y5.length≤1000000 by simp [Y5]),
    show decide (hasB Y5 0 0 1) = true by decide,show decide (hasB Y5 1 0 1) = false by decide,Bool.not_false]
theorem qog (p q : List qg) : q79 p q = some (decide ((p.length≤30∧q.length≤30)∧Qy p = 0∧Qy q = 0)):=by
  unfold q79
  simp only [qsb,Option.bind_some]
  by_cases h1 : p.length≤30
  · by_cases h2 : q.length≤30
    · rw [decide_eq_true (by omega : (p.length : Int)≤30),decide_eq_true (by omega : (q.length : Int)≤30)]
      simp only [cond_true,Option.bind_some]
      congr 1
      by_cases hp : Qy p = 0
      · rw [if_neg (by simp [hp])]
        by_cases hq : Qy q = 0
        · rw [hq];exact (decide_eq_true ⟨⟨h1,h2⟩,hp,rfl⟩).symm
        · rw [show (Qy q == 0) = false by simpa using hq];exact (decide_eq_false fun h=>hq h.2.2).symm
      · rw [if_pos hp,show (Qy p == 0) = false by simpa using hp];exact (decide_eq_false fun h=>hp h.2.1).symm
    · rw [decide_eq_true (by omega : (p.length : Int)≤30),decide_eq_false (by omega : ¬ (q.length : Int)≤30)]
      simp only [cond_true,cond_false,Option.bind_some]
      congr 1
      exact (decide_eq_false fun h=>h2 h.1.2).symm
  · rw [decide_eq_false (by omega : ¬ (p.length : Int)≤30)]
    simp only [cond_false,Option.bind_some]
    congr 1
    exact (decide_eq_false fun h=>h1 h.1.1).symm
instance (kind : Int) (a b : Prop) [Decidable a] [Decidable b] : Decidable (Kl kind a b):=by unfold Kl;infer_instance
end Go.Sh
namespace Go.Sh
open Go Go.Am
end Go.Sh
namespace Go.Sh
open Go Go.Am
def tbl : List V3:=[(⟨1,0,0⟩,⟨0,1,0⟩,⟨0,0,1⟩),(⟨1,0,0⟩,⟨0,-1,0⟩,⟨0,0,-1⟩),(⟨1,0,0⟩,⟨0,0,1⟩,⟨0,-1,0⟩),(⟨1,0,0⟩,⟨0,0,-1⟩,⟨0,1,0⟩),(⟨-1,0,0⟩,⟨0,1,0⟩,⟨0,0,-1⟩),(⟨-1,0,0⟩,⟨0,-1,0⟩,⟨0,0,1⟩),(⟨-1,0,0⟩,⟨0,0,1⟩,⟨0,1,0⟩),(⟨-1,0,0⟩,⟨0,0,-1⟩,⟨0,-1,0⟩),(⟨0,1,0⟩,⟨1,0,0⟩,⟨0,0,-1⟩),(⟨0,1,0⟩,⟨-1,0,0⟩,⟨0,0,1⟩),(⟨0,1,0⟩,⟨0,0,1⟩,⟨1,0,0⟩),(⟨0,1,0⟩,⟨0,0,-1⟩,⟨-1,0,0⟩),(⟨0,-1,0⟩,⟨1,0,0⟩,⟨0,0,1⟩),(⟨0,-1,0⟩,⟨-1,0,0⟩,⟨0,0,-1⟩),(⟨0,-1,0⟩,⟨0,0,1⟩,⟨-1,0,0⟩),(⟨0,-1,0⟩,⟨0,0,-1⟩,⟨1,0,0⟩),(⟨0,0,1⟩,⟨1,0,0⟩,⟨0,1,0⟩),(⟨0,0,1⟩,⟨-1,0,0⟩,⟨0,-1,0⟩),(⟨0,0,1⟩,⟨0,1,0⟩,⟨-1,0,0⟩),(⟨0,0,1⟩,⟨0,-1,0⟩,⟨1,0,0⟩),(⟨0,0,-1⟩,⟨1,0,0⟩,⟨0,-1,0⟩),(⟨0,0,-1⟩,⟨-1,0,0⟩,⟨0,1,0⟩),(⟨0,0,-1⟩,⟨0,1,0⟩,⟨1,0,0⟩),(⟨0,0,-1⟩,⟨0,-1,0⟩,⟨-1,0,0⟩)]
theorem q45 : ∀ t : Nat,t < 24→axT t∈tbl:=by decide +kernel
noncomputable def invI (t : Nat) : Nat:=([0,1,3,2,4,5,6,7,8,12,16,20,9,13,21,17,10,15,22,19,11,14,18,23] : List Nat)[t]?.getD 0
def tbl2 : List (V3 × V3):=[((⟨1,0,0⟩,⟨0,1,0⟩,⟨0,0,1⟩),(⟨1,0,0⟩,⟨0,1,0⟩,⟨0,0,1⟩)),((⟨1,0,0⟩,⟨0,-1,0⟩,⟨0,0,-1⟩),(⟨1,0,0⟩,⟨0,-1,0⟩,⟨0,0,-1⟩)),((⟨1,0,0⟩,⟨0,0,1⟩,⟨0,-1,0⟩),(⟨1,0,0⟩,⟨0,0,-1⟩,⟨0,1,0⟩)),((⟨1,0,0⟩,⟨0,0,-1⟩,⟨0,1,0⟩),(⟨1,0,0⟩,⟨0,0,1⟩,⟨0,-1,0⟩)),((⟨-1,0,0⟩,⟨0,1,0⟩,⟨0,0,-1⟩),(⟨-1,0,0⟩,⟨0,1,0⟩,⟨0,0,-1⟩)),((⟨-1,0,0⟩,⟨0,-1,0⟩,⟨0,0,1⟩),(⟨-1,0,0⟩,⟨0,-1,0⟩,⟨0,0,1⟩)),((⟨-1,0,0⟩,⟨0,0,1⟩,⟨0,1,0⟩),(⟨-1,0,0⟩,⟨0,0,1⟩,⟨0,1,0⟩)),((⟨-1,0,0⟩,⟨0,0,-1⟩,⟨0,-1,0⟩),(⟨-1,0,0⟩,⟨0,0,-1⟩,⟨0,-1,0⟩)),((⟨0,1,0⟩,⟨1,0,0⟩,⟨0,0,-1⟩),(⟨0,1,0⟩,⟨1,0,0⟩,⟨0,0,-1⟩)),((⟨0,1,0⟩,⟨-1,0,0⟩,⟨0,0,1⟩),(⟨0,-1,0⟩,⟨1,0,0⟩,⟨0,0,1⟩)),((⟨0,1,0⟩,⟨0,0,1⟩,⟨1,0,0⟩),(⟨0,0,1⟩,⟨1,0,0⟩,⟨0,1,0⟩)),((⟨0,1,0⟩,⟨0,0,-1⟩,⟨-1,0,0⟩),(⟨0,0,-1⟩,⟨1,0,0⟩,⟨0,-1,0⟩)),((⟨0,-1,0⟩,⟨1,0,0⟩,⟨0,0,1⟩),(⟨0,1,0⟩,⟨-1,0,0⟩,⟨0,0,1⟩)),((⟨0,-1,0⟩,⟨-1,0,0⟩,⟨0,0,-1⟩),(⟨0,-1,0⟩,⟨-1,0,0⟩,⟨0,0,-1⟩)),((⟨0,-1,0⟩,⟨0,0,1⟩,⟨-1,0,0⟩),(⟨0,0,-1⟩,⟨-1,0,0⟩,⟨0,1,0⟩)),((⟨0,-1,0⟩,⟨0,0,-1⟩,⟨1,0,0⟩),(⟨0,0,1⟩,⟨-1,0,0⟩,⟨0,-1,0⟩)),((⟨0,0,1⟩,⟨1,0,0⟩,⟨0,1,0⟩),(⟨0,1,0⟩,⟨0,0,1⟩,⟨1,0,0⟩)),((⟨0,0,1⟩,⟨-1,0,0⟩,⟨0,-1,0⟩),(⟨0,-1,0⟩,⟨0,0,-1⟩,⟨1,0,0⟩)),((⟨0,0,1⟩,⟨0,1,0⟩,⟨-1,0,0⟩),(⟨0,0,-1⟩,⟨0,1,0⟩,⟨1,0,0⟩)),((⟨0,0,1⟩,⟨0,-1,0⟩,⟨1,0,0⟩),(⟨0,0,1⟩,⟨0,-1,0⟩,⟨1,0,0⟩)),((⟨0,0,-1⟩,⟨1,0,0⟩,⟨0,-1,0⟩),(⟨0,1,0⟩,⟨0,0,-1⟩,⟨-1,0,0⟩)),((⟨0,0,-1⟩,⟨-1,0,0⟩,⟨0,1,0⟩),(⟨0,-1,0⟩,⟨0,0,1⟩,⟨-1,0,0⟩)),((⟨0,0,-1⟩,⟨0,1,0⟩,⟨1,0,0⟩),(⟨0,0,1⟩,⟨0,1,0⟩,⟨-1,0,0⟩)),((⟨0,0,-1⟩,⟨0,-1,0⟩,⟨-1,0,0⟩),(⟨0,0,-1⟩,⟨0,-1,0⟩,⟨-1,0,0⟩))]
theorem qht : ∀ t : Nat,t < 24→(axT t,axT (invI t))∈tbl2:=by decide +kernel
theorem qhs : ∀ t : Nat,t < 24→invI t < 24∧Uf t (invI t) = 0∧∀ u : Nat,u < 24→u < invI t→Uf t u≠0:=by decide +kernel
def uMap (m : V3) (a : qj) (x y z : Int) : qj:=⟨x * m.1.X + y * m.2.1.X + z * m.2.2.X + min 0 (m.1.X + m.2.1.X + m.2.2.X) + a.X,x * m.1.Y + y * m.2.1.Y + z * m.2.2.Y + min 0 (m.1.Y + m.2.1.Y + m.2.2.Y) + a.Y,x * m.1.Z + y * m.2.1.Z + z * m.2.2.Z + min 0 (m.1.Z + m.2.1.Z + m.2.2.Z) + a.Z⟩
def boxM (m : V3) (a : qj) (b : qg) : qg:=q3v (addV (mulV m b.Lo) a) (addV (mulV m b.Hi) a)
theorem qe0 {a b c x0 y0 z0 x1 y1 z1 x y z t : Int} (h : rowOk a b c) (hx : x0 < x1) (hy : y0 < y1) (hz : z0 < z1) :
    (min (x0 * a + y0 * b + z0 * c + t) (x1 * a + y1 * b + z1 * c + t)≤x * a + y * b + z * c + min 0 (a + b + c) + t∧x * a + y * b + z * c + min 0 (a + b + c) + t < max (x0 * a + y0 * b + z0 * c + t) (x1 * a + y1 * b + z1 * c + t))↔
      ((a≠0→x0≤x∧x < x1)∧(b≠0→y0≤y∧y < y1)∧(c≠0→z0≤z∧z < z1)):=by
  rcases h with ⟨rfl,rfl,rfl⟩ | ⟨rfl,rfl,rfl⟩ | ⟨rfl,rfl,rfl⟩ | ⟨rfl,rfl,rfl⟩ | ⟨rfl,rfl,rfl⟩ | ⟨rfl,rfl,rfl⟩ <;> omega
theorem qdz {a b c x0 y0 z0 x1 y1 z1 t : Int} (h : rowOk a b c) (hx : x0 < x1) (hy : y0 < y1) (hz : z0 < z1) :
    max (x0 * a + y0 * b + z0 * c + t) (x1 * a + y1 * b + z1 * c + t) - min (x0 * a + y0 * b + z0 * c + t) (x1 * a + y1 * b + z1 * c + t) = (if a = 0 then 0 else x1 - x0) + (if b = 0 then 0 else y1 - y0) + (if c = 0 then 0 else z1 - z0):=by
  rcases h with ⟨rfl,rfl,rfl⟩ | ⟨rfl,rfl,rfl⟩ | ⟨rfl,rfl,rfl⟩ | ⟨rfl,rfl,rfl⟩ | ⟨rfl,rfl,rfl⟩ | ⟨rfl,rfl,rfl⟩ <;> simp <;> omega
theorem qe2 {a b c x0 y0 z0 x1 y1 z1 u0 v0 w0 u1 v1 w1 t : Int} (h : rowOk a b c) (hx : x0 < x1) (hy : y0 < y1) (hz : z0 < z1) (hu : u0 < u1) (hv : v0 < v1) (hw : w0 < w1) :
    min (max (x0 * a + y0 * b + z0 * c + t) (x1 * a + y1 * b + z1 * c + t)) (max (u0 * a + v0 * b + w0 * c + t) (u1 * a + v1 * b + w1 * c + t)) - max (min (x0 * a + y0 * b + z0 * c + t) (x1 * a + y1 * b + z1 * c + t)) (min (u0 * a + v0 * b + w0 * c + t) (u1 * a + v1 * b + w1 * c + t)) =
      (if a = 0 then 0 else min x1 u1 - max x0 u0) + (if b = 0 then 0 else min y1 v1 - max y0 v0) + (if c = 0 then 0 else min z1 w1 - max z0 w0):=by
  rcases h with ⟨rfl,rfl,rfl⟩ | ⟨rfl,rfl,rfl⟩ | ⟨rfl,rfl,rfl⟩ | ⟨rfl,rfl,rfl⟩ | ⟨rfl,rfl,rfl⟩ | ⟨rfl,rfl,rfl⟩ <;> simp <;> omega
def qaj (m : V3) : Prop:=(rowOk m.1.X m.2.1.X m.2.2.X∧rowOk m.1.Y m.2.1.Y m.2.2.Y∧rowOk m.1.Z m.2.1.Z m.2.2.Z)∧
  ((m.1.X≠0∧m.2.1.Y≠0∧m.2.2.Z≠0)∨(m.1.X≠0∧m.2.1.Z≠0∧m.2.2.Y≠0)∨(m.1.Y≠0∧m.2.1.X≠0∧m.2.2.Z≠0)∨(m.1.Y≠0∧m.2.1.Z≠0∧m.2.2.X≠0)∨(m.1.Z≠0∧m.2.1.X≠0∧m.2.2.Y≠0)∨(m.1.Z≠0∧m.2.1.Y≠0∧m.2.2.X≠0))
instance (m : V3) : Decidable (qaj m):=by unfold qaj;infer_instance
theorem qes : ∀ m∈tbl,qaj m:=by decide +kernel
theorem rowOk.one {a b c : Int} (h : rowOk a b c) : (a≠0→b = 0∧c = 0)∧(b≠0→a = 0∧c = 0)∧(c≠0→a = 0∧b = 0):=by unfold rowOk at h;omega
theorem qdp {α : Type} {m : V3} (h : qaj m) (A B C : α) (P : α→α→α→Prop)
    (F : Int→Int→Int→α) (hF : ∀ a b c,(a≠0∧b = 0∧c = 0→F a b c = A)∧(a = 0∧b≠0∧c = 0→F a b c = B)∧(a = 0∧b = 0∧c≠0→F a b c = C))
    (hP : P A B C∧P A C B∧P B A C∧P C A B∧P B C A∧P C B A) : P (F m.1.X m.2.1.X m.2.2.X) (F m.1.Y m.2.1.Y m.2.2.Y) (F m.1.Z m.2.1.Z m.2.2.Z):=by
  obtain ⟨⟨h1,h2,h3⟩,h4⟩:=h
  have o1:=h1.one
  have o2:=h2.one
  have o3:=h3.one
  have f1:=hF m.1.X m.2.1.X m.2.2.X
  have f2:=hF m.1.Y m.2.1.Y m.2.2.Y
  have f3:=hF m.1.Z m.2.1.Z m.2.2.Z
  rcases h4 with ⟨g1,g2,g3⟩ | ⟨g1,g2,g3⟩ | ⟨g1,g2,g3⟩ | ⟨g1,g2,g3⟩ | ⟨g1,g2,g3⟩ | ⟨g1,g2,g3⟩
  · rw [f1.1 ⟨g1,(o1.1 g1)⟩,f2.2.1 ⟨(o2.2.1 g2).1,g2,(o2.2.1 g2).2⟩,f3.2.2 ⟨(o3.2.2 g3).1,(o3.2.2 g3).2,g3⟩];exact hP.1
  · rw [f1.1 ⟨g1,(o1.1 g1)⟩,f3.2.1 ⟨(o3.2.1 g2).1,g2,(o3.2.1 g2).2⟩,f2.2.2 ⟨(o2.2.2 g3).1,(o2.2.2 g3).2,g3⟩];exact hP.2.1
  · rw [f2.1 ⟨g1,(o2.1 g1)⟩,f1.2.1 ⟨(o1.2.1 g2).1,g2,(o1.2.1 g2).2⟩,f3.2.2 ⟨(o3.2.2 g3).1,(o3.2.2 g3).2,g3⟩];exact hP.2.2.1
  · rw [f2.1 ⟨g1,(o2.1 g1)⟩,f3.2.1 ⟨(o3.2.1 g2).1,g2,(o3.2.1 g2).2⟩,f1.2.2 ⟨(o1.2.2 g3).1,(o1.2.2 g3).2,g3⟩];exact hP.2.2.2.1
  · rw [f3.1 ⟨g1,(o3.1 g1)⟩,f1.2.1 ⟨(o1.2.1 g2).1,g2,(o1.2.1 g2).2⟩,f2.2.2 ⟨(o2.2.2 g3).1,(o2.2.2 g3).2,g3⟩];exact hP.2.2.2.2.1
  · rw [f3.1 ⟨g1,(o3.1 g1)⟩,f2.2.1 ⟨(o2.2.1 g2).1,g2,(o2.2.1 g2).2⟩,f1.2.2 ⟨(o1.2.2 g3).1,(o1.2.2 g3).2,g3⟩];exact hP.2.2.2.2.2
theorem qcx (m : V3) (hm : m∈tbl) (a : qj) (b : qg) (x y z : Int) (h : ltB b) : inB (boxM m a b) (uMap m a x y z).X (uMap m a x y z).Y (uMap m a x y z).Z↔inB b x y z:=by
  have hp:=qes m hm
  obtain ⟨h1,h2,h3⟩:=hp.1
  have e1:=qe0 (x:=x) (y:=y) (z:=z) (t:=a.X) h1 h.1 h.2.1 h.2.2
  have e2:=qe0 (x:=x) (y:=y) (z:=z) (t:=a.Y) h2 h.1 h.2.1 h.2.2
  have e3:=qe0 (x:=x) (y:=y) (z:=z) (t:=a.Z) h3 h.1 h.2.1 h.2.2
  unfold inB boxM q3v addV mulV uMap
  simp only
  rw [e1,e2,e3]
  refine qdp hp (b.Lo.X≤x∧x < b.Hi.X) (b.Lo.Y≤y∧y < b.Hi.Y) (b.Lo.Z≤z∧z < b.Hi.Z) (fun p q r=>(p∧q∧r)↔_)
    (fun a b_1 c=>(a≠0→b.Lo.X≤x∧x < b.Hi.X)∧(b_1≠0→b.Lo.Y≤y∧y < b.Hi.Y)∧(c≠0→b.Lo.Z≤z∧z < b.Hi.Z)) (fun a b c=>⟨fun h=>?_,fun h=>?_,fun h=>?_⟩) ?_
  · simp [h.1,h.2.1,h.2.2]
  · simp [h.1,h.2.1,h.2.2]
  · simp [h.1,h.2.1,h.2.2]
  · exact ⟨Iff.rfl,⟨fun h=>⟨h.1,h.2.2,h.2.1⟩,fun h=>⟨h.1,h.2.2,h.2.1⟩⟩,⟨fun h=>⟨h.2.1,h.1,h.2.2⟩,fun h=>⟨h.2.1,h.1,h.2.2⟩⟩,⟨fun h=>⟨h.2.1,h.2.2,h.1⟩,fun h=>⟨h.2.2,h.1,h.2.1⟩⟩,⟨fun h=>⟨h.2.2,h.1,h.2.1⟩,fun h=>⟨h.2.1,h.2.2,h.1⟩⟩,⟨fun h=>⟨h.2.2,h.2.1,h.1⟩,fun h=>⟨h.2.2,h.2.1,h.1⟩⟩⟩
theorem qj2 (A B C : Int) (a b c : Int) : (a≠0∧b = 0∧c = 0→(if a = 0 then 0 else A) + (if b = 0 then 0 else B) + (if c = 0 then 0 else C) = A)∧(a = 0∧b≠0∧c = 0→(if a = 0 then 0 else A) + (if b = 0 then 0 else B) + (if c = 0 then 0 else C) = B)∧(a = 0∧b = 0∧c≠0→(if a = 0 then 0 else A) + (if b = 0 then 0 else B) + (if c = 0 then 0 else C) = C):=
  ⟨fun h=>by simp [h.1,h.2.1,h.2.2],fun h=>by simp [h.1,h.2.1,h.2.2],fun h=>by simp [h.1,h.2.1,h.2.2]⟩
theorem qc9 (m : V3) (hm : m∈tbl) (a : qj) (b : qg) (h : ltB b) : volB (boxM m a b) = volB b∧Y2 (boxM m a b) = Y2 b∧ltB (boxM m a b):=by
  have hp:=qes m hm
  obtain ⟨h1,h2,h3⟩:=hp.1
  have e1:=qdz (t:=a.X) h1 h.1 h.2.1 h.2.2
  have e2:=qdz (t:=a.Y) h2 h.1 h.2.1 h.2.2
  have e3:=qdz (t:=a.Z) h3 h.1 h.2.1 h.2.2
  have key:=qdp hp (b.Hi.X - b.Lo.X) (b.Hi.Y - b.Lo.Y) (b.Hi.Z - b.Lo.Z) (fun X Y Z=>X * Y * Z = (b.Hi.X - b.Lo.X) * (b.Hi.Y - b.Lo.Y) * (b.Hi.Z - b.Lo.Z)∧2 * (X * Y + X * Z + Y * Z) = 2 * ((b.Hi.X - b.Lo.X) * (b.Hi.Y - b.Lo.Y) + (b.Hi.X - b.Lo.X) * (b.Hi.Z - b.Lo.Z) + (b.Hi.Y - b.Lo.Y) * (b.Hi.Z - b.Lo.Z))∧0 < X∧0 < Y∧0 < Z)
    (fun a b_1 c=>(if a = 0 then 0 else b.Hi.X - b.Lo.X) + (if b_1 = 0 then 0 else b.Hi.Y - b.Lo.Y) + (if c = 0 then 0 else b.Hi.Z - b.Lo.Z)) (fun a b c=>qj2 _ _ _ a b c) (by
      obtain ⟨g1,g2,g3⟩:=h
      generalize hx : b.Hi.X - b.Lo.X = x
      generalize hy : b.Hi.Y - b.Lo.Y = y
      generalize hz : b.Hi.Z - b.Lo.Z = z
      have px : 0 < x:=by omega
      have py : 0 < y:=by omega
      have pz : 0 < z:=by omega
      have c1:=Int.mul_comm x y
      have c2:=Int.mul_comm x z
      have c3:=Int.mul_comm y z
      refine ⟨⟨rfl,rfl,px,py,pz⟩,⟨?_,?_,px,pz,py⟩,⟨?_,?_,py,px,pz⟩,⟨?_,?_,pz,px,py⟩,⟨?_,?_,py,pz,px⟩,⟨?_,?_,pz,py,px⟩⟩ <;>
        first | (simp only [Int.mul_assoc,Int.mul_left_comm,Int.mul_comm];done) | omega)
  unfold volB Y2 ltB boxM q3v addV mulV
  simp only
  rw [e1,e2,e3]
  refine ⟨key.1,key.2.1,?_⟩
  have k1:=key.2.2.1
  have k2:=key.2.2.2.1
  have k3:=key.2.2.2.2
  rw [← e1] at k1
  rw [← e2] at k2
  rw [← e3] at k3
  omega
theorem q4a (x y z X Y Z : Int) (h : (X = x∧Y = y∧Z = z)∨(X = x∧Y = z∧Z = y)∨(X = y∧Y = x∧Z = z)∨(X = z∧Y = x∧Z = y)∨(X = y∧Y = z∧Z = x)∨(X = z∧Y = y∧Z = x)) :
    (if X = 0∧Y > 0∧Z > 0 then Y * Z else if X > 0∧Y = 0∧Z > 0 then X * Z else if X > 0∧Y > 0∧Z = 0 then X * Y else 0) = (if x = 0∧y > 0∧z > 0 then y * z else if x > 0∧y = 0∧z > 0 then x * z else if x > 0∧y > 0∧z = 0 then x * y else 0):=by
  have c1:=Int.mul_comm x y
  have c2:=Int.mul_comm x z
  have c3:=Int.mul_comm y z
  rcases h with ⟨rfl,rfl,rfl⟩ | ⟨rfl,rfl,rfl⟩ | ⟨rfl,rfl,rfl⟩ | ⟨rfl,rfl,rfl⟩ | ⟨rfl,rfl,rfl⟩ | ⟨rfl,rfl,rfl⟩ <;>
    (repeat' split) <;> omega
theorem qnp (m : V3) (hm : m∈tbl) (a : qj) (b c : qg) (hb : ltB b) (hc : ltB c) : K6 (boxM m a b) (boxM m a c) = K6 b c:=by
  have hp:=qes m hm
  obtain ⟨h1,h2,h3⟩:=hp.1
  have e1:=qe2 (t:=a.X) h1 hb.1 hb.2.1 hb.2.2 hc.1 hc.2.1 hc.2.2
  have e2:=qe2 (t:=a.Y) h2 hb.1 hb.2.1 hb.2.2 hc.1 hc.2.1 hc.2.2
  have e3:=qe2 (t:=a.Z) h3 hb.1 hb.2.1 hb.2.2 hc.1 hc.2.1 hc.2.2
  unfold K6 boxM q3v addV mulV
  simp only
  rw [e1,e2,e3]
  refine qdp hp (min b.Hi.X c.Hi.X - max b.Lo.X c.Lo.X) (min b.Hi.Y c.Hi.Y - max b.Lo.Y c.Lo.Y) (min b.Hi.Z c.Hi.Z - max b.Lo.Z c.Lo.Z)
    (fun X Y Z=>(if X = 0∧Y > 0∧Z > 0 then Y * Z else if X > 0∧Y = 0∧Z > 0 then X * Z else if X > 0∧Y > 0∧Z = 0 then X * Y else 0) = _)
    (fun a b_1 c_1=>(if a = 0 then 0 else min b.Hi.X c.Hi.X - max b.Lo.X c.Lo.X) + (if b_1 = 0 then 0 else min b.Hi.Y c.Hi.Y - max b.Lo.Y c.Lo.Y) + (if c_1 = 0 then 0 else min b.Hi.Z c.Hi.Z - max b.Lo.Z c.Lo.Z)) (fun a b c=>qj2 _ _ _ a b c) ?_
  exact ⟨q4a _ _ _ _ _ _ (.inl ⟨rfl,rfl,rfl⟩),q4a _ _ _ _ _ _ (.inr (.inl ⟨rfl,rfl,rfl⟩)),q4a _ _ _ _ _ _ (.inr (.inr (.inl ⟨rfl,rfl,rfl⟩))),q4a _ _ _ _ _ _ (.inr (.inr (.inr (.inl ⟨rfl,rfl,rfl⟩)))),q4a _ _ _ _ _ _ (.inr (.inr (.inr (.inr (.inl ⟨rfl,rfl,rfl⟩))))),q4a _ _ _ _ _ _ (.inr (.inr (.inr (.inr (.inr ⟨rfl,rfl,rfl⟩)))))⟩
theorem qlc : ∀ p∈tbl2,∀ (a : qj) (x y z : Int),uMap p.2 ⟨-(mulV p.2 a).X,-(mulV p.2 a).Y,-(mulV p.2 a).Z⟩ (uMap p.1 a x y z).X (uMap p.1 a x y z).Y (uMap p.1 a x y z).Z = ⟨x,y,z⟩∧
    uMap p.1 a (uMap p.2 ⟨-(mulV p.2 a).X,-(mulV p.2 a).Y,-(mulV p.2 a).Z⟩ x y z).X (uMap p.2 ⟨-(mulV p.2 a).X,-(mulV p.2 a).Y,-(mulV p.2 a).Z⟩ x y z).Y (uMap p.2 ⟨-(mulV p.2 a).X,-(mulV p.2 a).Y,-(mulV p.2 a).Z⟩ x y z).Z = ⟨x,y,z⟩:=by
  intro p hp
  simp only [tbl2,List.mem_cons,List.not_mem_nil,or_false] at hp
  rcases hp with rfl | rfl | rfl | rfl | rfl | rfl | rfl | rfl | rfl | rfl | rfl | rfl | rfl | rfl | rfl | rfl | rfl | rfl | rfl | rfl | rfl | rfl | rfl | rfl <;>
    (intro a x y z;unfold uMap mulV;simp only [qj.mk.injEq];omega)
noncomputable def invF (t : Nat) (a : qj) : qj:=⟨-(mulV (axT (invI t)) a).X,-(mulV (axT (invI t)) a).Y,-(mulV (axT (invI t)) a).Z⟩
theorem qyw {t : Nat} (h : t < 24) (a : qj) (x y z : Int) : uMap (axT (invI t)) (invF t a) (uMap (axT t) a x y z).X (uMap (axT t) a x y z).Y (uMap (axT t) a x y z).Z = ⟨x,y,z⟩:=(qlc _ (qht t h) a x y z).1
theorem qyx {t : Nat} (h : t < 24) (a : qj) (x y z : Int) : uMap (axT t) a (uMap (axT (invI t)) (invF t a) x y z).X (uMap (axT (invI t)) (invF t a) x y z).Y (uMap (axT (invI t)) (invF t a) x y z).Z = ⟨x,y,z⟩:=(qlc _ (qht t h) a x y z).2
theorem qa7 {t : Nat} (h : t < 24) (a : qj) {l : List qg} (hl : ∀ b∈l,ltB b) (x y z : Int) : hasB (l.map (Qr t a)) (uMap (axT t) a x y z).X (uMap (axT t) a x y z).Y (uMap (axT t) a x y z).Z↔hasB l x y z:=by
  have hm:=q45 t h
  constructor
  · rintro ⟨c,hc,h1⟩
    obtain ⟨b,hb,rfl⟩:=List.mem_map.1 hc
    exact ⟨b,hb,(qcx _ hm a b x y z (hl b hb)).1 h1⟩
  · rintro ⟨b,hb,h1⟩
    exact ⟨Qr t a b,List.mem_map_of_mem hb,(qcx _ hm a b x y z (hl b hb)).2 h1⟩
theorem qne {t : Nat} (h : t < 24) (a : qj) {l : List qg} (hl : ∀ b∈l,ltB b) (x y z : Int) : cntB (l.map (Qr t a)) (uMap (axT t) a x y z).X (uMap (axT t) a x y z).Y (uMap (axT t) a x y z).Z = cntB l x y z:=by
  unfold cntB
  rw [qbd]
  exact Zl fun b hb=>Jd (qcx _ (q45 t h) a b x y z (hl b hb))
theorem qng {t : Nat} (h : t < 24) (a : qj) {l : List qg} (hl : ∀ b∈l,ltB b) (hc : ∀ x y z,cntB l x y z = ind (hasB l x y z)) (x y z : Int) : cntB (l.map (Qr t a)) x y z = ind (hasB (l.map (Qr t a)) x y z):=by
  have e:=qyx h a x y z
  generalize uMap (axT (invI t)) (invF t a) x y z = w at e
  have e1:=qne h a hl w.X w.Y w.Z
  have e2:=qa7 h a hl w.X w.Y w.Z
  rw [e] at e1 e2
  rw [e1,hc,Jd e2]
theorem qz3 {t : Nat} (h : t < 24) (a : qj) {l : List qg} (hl : ∀ b∈l,ltB b) : volL (l.map (Qr t a)) = volL l:=by
  unfold volL
  rw [qbd]
  exact Zl fun b hb=>(qc9 _ (q45 t h) a b (hl b hb)).1
theorem qiv {f : qg→qg→Int} {g : qg→qg} {l : List qg} (hf : ∀ b∈l,∀ c∈l,f (g b) (g c) = f b c) : ∀ n,Yk f (l.map g) n = Yk f l n
  | 0=>rfl
  | n + 1=>by
    rw [Yk,Yk,qiv hf n]
    congr 1
    rw [List.getElem?_map]
    cases hn : l[n]? with
    | none=>rfl
    | some b=>
      simp only [Option.map_some]
      rw [← List.map_take,qbd]
      exact Zl fun c hc=>hf b (List.mem_of_getElem? hn) c (List.mem_of_mem_take hc)
theorem qyl {t : Nat} (h : t < 24) (a : qj) {l : List qg} (hl : ∀ b∈l,ltB b) : Z6 (l.map (Qr t a)) = Z6 l:=by
  unfold Z6
  rw [qbd,List.length_map,qiv (g:=Qr t a) (f:=K6) (fun b hb c hc=>qnp _ (q45 t h) a b c (hl b hb) (hl c hc))]
  rw [Zl (f:=fun b=>Y2 (Qr t a b)) (g:=Y2) fun b hb=>(qc9 _ (q45 t h) a b (hl b hb)).2.1]
theorem qj3 {p : List qg} (hp : Qy p = 0) {f : Qj} (hf : FOk f) (hf0 : 0≤f.Turn) : (place p f = ([],16)∧¬ ∀ b∈p,vB (Qr f.Turn.toNat f.At b))∨place p f = ([],4)∨
    (∃ q,place p f = (q,0)∧Qy q = 0∧(∀ b∈p.map (Qr f.Turn.toNat f.At),vB b)∧(∀ x y z,hasB q x y z↔hasB (p.map (Qr f.Turn.toNat f.At)) x y z)∧volL q = volL p∧Z6 q = Z6 p):=by
  obtain ⟨hl,hv,hc⟩:=Zt.1 hp
  have h24 : f.Turn.toNat < 24:=by have:=hf.1;omega
  unfold place
  rw [if_neg (by simp [hp]),if_neg (by simp [hf])]
  by_cases hP : ∀ b∈p,vB (Qr f.Turn.toNat f.At b)
  · rw [if_pos hP]
    have hP' : ∀ b∈p.map (Qr f.Turn.toNat f.At),vB b:=fun b hb=>by
      obtain ⟨c,hc,rfl⟩:=List.mem_map.1 hb;exact hP c hc
    have hlt : ∀ b∈p,ltB b:=fun b hb=>(q26 (hv b hb)).1
    unfold mkB
    rw [if_neg (by simp;omega),if_pos hP']
    by_cases h4 : 400 < (mrgB 2 (p.map (Qr f.Turn.toNat f.At)) []).length
    · rw [if_pos h4];exact .inr (.inl rfl)
    · rw [if_neg h4]
      have hll : (p.map (Qr f.Turn.toNat f.At)).length≤100000:=by simp;omega
      have hcan:=qae 2 (p:=p.map (Qr f.Turn.toNat f.At)) (q:=[]) (by simp;omega)
      have hpt:=qhi hll
      have hvv:=hcan.vB (InB.mrg (by simp;omega) (qle hP') InB.nil)
      have hcm:=qng h24 f.At hlt hc.cnt
      refine .inr (.inr ⟨_,rfl,Zt.2 ⟨by omega,hvv,hcan⟩,hP',hpt,?_,?_⟩)
      · have e : cnt3 1000000 (hasB (mrgB 2 (p.map (Qr f.Turn.toNat f.At)) [])) = cnt3 1000000 (hasB (p.map (Qr f.Turn.toNat f.At))):=qnc fun x y z _ _ _=>hpt x y z
        rw [qli hcan hvv,e,← qz3 h24 f.At hlt,qev (N:=1000000) hcm fun b hb=>by have:=q26 (hP' b hb);unfold vBN ltB at this;omega]
      · rw [ql6 hcan hvv,← qyl h24 f.At hlt,ql7 hcm fun b hb=>q26 (hP' b hb)]
        have : hasB (mrgB 2 (p.map (Qr f.Turn.toNat f.At)) []) = hasB (p.map (Qr f.Turn.toNat f.At)):=by funext x y z;exact propext (hpt x y z)
        rw [this]
  · rw [if_neg hP];exact .inl ⟨rfl,hP⟩
theorem u8w {k : Nat} (hk : k < 24) : IntKind.u8.wrap ((k : Int) + 1) = ((k + 1 : Nat) : Int):=by
  simp [IntKind.wrap,IntKind.bits,IntKind.signed];omega
theorem qpb {f : Qj} (hf : FOk f) (hf0 : 0≤f.Turn) : q73 f = some (({Turn:=(invI f.Turn.toNat : Nat),At:=invF f.Turn.toNat f.At} : Qj),0):=by
  have ht : f.Turn = (f.Turn.toNat : Int):=by omega
  have h24 : f.Turn.toNat < 24:=by have:=hf.1;omega
  obtain ⟨i1,i2,i3⟩:=qhs _ h24
  have hz : Kc (⟨0,0,0⟩ : qj) 1000000000000:=by unfold Kc;simp
  have hw : ∀ k : Nat,k < 24→q4i ({Turn:=f.Turn,At:=({X:=0,Y:=0,Z:=0} : qj)} : Qj) ({Turn:=(k : Int),At:=({X:=0,Y:=0,Z:=0} : qj)} : Qj) = some ⟨(Uf f.Turn.toNat k : Nat),Km k ⟨0,0,0⟩ ⟨0,0,0⟩⟩:=fun k hk=>
    qze ht rfl h24 hk hz hz
  unfold q73
  rw [qci,if_pos hf,Option.bind_some,show ((0 : Int) != 0) = false from rfl,cond_false]
  have key:=Z4 (f:=q2i f) (fun k=>(k : Int)) (invI f.Turn.toNat) (.inr (({Turn:=(invI f.Turn.toNat : Nat),At:=invF f.Turn.toNat f.At} : Qj),0)) (fun k hk=>by
    have hd : decide ((k : Int) < 24) = true:=decide_eq_true (by omega)
    have hne : (((Uf f.Turn.toNat k : Nat) : Int) == 0) = false:=by
      have:=i3 k (by omega) hk
      simp;omega
    simp only [q2i,hd,cond_true,hw k (by omega),Option.bind_some,hne,cond_false,u8w (show k < 24 by omega)]) (by
    have hd : decide (((invI f.Turn.toNat : Nat) : Int) < 24) = true:=decide_eq_true (by omega)
    have he : (((Uf f.Turn.toNat (invI f.Turn.toNat) : Nat) : Int) == 0) = true:=by rw [i2];rfl
    have him:=qcm (f:=({Turn:=(invI f.Turn.toNat : Nat),At:=({X:=0,Y:=0,Z:=0} : qj)} : Qj)) (t:=invI f.Turn.toNat) (v:=f.At) rfl i1 hz (q76 hf.2 (by omega))
    simp only [q2i,hd,cond_true,hw _ i1,Option.bind_some,he,him]
    have hbd:=qaf (m:=axT (invI f.Turn.toNat)) (v:=f.At) (n:=1000000) (q46 _ i1) (by have:=hf.2;unfold InV at this;unfold Kc;omega)
    unfold Kc at hbd
    have e : ∀ c : Int,-3000000≤c∧c≤3000000→w64 (0 - (c + 0)) = -c:=fun c hc=>by rw [qu (by omega)];omega
    unfold Km addV invF
    simp only
    rw [e _ (by omega),e _ (by omega),e _ (by omega)]) (Nat.zero_le _)
  have key : loop (q2i f) 0 = _:=key
  rw [key];rfl
end Go.Sh
namespace Go.Sh
open Go Go.Am
def U2 (v : qj) : Prop:=(-1000≤v.X∧v.X≤1000)∧(-1000≤v.Y∧v.Y≤1000)∧(-1000≤v.Z∧v.Z≤1000)
instance (v : qj) : Decidable (U2 v):=by unfold U2;infer_instance
theorem qq6 (v : qj) : q4p v = some (decide (U2 v)):=by
  unfold q4p
  simp only [qje,Option.bind_some,q1q]
  by_cases h : (-1000≤v.X∧-1000≤v.Y∧-1000≤v.Z)∧v.X≤1000000∧v.Y≤1000000∧v.Z≤1000000
  · rw [decide_eq_true h]
    simp only [cond_true,Option.bind_some]
    rw [qu (x:=-1 * v.X) (by omega),qu (x:=-1 * v.Y) (by omega),qu (x:=-1 * v.Z) (by omega)]
    congr 1
    exact decide_eq_decide.2 (by unfold U2;omega)
  · rw [decide_eq_false h]
    simp only [cond_false,Option.bind_some]
    congr 1
    exact (decide_eq_false (by unfold U2;omega)).symm
theorem qyy (t : Nat) (a v : qj) : (Qr t a ({Lo:=v,Hi:=({X:=v.X + 1,Y:=v.Y + 1,Z:=v.Z + 1} : qj)} : qg)).Lo = uMap (axT t) a v.X v.Y v.Z:=by
  unfold Qr q3v Km addV mulV uMap
  simp only [qj.mk.injEq,Int.add_mul,Int.one_mul]
  omega
theorem qp3 {b : qg} (h : ltB b) : inB b b.Lo.X b.Lo.Y b.Lo.Z∧inB b (b.Hi.X - 1) (b.Hi.Y - 1) (b.Hi.Z - 1):=by unfold ltB at h;unfold inB;omega
theorem qfj {t : Nat} (h24 : t < 24) (a : qj) {p q : List qg} (hlt : ∀ b∈p,ltB b) (hq : ∀ x y z,hasB q x y z↔hasB (p.map (Qr t a)) x y z) (hql : ∀ b∈q,ltB b) (i24 : invI t < 24) (x y z : Int) :
    hasB (q.map (Qr (invI t) (invF t a))) x y z↔hasB p x y z:=by
  have e:=qyw h24 a x y z
  have e1:=qa7 i24 (invF t a) hql (uMap (axT t) a x y z).X (uMap (axT t) a x y z).Y (uMap (axT t) a x y z).Z
  rw [e] at e1
  exact e1.trans ((hq _ _ _).trans (qa7 h24 a hlt x y z))
theorem qmb {t : Nat} (h24 : t < 24) (a : qj) {p q : List qg} (hv : ∀ b∈p,vB b) (hq : ∀ x y z,hasB q x y z↔hasB (p.map (Qr t a)) x y z) (hql : ∀ b∈q,ltB b) (i24 : invI t < 24) : ∀ b∈q,vB (Qr (invI t) (invF t a) b):=by
  intro b hb
  have hlt:=(qc9 _ (q45 _ i24) (invF t a) b (hql b hb)).2.2
  have hin:=qle hv
  have key : ∀ x y z,inB (Qr (invI t) (invF t a) b) x y z→(-1000000≤x∧x < 1000000)∧(-1000000≤y∧y < 1000000)∧(-1000000≤z∧z < 1000000):=fun x y z h=>
    hin x y z ((qfj h24 a (fun c hc=>(q26 (hv c hc)).1) hq hql i24 x y z).1 ⟨_,List.mem_map_of_mem hb,h⟩)
  obtain ⟨c1,c2⟩:=qp3 hlt
  have k1:=key _ _ _ c1
  have k2:=key _ _ _ c2
  have hlt : ltB (Qr (invI t) (invF t a) b):=hlt
  unfold ltB at hlt
  have k1 : (-1000000≤(Qr (invI t) (invF t a) b).Lo.X∧(Qr (invI t) (invF t a) b).Lo.X < 1000000)∧(-1000000≤(Qr (invI t) (invF t a) b).Lo.Y∧(Qr (invI t) (invF t a) b).Lo.Y < 1000000)∧(-1000000≤(Qr (invI t) (invF t a) b).Lo.Z∧(Qr (invI t) (invF t a) b).Lo.Z < 1000000):=k1
  have k2 : (-1000000≤(Qr (invI t) (invF t a) b).Hi.X - 1∧(Qr (invI t) (invF t a) b).Hi.X - 1 < 1000000)∧(-1000000≤(Qr (invI t) (invF t a) b).Hi.Y - 1∧(Qr (invI t) (invF t a) b).Hi.Y - 1 < 1000000)∧(-1000000≤(Qr (invI t) (invF t a) b).Hi.Z - 1∧(Qr (invI t) (invF t a) b).Hi.Z - 1 < 1000000):=k2
  generalize Qr (invI t) (invF t a) b = c at *
  unfold vB
  omega
theorem qzu (p : List qg) (f : Qj) (v : qj) (hf0 : 0≤f.Turn) : qaa p f v = some true:=by
  unfold qaa
  simp only [qlz,qog,Option.bind_some]
  by_cases h : (p.length≤30∧([] : List qg).length≤30)∧Qy p = 0∧Qy [] = 0
  rotate_left
  · simp only [decide_eq_false h,Bool.not_false,cond_true,Option.bind_some]
  rw [decide_eq_true h]
  obtain ⟨⟨l1,_⟩,hp,_⟩:=h
  simp only [Bool.not_true,cond_false,qs5,Option.bind_some]
  by_cases hf : FOk f
  rotate_left
  · rw [if_neg hf];rfl
  rw [if_pos hf,show ((0 : Int) != 0) = false from rfl]
  simp only [cond_false,qq6,Option.bind_some]
  by_cases hn : U2 f.At
  rotate_left
  · rw [decide_eq_false hn];rfl
  rw [decide_eq_true hn]
  by_cases hnv : U2 v
  rotate_left
  · rw [decide_eq_false hnv];rfl
  rw [decide_eq_true hnv]
  simp only [Bool.not_true,cond_false,Option.bind_some,qeh p f hf0]
  have ht : f.Turn = (f.Turn.toNat : Int):=by omega
  have h24 : f.Turn.toNat < 24:=by have:=hf.1;omega
  obtain ⟨i24,_,_⟩:=qhs _ h24
  obtain ⟨hl,hv,hc⟩:=Zt.1 hp
  rcases qj3 hp hf hf0 with ⟨e,_⟩ | e | ⟨q,e,hq,hvm,hpt,hvol,hsurf⟩
  · rw [e];rfl
  · rw [e];rfl
  · rw [e]
    obtain ⟨ql,qv,qc⟩:=Zt.1 hq
    have hql : ∀ b∈q,ltB b:=fun b hb=>(q26 (qv b hb)).1
    have hf' : FOk ({Turn:=(invI f.Turn.toNat : Nat),At:=invF f.Turn.toNat f.At} : Qj):=by
      have hb:=qaf (m:=axT (invI f.Turn.toNat)) (v:=f.At) (n:=1000) (q46 _ i24) (by unfold U2 at hn;unfold Kc;omega)
      unfold Kc at hb
      unfold FOk InV invF
      simp only
      omega
    have htn : (({Turn:=(invI f.Turn.toNat : Nat),At:=invF f.Turn.toNat f.At} : Qj)).Turn.toNat = invI f.Turn.toNat:=by simp
    have hback : place q ({Turn:=(invI f.Turn.toNat : Nat),At:=invF f.Turn.toNat f.At} : Qj) = ([],4)∨place q ({Turn:=(invI f.Turn.toNat : Nat),At:=invF f.Turn.toNat f.At} : Qj) = (p,0):=by
      rcases qj3 hq hf' (by simp) with ⟨_,hbad⟩ | e4 | ⟨s,e0,hs,_,hps,_,_⟩
      · rw [htn] at hbad
        exact absurd (qmb h24 f.At hv hpt hql i24) hbad
      · exact .inl e4
      · refine .inr ?_
        rw [e0]
        have : s = p:=qc0 (Zt.1 hs).2.2 hc fun x y z=>by
          rw [hps x y z,htn]
          exact qfj h24 f.At (fun c hc=>(q26 (hv c hc)).1) hpt hql i24 x y z
        rw [this]
    have hpl : U6 v ({X:=1,Y:=1,Z:=1} : qj) = some ({X:=v.X + 1,Y:=v.Y + 1,Z:=v.Z + 1} : qj):=by
      unfold U2 at hnv
      unfold U6
      simp only
      rw [qu (x:=v.X + 1) (by omega),qu (x:=v.Y + 1) (by omega),qu (x:=v.Z + 1) (by omega)]
    have hpd:=qsk hf0 hf (b:=({Lo:=v,Hi:=({X:=v.X + 1,Y:=v.Y + 1,Z:=v.Z + 1} : qj)} : qg)) (by unfold U2 at hnv;unfold Kc;simp only;omega)
    have hul:=qyy f.Turn.toNat f.At v
    have hhas : (decide (hasB q (uMap (axT f.Turn.toNat) f.At v.X v.Y v.Z).X (uMap (axT f.Turn.toNat) f.At v.X v.Y v.Z).Y (uMap (axT f.Turn.toNat) f.At v.X v.Y v.Z).Z) == decide (hasB p v.X v.Y v.Z)) = true:=by
      have:=(hpt _ _ _).trans (qa7 h24 f.At (fun c hc=>(q26 (hv c hc)).1) v.X v.Y v.Z)
      by_cases ha : hasB p v.X v.Y v.Z
      · rw [decide_eq_true ha,decide_eq_true (this.2 ha)];rfl
      · rw [decide_eq_false ha,decide_eq_false fun hh=>ha (this.1 hh)];rfl
    simp only [show ((0 : Int) != 0) = false from rfl,cond_false,qkh,qkg,Option.bind_some,qpb hf hf0,qeh q _ (show (0 : Int)≤(({Turn:=(invI f.Turn.toNat : Nat),At:=invF f.Turn.toNat f.At} : Qj)).Turn by simp),volume,q9e,hp,hq,ne_eq,not_true_eq_false,if_false,hvol,hsurf,bne_self_eq_false,hpl,hpd,hul,
      qeg q _ (by omega : q.length≤1000000),qeg p _ (by omega : p.length≤1000000),hhas,cond_true]
    rcases hback with hb | hb
    · rw [hb];rfl
    · rw [hb]
      simp only [show ((0 : Int) != 0) = false from rfl,cond_false,Option.bind_some,beq_self_eq_true,cond_true,sameBox p p (by omega),decide_true,Bool.not_true]
end Go.Sh
