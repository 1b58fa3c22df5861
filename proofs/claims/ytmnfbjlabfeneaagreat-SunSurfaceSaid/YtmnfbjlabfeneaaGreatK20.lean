/- Su22 Su23 Rs9 Su24 -/
import Derived.Test.YtmnfbjlabfeneaaGreatK19
namespace Go.Sh
open Go Go.Am
end Go.Sh
namespace Go.Sh
open Go Go.Am
theorem qs7 {l : List qf} {n : Int} (a : ∀ b∈l,ltB b) (h : ∀ x y z,hasB l x y z→(-n≤x∧x < n)∧(-n≤y∧y < n)∧(-n≤z∧z < n)) : ∀ b∈l,inV b.Lo n∧inV b.Hi n:=fun b hb=>by
  have c:=a b hb
  unfold ltB at c
  have f:=h b.Lo.X b.Lo.Y b.Lo.Z ⟨b,hb,q0,q0,q0⟩
  have d:=h (b.Hi.X - 1) (b.Hi.Y - 1) (b.Hi.Z - 1) ⟨b,hb,q0,q0,q0⟩
  unfold inV;omega
theorem ql0 {l : List qf} {p d : qh} (b : chkF l d = 0) (a : fitV p d∧inV p 240) : q2t l p d = (match firstT l p d with | none=>(({Num:=0,Den:=0} : Yk),6) | some q=>(ofR q,0)):=by
  unfold q2t;rw [qs (by simpa using b),qq a];all_goals rfl
end Go.Sh
namespace Go.Sh
open Go Go.Am
def tbl : List V3:=[(⟨1,0,0⟩,⟨0,1,0⟩,⟨0,0,1⟩),(⟨1,0,0⟩,⟨0,-1,0⟩,⟨0,0,-1⟩),(⟨1,0,0⟩,⟨0,0,1⟩,⟨0,-1,0⟩),(⟨1,0,0⟩,⟨0,0,-1⟩,⟨0,1,0⟩),(⟨-1,0,0⟩,⟨0,1,0⟩,⟨0,0,-1⟩),(⟨-1,0,0⟩,⟨0,-1,0⟩,⟨0,0,1⟩),(⟨-1,0,0⟩,⟨0,0,1⟩,⟨0,1,0⟩),(⟨-1,0,0⟩,⟨0,0,-1⟩,⟨0,-1,0⟩),(⟨0,1,0⟩,⟨1,0,0⟩,⟨0,0,-1⟩),(⟨0,1,0⟩,⟨-1,0,0⟩,⟨0,0,1⟩),(⟨0,1,0⟩,⟨0,0,1⟩,⟨1,0,0⟩),(⟨0,1,0⟩,⟨0,0,-1⟩,⟨-1,0,0⟩),(⟨0,-1,0⟩,⟨1,0,0⟩,⟨0,0,1⟩),(⟨0,-1,0⟩,⟨-1,0,0⟩,⟨0,0,-1⟩),(⟨0,-1,0⟩,⟨0,0,1⟩,⟨-1,0,0⟩),(⟨0,-1,0⟩,⟨0,0,-1⟩,⟨1,0,0⟩),(⟨0,0,1⟩,⟨1,0,0⟩,⟨0,1,0⟩),(⟨0,0,1⟩,⟨-1,0,0⟩,⟨0,-1,0⟩),(⟨0,0,1⟩,⟨0,1,0⟩,⟨-1,0,0⟩),(⟨0,0,1⟩,⟨0,-1,0⟩,⟨1,0,0⟩),(⟨0,0,-1⟩,⟨1,0,0⟩,⟨0,-1,0⟩),(⟨0,0,-1⟩,⟨-1,0,0⟩,⟨0,1,0⟩),(⟨0,0,-1⟩,⟨0,1,0⟩,⟨1,0,0⟩),(⟨0,0,-1⟩,⟨0,-1,0⟩,⟨-1,0,0⟩)]
theorem q5y : ∀ t : Nat,t < 24→axT t∈tbl:=by decide +kernel
noncomputable def invI (t : Nat) : Nat:=([0,1,3,2,4,5,6,7,8,12,16,20,9,13,21,17,10,15,22,19,11,14,18,23] : List Nat)[t]?.getD 0
def tbl2 : List (V3 × V3):=[((⟨1,0,0⟩,⟨0,1,0⟩,⟨0,0,1⟩),(⟨1,0,0⟩,⟨0,1,0⟩,⟨0,0,1⟩)),((⟨1,0,0⟩,⟨0,-1,0⟩,⟨0,0,-1⟩),(⟨1,0,0⟩,⟨0,-1,0⟩,⟨0,0,-1⟩)),((⟨1,0,0⟩,⟨0,0,1⟩,⟨0,-1,0⟩),(⟨1,0,0⟩,⟨0,0,-1⟩,⟨0,1,0⟩)),((⟨1,0,0⟩,⟨0,0,-1⟩,⟨0,1,0⟩),(⟨1,0,0⟩,⟨0,0,1⟩,⟨0,-1,0⟩)),((⟨-1,0,0⟩,⟨0,1,0⟩,⟨0,0,-1⟩),(⟨-1,0,0⟩,⟨0,1,0⟩,⟨0,0,-1⟩)),((⟨-1,0,0⟩,⟨0,-1,0⟩,⟨0,0,1⟩),(⟨-1,0,0⟩,⟨0,-1,0⟩,⟨0,0,1⟩)),((⟨-1,0,0⟩,⟨0,0,1⟩,⟨0,1,0⟩),(⟨-1,0,0⟩,⟨0,0,1⟩,⟨0,1,0⟩)),((⟨-1,0,0⟩,⟨0,0,-1⟩,⟨0,-1,0⟩),(⟨-1,0,0⟩,⟨0,0,-1⟩,⟨0,-1,0⟩)),((⟨0,1,0⟩,⟨1,0,0⟩,⟨0,0,-1⟩),(⟨0,1,0⟩,⟨1,0,0⟩,⟨0,0,-1⟩)),((⟨0,1,0⟩,⟨-1,0,0⟩,⟨0,0,1⟩),(⟨0,-1,0⟩,⟨1,0,0⟩,⟨0,0,1⟩)),((⟨0,1,0⟩,⟨0,0,1⟩,⟨1,0,0⟩),(⟨0,0,1⟩,⟨1,0,0⟩,⟨0,1,0⟩)),((⟨0,1,0⟩,⟨0,0,-1⟩,⟨-1,0,0⟩),(⟨0,0,-1⟩,⟨1,0,0⟩,⟨0,-1,0⟩)),((⟨0,-1,0⟩,⟨1,0,0⟩,⟨0,0,1⟩),(⟨0,1,0⟩,⟨-1,0,0⟩,⟨0,0,1⟩)),((⟨0,-1,0⟩,⟨-1,0,0⟩,⟨0,0,-1⟩),(⟨0,-1,0⟩,⟨-1,0,0⟩,⟨0,0,-1⟩)),((⟨0,-1,0⟩,⟨0,0,1⟩,⟨-1,0,0⟩),(⟨0,0,-1⟩,⟨-1,0,0⟩,⟨0,1,0⟩)),((⟨0,-1,0⟩,⟨0,0,-1⟩,⟨1,0,0⟩),(⟨0,0,1⟩,⟨-1,0,0⟩,⟨0,-1,0⟩)),((⟨0,0,1⟩,⟨1,0,0⟩,⟨0,1,0⟩),(⟨0,1,0⟩,⟨0,0,1⟩,⟨1,0,0⟩)),((⟨0,0,1⟩,⟨-1,0,0⟩,⟨0,-1,0⟩),(⟨0,-1,0⟩,⟨0,0,-1⟩,⟨1,0,0⟩)),((⟨0,0,1⟩,⟨0,1,0⟩,⟨-1,0,0⟩),(⟨0,0,-1⟩,⟨0,1,0⟩,⟨1,0,0⟩)),((⟨0,0,1⟩,⟨0,-1,0⟩,⟨1,0,0⟩),(⟨0,0,1⟩,⟨0,-1,0⟩,⟨1,0,0⟩)),((⟨0,0,-1⟩,⟨1,0,0⟩,⟨0,-1,0⟩),(⟨0,1,0⟩,⟨0,0,-1⟩,⟨-1,0,0⟩)),((⟨0,0,-1⟩,⟨-1,0,0⟩,⟨0,1,0⟩),(⟨0,-1,0⟩,⟨0,0,1⟩,⟨-1,0,0⟩)),((⟨0,0,-1⟩,⟨0,1,0⟩,⟨1,0,0⟩),(⟨0,0,1⟩,⟨0,1,0⟩,⟨-1,0,0⟩)),((⟨0,0,-1⟩,⟨0,-1,0⟩,⟨-1,0,0⟩),(⟨0,0,-1⟩,⟨0,-1,0⟩,⟨-1,0,0⟩))]
theorem qvv : ∀ t : Nat,t < 24→(axT t,axT (invI t))∈tbl2:=by decide +kernel
def uMap (m : V3) (a : qh) (x y z : Int) : qh:=⟨x * m.1.X + y * m.2.1.X + z * m.2.2.X + min 0 (m.1.X + m.2.1.X + m.2.2.X) + a.X,x * m.1.Y + y * m.2.1.Y + z * m.2.2.Y + min 0 (m.1.Y + m.2.1.Y + m.2.2.Y) + a.Y,x * m.1.Z + y * m.2.1.Z + z * m.2.2.Z + min 0 (m.1.Z + m.2.1.Z + m.2.2.Z) + a.Z⟩
def boxM (m : V3) (a : qh) (b : qf) : qf:=q5l (addV (mulV m b.Lo) a) (addV (mulV m b.Hi) a)
theorem qyn (t : Nat) (a : qh) (b : qf) : Kw t a b = boxM (axT t) a b:=rfl
theorem qhp {a b c x0 d j x1 g f x y z t : Int} (h : rowOk a b c) (l : x0 < x1) (k : d < g) (m : j < f) :
    (min (x0 * a + d * b + j * c + t) (x1 * a + g * b + f * c + t)≤x * a + y * b + z * c + min 0 (a + b + c) + t∧x * a + y * b + z * c + min 0 (a + b + c) + t < max (x0 * a + d * b + j * c + t) (x1 * a + g * b + f * c + t))↔
      ((a≠0→x0≤x∧x < x1)∧(b≠0→d≤y∧y < g)∧(c≠0→j≤z∧z < f)):=by
  rcases h with ⟨rfl,rfl,rfl⟩ | ⟨rfl,rfl,rfl⟩ | ⟨rfl,rfl,rfl⟩ | ⟨rfl,rfl,rfl⟩ | ⟨rfl,rfl,rfl⟩ | ⟨rfl,rfl,rfl⟩ <;> omega
theorem qhl {a b c x0 d j x1 g f t : Int} (h : rowOk a b c) (l : x0 < x1) (k : d < g) (m : j < f) :
    max (x0 * a + d * b + j * c + t) (x1 * a + g * b + f * c + t) - min (x0 * a + d * b + j * c + t) (x1 * a + g * b + f * c + t) = (if a = 0 then 0 else x1 - x0) + (if b = 0 then 0 else g - d) + (if c = 0 then 0 else f - j):=by
  rcases h with ⟨rfl,rfl,rfl⟩ | ⟨rfl,rfl,rfl⟩ | ⟨rfl,rfl,rfl⟩ | ⟨rfl,rfl,rfl⟩ | ⟨rfl,rfl,rfl⟩ | ⟨rfl,rfl,rfl⟩ <;> simp <;> omega
theorem qhs {a b c x0 j g x1 f k l n w0 o m d t : Int} (h : rowOk a b c) (s : x0 < x1) (q : j < f) (v : g < k) (r : l < o) (u : n < m) (p : w0 < d) :
    min (max (x0 * a + j * b + g * c + t) (x1 * a + f * b + k * c + t)) (max (l * a + n * b + w0 * c + t) (o * a + m * b + d * c + t)) - max (min (x0 * a + j * b + g * c + t) (x1 * a + f * b + k * c + t)) (min (l * a + n * b + w0 * c + t) (o * a + m * b + d * c + t)) =
      (if a = 0 then 0 else min x1 o - max x0 l) + (if b = 0 then 0 else min f m - max j n) + (if c = 0 then 0 else min k d - max g w0):=by
  rcases h with ⟨rfl,rfl,rfl⟩ | ⟨rfl,rfl,rfl⟩ | ⟨rfl,rfl,rfl⟩ | ⟨rfl,rfl,rfl⟩ | ⟨rfl,rfl,rfl⟩ | ⟨rfl,rfl,rfl⟩ <;> simp <;> omega
def qda (m : V3) : Prop:=(rowOk m.1.X m.2.1.X m.2.2.X∧rowOk m.1.Y m.2.1.Y m.2.2.Y∧rowOk m.1.Z m.2.1.Z m.2.2.Z)∧
  ((m.1.X≠0∧m.2.1.Y≠0∧m.2.2.Z≠0)∨(m.1.X≠0∧m.2.1.Z≠0∧m.2.2.Y≠0)∨(m.1.Y≠0∧m.2.1.X≠0∧m.2.2.Z≠0)∨(m.1.Y≠0∧m.2.1.Z≠0∧m.2.2.X≠0)∨(m.1.Z≠0∧m.2.1.X≠0∧m.2.2.Y≠0)∨(m.1.Z≠0∧m.2.1.Y≠0∧m.2.2.X≠0))
instance (m : V3) : Decidable (qda m):=by unfold qda;infer_instance
theorem q5t : ∀ m∈tbl,qda m:=by decide +kernel
theorem rowOk.one {a b c : Int} (h : rowOk a b c) : (a≠0→b = 0∧c = 0)∧(b≠0→a = 0∧c = 0)∧(c≠0→a = 0∧b = 0):=by unfold rowOk at h;omega
theorem qh9 {α : Type} {m : V3} (h : qda m) (A B C : α) (P : α→α→α→Prop)
    (F : Int→Int→Int→α) (q : ∀ a b c,(a≠0∧b = 0∧c = 0→F a b c = A)∧(a = 0∧b≠0∧c = 0→F a b c = B)∧(a = 0∧b = 0∧c≠0→F a b c = C))
    (o : P A B C∧P A C B∧P B A C∧P C A B∧P B C A∧P C B A) : P (F m.1.X m.2.1.X m.2.2.X) (F m.1.Y m.2.1.Y m.2.2.Y) (F m.1.Z m.2.1.Z m.2.2.Z):=by
  obtain ⟨⟨u,r,s⟩,t⟩:=h;have l:=u.one;have k:=r.one;have j:=s.one;have f1:=q m.1.X m.2.1.X m.2.2.X;have n:=q m.1.Y m.2.1.Y m.2.2.Y;have p:=q m.1.Z m.2.1.Z m.2.2.Z;rcases t with ⟨g,d,f⟩ | ⟨g,d,f⟩ | ⟨g,d,f⟩ | ⟨g,d,f⟩ | ⟨g,d,f⟩ | ⟨g,d,f⟩
  · rw [f1.1 ⟨g,(l.1 g)⟩,n.2.1 ⟨(k.2.1 d).1,d,(k.2.1 d).2⟩,p.2.2 ⟨(j.2.2 f).1,(j.2.2 f).2,f⟩];exact o.1
  · rw [f1.1 ⟨g,(l.1 g)⟩,p.2.1 ⟨(j.2.1 d).1,d,(j.2.1 d).2⟩,n.2.2 ⟨(k.2.2 f).1,(k.2.2 f).2,f⟩];exact o.2.1
  · rw [n.1 ⟨g,(k.1 g)⟩,f1.2.1 ⟨(l.2.1 d).1,d,(l.2.1 d).2⟩,p.2.2 ⟨(j.2.2 f).1,(j.2.2 f).2,f⟩];exact o.2.2.1
  · rw [n.1 ⟨g,(k.1 g)⟩,p.2.1 ⟨(j.2.1 d).1,d,(j.2.1 d).2⟩,f1.2.2 ⟨(l.2.2 f).1,(l.2.2 f).2,f⟩];exact o.2.2.2.1
  · rw [p.1 ⟨g,(j.1 g)⟩,f1.2.1 ⟨(l.2.1 d).1,d,(l.2.1 d).2⟩,n.2.2 ⟨(k.2.2 f).1,(k.2.2 f).2,f⟩];exact o.2.2.2.2.1
  · rw [p.1 ⟨g,(j.1 g)⟩,n.2.1 ⟨(k.2.1 d).1,d,(k.2.1 d).2⟩,f1.2.2 ⟨(l.2.2 f).1,(l.2.2 f).2,f⟩];exact o.2.2.2.2.2
theorem qge (m : V3) (j : m∈tbl) (a : qh) (b : qf) (x y z : Int) (h : ltB b) : inB (boxM m a b) (uMap m a x y z).X (uMap m a x y z).Y (uMap m a x y z).Z↔inB b x y z:=by
  have hp:=q5t m j;obtain ⟨n,f,g⟩:=hp.1;have k:=qhp (x:=x) (y:=y) (z:=z) (t:=a.X) n h.1 h.2.1 h.2.2;have o:=qhp (x:=x) (y:=y) (z:=z) (t:=a.Y) f h.1 h.2.1 h.2.2;have l:=qhp (x:=x) (y:=y) (z:=z) (t:=a.Z) g h.1 h.2.1 h.2.2;unfold inB boxM q5l addV mulV uMap;simp only;rw [k,o,l]
  refine qh9 hp (b.Lo.X≤x∧x < b.Hi.X) (b.Lo.Y≤y∧y < b.Hi.Y) (b.Lo.Z≤z∧z < b.Hi.Z) (fun p q r=>(p∧q∧r)↔_)
    (fun a d c=>(a≠0→b.Lo.X≤x∧x < b.Hi.X)∧(d≠0→b.Lo.Y≤y∧y < b.Hi.Y)∧(c≠0→b.Lo.Z≤z∧z < b.Hi.Z)) (fun a b c=>⟨fun h=>?_,fun h=>?_,fun h=>?_⟩) ?_
  · simp [h.1,h.2.1,h.2.2]
  · simp [h.1,h.2.1,h.2.2]
  · simp [h.1,h.2.1,h.2.2]
  · exact ⟨Iff.rfl,⟨fun h=>⟨h.1,h.2.2,h.2.1⟩,fun h=>⟨h.1,h.2.2,h.2.1⟩⟩,⟨fun h=>⟨h.2.1,h.1,h.2.2⟩,fun h=>⟨h.2.1,h.1,h.2.2⟩⟩,⟨fun h=>⟨h.2.1,h.2.2,h.1⟩,fun h=>⟨h.2.2,h.1,h.2.1⟩⟩,⟨fun h=>⟨h.2.2,h.1,h.2.1⟩,fun h=>⟨h.2.1,h.2.2,h.1⟩⟩,⟨fun h=>⟨h.2.2,h.2.1,h.1⟩,fun h=>⟨h.2.2,h.2.1,h.1⟩⟩⟩
theorem qo0 (A B C : Int) (a b c : Int) : (a≠0∧b = 0∧c = 0→(if a = 0 then 0 else A) + (if b = 0 then 0 else B) + (if c = 0 then 0 else C) = A)∧(a = 0∧b≠0∧c = 0→(if a = 0 then 0 else A) + (if b = 0 then 0 else B) + (if c = 0 then 0 else C) = B)∧(a = 0∧b = 0∧c≠0→(if a = 0 then 0 else A) + (if b = 0 then 0 else B) + (if c = 0 then 0 else C) = C):=
  ⟨fun h=>by simp [h.1,h.2.1,h.2.2],fun h=>by simp [h.1,h.2.1,h.2.2],fun h=>by simp [h.1,h.2.1,h.2.2]⟩
theorem qkd (m : V3) (u : m∈tbl) (a : qh) (b : qf) (h : ltB b) : volB (boxM m a b) = volB b∧Yv (boxM m a b) = Yv b∧ltB (boxM m a b):=by
  have hp:=q5t m u;obtain ⟨r,p,s⟩:=hp.1;have l:=qhl (t:=a.X) r h.1 h.2.1 h.2.2;have k:=qhl (t:=a.Y) p h.1 h.2.1 h.2.2;have n:=qhl (t:=a.Z) s h.1 h.2.1 h.2.2
  have key:=qh9 hp (b.Hi.X - b.Lo.X) (b.Hi.Y - b.Lo.Y) (b.Hi.Z - b.Lo.Z) (fun X Y Z=>X * Y * Z = (b.Hi.X - b.Lo.X) * (b.Hi.Y - b.Lo.Y) * (b.Hi.Z - b.Lo.Z)∧2 * (X * Y + X * Z + Y * Z) = 2 * ((b.Hi.X - b.Lo.X) * (b.Hi.Y - b.Lo.Y) + (b.Hi.X - b.Lo.X) * (b.Hi.Z - b.Lo.Z) + (b.Hi.Y - b.Lo.Y) * (b.Hi.Z - b.Lo.Z))∧0 < X∧0 < Y∧0 < Z)
    (fun a j c=>(if a = 0 then 0 else b.Hi.X - b.Lo.X) + (if j = 0 then 0 else b.Hi.Y - b.Lo.Y) + (if c = 0 then 0 else b.Hi.Z - b.Lo.Z)) (fun a b c=>qo0 _ _ _ a b c) (by
      obtain ⟨g1,g2,g3⟩:=h;generalize hx : b.Hi.X - b.Lo.X = x;generalize hy : b.Hi.Y - b.Lo.Y = y;generalize hz : b.Hi.Z - b.Lo.Z = z;have d : 0 < x:=by omega
      have g : 0 < y:=by omega
      have f : 0 < z:=by omega
      have c1:=Int.mul_comm x y;have c2:=Int.mul_comm x z;have c3:=Int.mul_comm y z
      refine ⟨⟨rfl,rfl,d,g,f⟩,⟨?_,?_,d,f,g⟩,⟨?_,?_,g,d,f⟩,⟨?_,?_,f,d,g⟩,⟨?_,?_,g,f,d⟩,⟨?_,?_,f,g,d⟩⟩ <;>
        first | (simp only [Int.mul_assoc,Int.mul_left_comm,Int.mul_comm];done) | omega)
  unfold volB Yv ltB boxM q5l addV mulV;simp only;rw [l,k,n];refine ⟨key.1,key.2.1,?_⟩;have o:=key.2.2.1;have v:=key.2.2.2.1;have q:=key.2.2.2.2;rw [← l] at o;rw [← k] at v;rw [← n] at q;omega
theorem q62 (x y z X Y Z : Int) (h : (X = x∧Y = y∧Z = z)∨(X = x∧Y = z∧Z = y)∨(X = y∧Y = x∧Z = z)∨(X = z∧Y = x∧Z = y)∨(X = y∧Y = z∧Z = x)∨(X = z∧Y = y∧Z = x)) :
    (if X = 0∧Y > 0∧Z > 0 then Y * Z else if X > 0∧Y = 0∧Z > 0 then X * Z else if X > 0∧Y > 0∧Z = 0 then X * Y else 0) = (if x = 0∧y > 0∧z > 0 then y * z else if x > 0∧y = 0∧z > 0 then x * z else if x > 0∧y > 0∧z = 0 then x * y else 0):=by
  have c1:=Int.mul_comm x y;have c2:=Int.mul_comm x z;have c3:=Int.mul_comm y z
  rcases h with ⟨rfl,rfl,rfl⟩ | ⟨rfl,rfl,rfl⟩ | ⟨rfl,rfl,rfl⟩ | ⟨rfl,rfl,rfl⟩ | ⟨rfl,rfl,rfl⟩ | ⟨rfl,rfl,rfl⟩ <;>
    (repeat' split) <;> omega
theorem qtc (m : V3) (k : m∈tbl) (a : qh) (b c : qf) (hb : ltB b) (d : ltB c) : Kr (boxM m a b) (boxM m a c) = Kr b c:=by
  have hp:=q5t m k;obtain ⟨o,h,j⟩:=hp.1;have l:=qhs (t:=a.X) o hb.1 hb.2.1 hb.2.2 d.1 d.2.1 d.2.2;have p:=qhs (t:=a.Y) h hb.1 hb.2.1 hb.2.2 d.1 d.2.1 d.2.2;have n:=qhs (t:=a.Z) j hb.1 hb.2.1 hb.2.2 d.1 d.2.1 d.2.2;unfold Kr boxM q5l addV mulV;simp only;rw [l,p,n]
  refine qh9 hp (min b.Hi.X c.Hi.X - max b.Lo.X c.Lo.X) (min b.Hi.Y c.Hi.Y - max b.Lo.Y c.Lo.Y) (min b.Hi.Z c.Hi.Z - max b.Lo.Z c.Lo.Z)
    (fun X Y Z=>(if X = 0∧Y > 0∧Z > 0 then Y * Z else if X > 0∧Y = 0∧Z > 0 then X * Z else if X > 0∧Y > 0∧Z = 0 then X * Y else 0) = _)
    (fun a g f=>(if a = 0 then 0 else min b.Hi.X c.Hi.X - max b.Lo.X c.Lo.X) + (if g = 0 then 0 else min b.Hi.Y c.Hi.Y - max b.Lo.Y c.Lo.Y) + (if f = 0 then 0 else min b.Hi.Z c.Hi.Z - max b.Lo.Z c.Lo.Z)) (fun a b c=>qo0 _ _ _ a b c) ?_
  exact ⟨q62 _ _ _ _ _ _ (.inl ⟨rfl,rfl,rfl⟩),q62 _ _ _ _ _ _ (.inr (.inl ⟨rfl,rfl,rfl⟩)),q62 _ _ _ _ _ _ (.inr (.inr (.inl ⟨rfl,rfl,rfl⟩))),q62 _ _ _ _ _ _ (.inr (.inr (.inr (.inl ⟨rfl,rfl,rfl⟩)))),q62 _ _ _ _ _ _ (.inr (.inr (.inr (.inr (.inl ⟨rfl,rfl,rfl⟩))))),q62 _ _ _ _ _ _ (.inr (.inr (.inr (.inr (.inr ⟨rfl,rfl,rfl⟩)))))⟩
theorem q16q : ∀ p∈tbl2,∀ (a : qh) (x y z : Int),uMap p.2 ⟨-(mulV p.2 a).X,-(mulV p.2 a).Y,-(mulV p.2 a).Z⟩ (uMap p.1 a x y z).X (uMap p.1 a x y z).Y (uMap p.1 a x y z).Z = ⟨x,y,z⟩∧
    uMap p.1 a (uMap p.2 ⟨-(mulV p.2 a).X,-(mulV p.2 a).Y,-(mulV p.2 a).Z⟩ x y z).X (uMap p.2 ⟨-(mulV p.2 a).X,-(mulV p.2 a).Y,-(mulV p.2 a).Z⟩ x y z).Y (uMap p.2 ⟨-(mulV p.2 a).X,-(mulV p.2 a).Y,-(mulV p.2 a).Z⟩ x y z).Z = ⟨x,y,z⟩:=by
  intro p hp;simp only [tbl2,List.mem_cons,List.not_mem_nil,or_false] at hp
  rcases hp with rfl | rfl | rfl | rfl | rfl | rfl | rfl | rfl | rfl | rfl | rfl | rfl | rfl | rfl | rfl | rfl | rfl | rfl | rfl | rfl | rfl | rfl | rfl | rfl <;>
    (intro a x y z;unfold uMap mulV;simp only [qh.mk.injEq];omega)
noncomputable def invF (t : Nat) (a : qh) : qh:=⟨-(mulV (axT (invI t)) a).X,-(mulV (axT (invI t)) a).Y,-(mulV (axT (invI t)) a).Z⟩
theorem q16p {t : Nat} (h : t < 24) (a : qh) (x y z : Int) : uMap (axT t) a (uMap (axT (invI t)) (invF t a) x y z).X (uMap (axT (invI t)) (invF t a) x y z).Y (uMap (axT (invI t)) (invF t a) x y z).Z = ⟨x,y,z⟩:=(q16q _ (qvv t h) a x y z).2
theorem qm2 {t : Nat} (h : t < 24) (a : qh) {l : List qf} (g : ∀ b∈l,ltB b) (x y z : Int) : hasB (l.map (Kw t a)) (uMap (axT t) a x y z).X (uMap (axT t) a x y z).Y (uMap (axT t) a x y z).Z↔hasB l x y z:=by
  have f:=q5y t h;constructor
  · rintro ⟨c,j,d⟩;obtain ⟨b,hb,rfl⟩:=List.mem_map.1 j;exact ⟨b,hb,(qge _ f a b x y z (g b hb)).1 d⟩
  · rintro ⟨b,hb,d⟩;exact ⟨Kw t a b,List.mem_map_of_mem hb,(qge _ f a b x y z (g b hb)).2 d⟩
theorem qt1 {t : Nat} (h : t < 24) (a : qh) {l : List qf} (c : ∀ b∈l,ltB b) (x y z : Int) : cntB (l.map (Kw t a)) (uMap (axT t) a x y z).X (uMap (axT t) a x y z).Y (uMap (axT t) a x y z).Z = cntB l x y z:=by
  unfold cntB;rw [qed];exact Zw fun b hb=>Ym (qge _ (q5y t h) a b x y z (c b hb))
theorem qt4 {t : Nat} (h : t < 24) (a : qh) {l : List qf} (d : ∀ b∈l,ltB b) (g : ∀ x y z,cntB l x y z = ind (hasB l x y z)) (x y z : Int) : cntB (l.map (Kw t a)) x y z = ind (hasB (l.map (Kw t a)) x y z):=by
  have e:=q16p h a x y z;generalize uMap (axT (invI t)) (invF t a) x y z = w at e;have c:=qt1 h a d w.X w.Y w.Z;have f:=qm2 h a d w.X w.Y w.Z;rw [e] at c f;rw [c,g,Ym f]
theorem q16w {t : Nat} (h : t < 24) (a : qh) {l : List qf} (c : ∀ b∈l,ltB b) : volL (l.map (Kw t a)) = volL l:=by
  unfold volL;rw [qed];exact Zw fun b hb=>(qkd _ (q5y t h) a b (c b hb)).1
theorem qnt {f : qf→qf→Int} {g : qf→qf} {l : List qf} (a : ∀ b∈l,∀ c∈l,f (g b) (g c) = f b c) : ∀ n,Zg f (l.map g) n = Zg f l n
  | 0=>rfl
  | n + 1=>by
    rw [Zg,Zg,qnt a n]
    congr 1
    rw [List.getElem?_map]
    cases h : l[n]? with
    | none=>rfl
    | some b=>
      simp only [Option.map_some]
      rw [← List.map_take,qed]
      exact Zw fun c d=>a b (List.mem_of_getElem? h) c (List.mem_of_mem_take d)
theorem q16d {t : Nat} (h : t < 24) (a : qh) {l : List qf} (d : ∀ b∈l,ltB b) : Zb (l.map (Kw t a)) = Zb l:=by
  unfold Zb;rw [qed,List.length_map,qnt (g:=Kw t a) (f:=Kr) (fun b hb c j=>qtc _ (q5y t h) a b c (d b hb) (d c j))];rw [Zw (f:=fun b=>Yv (Kw t a b)) (g:=Yv) fun b hb=>(qkd _ (q5y t h) a b (d b hb)).2.1]
theorem qyq {p : List qf} (hp : Kh p = 0) {f : Kv} (s : FOk f) (t : 0≤f.Turn) : (place p f = ([],16)∧¬ ∀ b∈p,vB (Kw f.Turn.toNat f.At b))∨place p f = ([],4)∨
    (∃ q,place p f = (q,0)∧Kh q = 0∧(∀ b∈p.map (Kw f.Turn.toNat f.At),vB b)∧(∀ x y z,hasB q x y z↔hasB (p.map (Kw f.Turn.toNat f.At)) x y z)∧volL q = volL p∧Zb q = Zb p):=by
  obtain ⟨v,u,o⟩:=Jg.1 hp;have h : f.Turn.toNat < 24:=by have:=s.1;omega
  unfold place;rw [qs (by simp [hp]),qs (by simp [s])];by_cases m : ∀ b∈p,vB (Kw f.Turn.toNat f.At b)
  · rw [qq m]
    have d : ∀ b∈p.map (Kw f.Turn.toNat f.At),vB b:=fun b hb=>by
      obtain ⟨c,o,rfl⟩:=List.mem_map.1 hb;exact m c o
    have g : ∀ b∈p,ltB b:=fun b hb=>(qes (u b hb)).1;unfold mkB;rw [qs (by simp;omega),qq d];by_cases r : 400 < (mrgB 2 (p.map (Kw f.Turn.toNat f.At)) []).length
    · rw [qq r];exact .inr (.inl rfl)
    · rw [qs r];have n : (p.map (Kw f.Turn.toNat f.At)).length≤100000:=by simp;omega
      have a:=qgv 2 (p:=p.map (Kw f.Turn.toNat f.At)) (q:=[]) (by simp;omega);have j:=qm0 n;have k:=a.vB (InB.mrg (by simp;omega) (q16r d) InB.nil);have l:=qt4 h f.At g o.cnt;refine .inr (.inr ⟨_,rfl,Jg.2 ⟨q0,k,a⟩,d,j,?_,?_⟩)
      · have e : cnt3 1000000 (hasB (mrgB 2 (p.map (Kw f.Turn.toNat f.At)) [])) = cnt3 1000000 (hasB (p.map (Kw f.Turn.toNat f.At))):=qsz fun x y z _ _ _=>j x y z;rw [q16v a k,e,← q16w h f.At g,qip (N:=1000000) l fun b hb=>by have:=qes (d b hb);unfold vBN ltB at this;omega]
      · rw [qqj a k,← q16d h f.At g,qin l fun b hb=>qes (d b hb)];have : hasB (mrgB 2 (p.map (Kw f.Turn.toNat f.At)) []) = hasB (p.map (Kw f.Turn.toNat f.At)):=by funext x y z;exact propext (j x y z)
        rw [this]
  · rw [qs m];exact .inl ⟨rfl,m⟩
end Go.Sh
namespace Go.Sh
open Go Go.Am
theorem qo2 (p d : Int) (t : Rat) : posA (-p) (-d) t = -posA p d t:=by unfold posA;rw [Rat.intCast_neg,Rat.intCast_neg];grind
theorem qg0 {p d : Int} {t : Rat} (h : genA p d t) : genA (-p) (-d) t:=by
  intro k a;refine h (-k) ?_;rw [qo2] at a;rw [show 2 * -k = -(2 * k) by omega,Rat.intCast_neg];grind
theorem qgf {x p d : Int} {t : Rat} (h : inC x p d t) : inC (-1 - x) (-p) (-d) t:=by
  obtain ⟨a,b⟩:=h;unfold inC;rw [qo2,show 2 * (-1 - x) = -(2 * (x + 1)) by omega,show 2 * (-1 - x + 1) = -(2 * x) by omega,Rat.intCast_neg,Rat.intCast_neg];constructor <;> grind
theorem qho {a b c : Int} (h : rowOk a b c) {p d : qh} {t : Rat} (k : gen p d t) : genA (p.X * a + p.Y * b + p.Z * c) (d.X * a + d.Y * b + d.Z * c) t:=by
  obtain ⟨g,f,j⟩:=k;rcases h with ⟨rfl,rfl,rfl⟩ | ⟨rfl,rfl,rfl⟩ | ⟨rfl,rfl,rfl⟩ | ⟨rfl,rfl,rfl⟩ | ⟨rfl,rfl,rfl⟩ | ⟨rfl,rfl,rfl⟩
  · rw [show p.X * 1 + p.Y * 0 + p.Z * 0 = p.X by omega,show d.X * 1 + d.Y * 0 + d.Z * 0 = d.X by omega];exact g
  · rw [show p.X * -1 + p.Y * 0 + p.Z * 0 = -p.X by omega,show d.X * -1 + d.Y * 0 + d.Z * 0 = -d.X by omega];exact qg0 g
  · rw [show p.X * 0 + p.Y * 1 + p.Z * 0 = p.Y by omega,show d.X * 0 + d.Y * 1 + d.Z * 0 = d.Y by omega];exact f
  · rw [show p.X * 0 + p.Y * -1 + p.Z * 0 = -p.Y by omega,show d.X * 0 + d.Y * -1 + d.Z * 0 = -d.Y by omega];exact qg0 f
  · rw [show p.X * 0 + p.Y * 0 + p.Z * 1 = p.Z by omega,show d.X * 0 + d.Y * 0 + d.Z * 1 = d.Z by omega];exact j
  · rw [show p.X * 0 + p.Y * 0 + p.Z * -1 = -p.Z by omega,show d.X * 0 + d.Y * 0 + d.Z * -1 = -d.Z by omega];exact qg0 j
theorem qhq {a b c : Int} (h : rowOk a b c) {p d : qh} {x y z : Int} {t : Rat} (g : inC x p.X d.X t) (f : inC y p.Y d.Y t) (j : inC z p.Z d.Z t) : inC (x * a + y * b + z * c + min 0 (a + b + c) + 0) (p.X * a + p.Y * b + p.Z * c) (d.X * a + d.Y * b + d.Z * c) t:=by
  rcases h with ⟨rfl,rfl,rfl⟩ | ⟨rfl,rfl,rfl⟩ | ⟨rfl,rfl,rfl⟩ | ⟨rfl,rfl,rfl⟩ | ⟨rfl,rfl,rfl⟩ | ⟨rfl,rfl,rfl⟩
  · rw [show p.X * 1 + p.Y * 0 + p.Z * 0 = p.X by omega,show d.X * 1 + d.Y * 0 + d.Z * 0 = d.X by omega,show x * 1 + y * 0 + z * 0 + min 0 (1 + 0 + 0) + 0 = x by omega];exact g
  · rw [show p.X * -1 + p.Y * 0 + p.Z * 0 = -p.X by omega,show d.X * -1 + d.Y * 0 + d.Z * 0 = -d.X by omega,show x * -1 + y * 0 + z * 0 + min 0 (-1 + 0 + 0) + 0 = -1 - x by omega];exact qgf g
  · rw [show p.X * 0 + p.Y * 1 + p.Z * 0 = p.Y by omega,show d.X * 0 + d.Y * 1 + d.Z * 0 = d.Y by omega,show x * 0 + y * 1 + z * 0 + min 0 (0 + 1 + 0) + 0 = y by omega];exact f
  · rw [show p.X * 0 + p.Y * -1 + p.Z * 0 = -p.Y by omega,show d.X * 0 + d.Y * -1 + d.Z * 0 = -d.Y by omega,show x * 0 + y * -1 + z * 0 + min 0 (0 + -1 + 0) + 0 = -1 - y by omega];exact qgf f
  · rw [show p.X * 0 + p.Y * 0 + p.Z * 1 = p.Z by omega,show d.X * 0 + d.Y * 0 + d.Z * 1 = d.Z by omega,show x * 0 + y * 0 + z * 1 + min 0 (0 + 0 + 1) + 0 = z by omega];exact j
  · rw [show p.X * 0 + p.Y * 0 + p.Z * -1 = -p.Z by omega,show d.X * 0 + d.Y * 0 + d.Z * -1 = -d.Z by omega,show x * 0 + y * 0 + z * -1 + min 0 (0 + 0 + -1) + 0 = -1 - z by omega];exact qgf j
theorem qog {P : Int→Int→Int→Prop} {p d : qh} {t : Rat} {x y z : Int} (c : inC x p.X d.X t) (a : inC y p.Y d.Y t) (b : inC z p.Z d.Z t) : rayS P p d t↔P x y z:=by
  constructor
  · rintro ⟨l,k,m,h,f,g,j⟩;rw [qgg c f,qgg a g,qgg b j];exact h
  · intro h;exact ⟨x,y,z,h,c,a,b⟩
theorem qhn {a b c : Int} (h : rowOk a b c) {p d : qh} (j : fitV p d) : fitA (p.X * a + p.Y * b + p.Z * c) (d.X * a + d.Y * b + d.Z * c):=by
  obtain ⟨f1,f,g⟩:=j;unfold fitA at *;intro k;rcases h with ⟨rfl,rfl,rfl⟩ | ⟨rfl,rfl,rfl⟩ | ⟨rfl,rfl,rfl⟩ | ⟨rfl,rfl,rfl⟩ | ⟨rfl,rfl,rfl⟩ | ⟨rfl,rfl,rfl⟩
  · have:=f1 q0;omega
  · have:=f1 q0;omega
  · have:=f q0;omega
  · have:=f q0;omega
  · have:=g q0;omega
  · have:=g q0;omega
theorem qhk {a b c n : Int} (h : rowOk a b c) {v : qh} (d : inV v n) : -n≤v.X * a + v.Y * b + v.Z * c∧v.X * a + v.Y * b + v.Z * c≤n:=by
  unfold inV at d;rcases h with ⟨rfl,rfl,rfl⟩ | ⟨rfl,rfl,rfl⟩ | ⟨rfl,rfl,rfl⟩ | ⟨rfl,rfl,rfl⟩ | ⟨rfl,rfl,rfl⟩ | ⟨rfl,rfl,rfl⟩ <;> omega
theorem qnf : ∀ m∈tbl,∀ d : qh,nzV d→nzV (mulV m d):=by
  intro m a d hd;unfold nzV at *;simp only [tbl,List.mem_cons,List.not_mem_nil,or_false] at a;rcases a with rfl | rfl | rfl | rfl | rfl | rfl | rfl | rfl | rfl | rfl | rfl | rfl | rfl | rfl | rfl | rfl | rfl | rfl | rfl | rfl | rfl | rfl | rfl | rfl <;> (unfold mulV;simp only;omega)
theorem qud {m : V3} (b : m∈tbl) {p d : qh} (h : fitV p d) : fitV (mulV m p) (mulV m d):=by
  obtain ⟨⟨f,a,c⟩,_⟩:=q5t m b;exact ⟨qhn f h,qhn a h,qhn c h⟩
theorem q6e {m : V3} (b : m∈tbl) {v : qh} {n : Int} (h : inV v n) : inV (mulV m v) n:=by
  obtain ⟨⟨d,a,c⟩,_⟩:=q5t m b;exact ⟨qhk d h,qhk a h,qhk c h⟩
theorem qtq {d : qh} : dirV d↔inV d 8:=by unfold dirV inV;omega
theorem Y9.sub {G d S k : Rat→Prop} {o : Option Rat} (j : ∀ t,d t→G t) (h : ∀ t,0 < t→d t→(S t↔k t)) (f : Y9 G S o) : Y9 d k o:=by
  cases o with
  | none=>exact fun t c g s=>f t c (j t g) ((h t c g).2 s)
  | some T=>
    obtain ⟨m,p,e,l,n⟩:=f;exact ⟨m,fun t c g s=>p t c (j t g) ((h t c g).2 s),e,l,fun t a b g=>(h t (by grind) g).1 (n t a b (j t g))⟩
theorem ql3 {m : V3} (n : m∈tbl) {l u : List qf} {p d : qh} (q : ∀ x y z,hasB u (uMap m ⟨0,0,0⟩ x y z).X (uMap m ⟨0,0,0⟩ x y z).Y (uMap m ⟨0,0,0⟩ x y z).Z↔hasB l x y z) (o : fitV p d) (hd : dirV d) (j : nzV d) : firstT u (mulV m p) (mulV m d) = firstT l p d:=by
  obtain ⟨⟨h,k,f⟩,_⟩:=q5t m n;refine Y9.unique (qv1 o hd) ((ql1 (l:=u) (p:=mulV m p) (qnf m n d j)).sub (fun t g=>⟨qho h g,qho k g,qho f g⟩) fun t _ g=>?_) (ql1 j);obtain ⟨x,b⟩:=q6c g.1;obtain ⟨y,a⟩:=q6c g.2.1;obtain ⟨z,c⟩:=q6c g.2.2;rw [qog b a c,qog (p:=mulV m p) (d:=mulV m d) (x:=(uMap m ⟨0,0,0⟩ x y z).X) (y:=(uMap m ⟨0,0,0⟩ x y z).Y) (z:=(uMap m ⟨0,0,0⟩ x y z).Z) (qhq h b a c) (qhq k b a c) (qhq f b a c)];exact q x y z
def rv (b : Bool) (u : Int) : Int:=if b = true then -1 - u else u
theorem qik {N : Nat} (b : Bool) (f : Int→Int) : sumZ N (fun x=>f (rv b x)) = sumZ N f:=by
  cases b with
  | true=>exact q165
  | false=>rfl
theorem q5w {N : Nat} (b1 a b : Bool) (F : Int→Int→Int→Int) : S3 N (fun x y z=>F (rv b1 x) (rv a y) (rv b z)) = S3 N F:=by
  unfold S3;have c : (sumZ N fun x=>sumZ N fun y=>sumZ N fun z=>F (rv b1 x) (rv a y) (rv b z)) = sumZ N fun x=>sumZ N fun y=>sumZ N fun z=>F (rv b1 x) (rv a y) z:=Zx fun x _ _=>Zx fun y _ _=>qik b (fun z=>F (rv b1 x) (rv a y) z);have d : (sumZ N fun x=>sumZ N fun y=>sumZ N fun z=>F (rv b1 x) (rv a y) z) = sumZ N fun x=>sumZ N fun y=>sumZ N fun z=>F (rv b1 x) y z:=Zx fun x _ _=>qik a (fun y=>sumZ N fun z=>F (rv b1 x) y z);rw [c,d];exact qik b1 (fun x=>sumZ N fun y=>sumZ N fun z=>F x y z)
theorem qf4 {N : Nat} (F : Int→Int→Int→Int) : S3 N (fun x y z=>F x z y) = S3 N F:=Zx fun x _ _=>qq7
theorem qc0 {N : Nat} (F : Int→Int→Int→Int) : S3 N (fun x y z=>F y x z) = S3 N F:=by
  unfold S3;exact qq7 (f:=fun x y=>sumZ N fun z=>F y x z)
theorem qr7 {N : Nat} (F : Int→Int→Int→Int) : S3 N (fun x y z=>F y z x) = S3 N F:=by
  rw [qc0 (fun x y z=>F x z y),qf4]
theorem qiy {N : Nat} (F : Int→Int→Int→Int) : S3 N (fun x y z=>F z x y) = S3 N F:=by
  rw [qf4 (fun x y z=>F y x z),qc0]
theorem qr9 {N : Nat} (F : Int→Int→Int→Int) : S3 N (fun x y z=>F z y x) = S3 N F:=by
  rw [qc0 (fun x y z=>F z x y),qiy]
theorem q16o : ∀ m∈tbl,∃ b1 a b : Bool,
    (∀ x y z,uMap m ⟨0,0,0⟩ x y z = ⟨rv b1 x,rv a y,rv b z⟩)∨(∀ x y z,uMap m ⟨0,0,0⟩ x y z = ⟨rv b1 x,rv a z,rv b y⟩)∨
    (∀ x y z,uMap m ⟨0,0,0⟩ x y z = ⟨rv b1 y,rv a x,rv b z⟩)∨(∀ x y z,uMap m ⟨0,0,0⟩ x y z = ⟨rv b1 y,rv a z,rv b x⟩)∨
    (∀ x y z,uMap m ⟨0,0,0⟩ x y z = ⟨rv b1 z,rv a x,rv b y⟩)∨(∀ x y z,uMap m ⟨0,0,0⟩ x y z = ⟨rv b1 z,rv a y,rv b x⟩):=by
  intro m c;refine ⟨decide (m.1.X + m.2.1.X + m.2.2.X < 0),decide (m.1.Y + m.2.1.Y + m.2.2.Y < 0),decide (m.1.Z + m.2.1.Z + m.2.2.Z < 0),?_⟩;simp only [tbl,List.mem_cons,List.not_mem_nil,or_false] at c;rcases c with rfl | rfl | rfl | rfl | rfl | rfl | rfl | rfl | rfl | rfl | rfl | rfl | rfl | rfl | rfl | rfl | rfl | rfl | rfl | rfl | rfl | rfl | rfl | rfl
  all_goals first
    | (refine .inl fun x y z=>?_;unfold uMap rv;simp only [qh.mk.injEq];refine ⟨?_,?_,?_⟩ <;> simp <;> omega)
    | (refine .inr (.inl fun x y z=>?_);unfold uMap rv;simp only [qh.mk.injEq];refine ⟨?_,?_,?_⟩ <;> simp <;> omega)
    | (refine .inr (.inr (.inl fun x y z=>?_));unfold uMap rv;simp only [qh.mk.injEq];refine ⟨?_,?_,?_⟩ <;> simp <;> omega)
    | (refine .inr (.inr (.inr (.inl fun x y z=>?_)));unfold uMap rv;simp only [qh.mk.injEq];refine ⟨?_,?_,?_⟩ <;> simp <;> omega)
    | (refine .inr (.inr (.inr (.inr (.inl fun x y z=>?_))));unfold uMap rv;simp only [qh.mk.injEq];refine ⟨?_,?_,?_⟩ <;> simp <;> omega)
    | (refine .inr (.inr (.inr (.inr (.inr fun x y z=>?_))));unfold uMap rv;simp only [qh.mk.injEq];refine ⟨?_,?_,?_⟩ <;> simp <;> omega)
theorem qr6 {N : Nat} {m : V3} (c : m∈tbl) (F : Int→Int→Int→Int) : S3 N (fun x y z=>F (uMap m ⟨0,0,0⟩ x y z).X (uMap m ⟨0,0,0⟩ x y z).Y (uMap m ⟨0,0,0⟩ x y z).Z) = S3 N F:=by
  obtain ⟨b1,a,b,h⟩:=q16o m c;rcases h with h | h | h | h | h | h <;> simp only [h]
  · exact q5w b1 a b F
  · exact (qf4 (fun x y z=>F (rv b1 x) (rv a y) (rv b z))).trans (q5w b1 a b F)
  · exact (qc0 (fun x y z=>F (rv b1 x) (rv a y) (rv b z))).trans (q5w b1 a b F)
  · exact (qr7 (fun x y z=>F (rv b1 x) (rv a y) (rv b z))).trans (q5w b1 a b F)
  · exact (qiy (fun x y z=>F (rv b1 x) (rv a y) (rv b z))).trans (q5w b1 a b F)
  · exact (qr9 (fun x y z=>F (rv b1 x) (rv a y) (rv b z))).trans (q5w b1 a b F)
def D6 (h : qh→Int) : Int:=h ⟨1,0,0⟩ + h ⟨-1,0,0⟩ + h ⟨0,1,0⟩ + h ⟨0,-1,0⟩ + h ⟨0,0,1⟩ + h ⟨0,0,-1⟩
theorem qr3 {f g : qh→Int} (h : ∀ w,(w = ⟨1,0,0⟩∨w = ⟨-1,0,0⟩∨w = ⟨0,1,0⟩∨w = ⟨0,-1,0⟩∨w = ⟨0,0,1⟩∨w = ⟨0,0,-1⟩)→f w = g w) : D6 f = D6 g:=by
  unfold D6;rw [h ⟨1,0,0⟩ qe,h ⟨-1,0,0⟩ qe,h ⟨0,1,0⟩ qe,h ⟨0,-1,0⟩ qe,h ⟨0,0,1⟩ qe,h ⟨0,0,-1⟩ qe]
theorem qr4 : ∀ m∈tbl,∀ h : qh→Int,D6 (fun w=>h (mulV m w)) = D6 h:=by
  intro m a h;simp only [tbl,List.mem_cons,List.not_mem_nil,or_false] at a;rcases a with rfl | rfl | rfl | rfl | rfl | rfl | rfl | rfl | rfl | rfl | rfl | rfl | rfl | rfl | rfl | rfl | rfl | rfl | rfl | rfl | rfl | rfl | rfl | rfl <;> (unfold D6 mulV;simp <;> omega)
theorem qts : ∀ m∈tbl,∀ w d : qh,dotV (mulV m w) (mulV m d) = dotV w d:=by
  intro m a w d;simp only [tbl,List.mem_cons,List.not_mem_nil,or_false] at a;rcases a with rfl | rfl | rfl | rfl | rfl | rfl | rfl | rfl | rfl | rfl | rfl | rfl | rfl | rfl | rfl | rfl | rfl | rfl | rfl | rfl | rfl | rfl | rfl | rfl <;> (unfold dotV mulV;simp [Int.neg_mul_neg] <;> omega)
theorem qhm {a b c : Int} (h : rowOk a b c) (v w : qh) : 2 * (v.X * a + v.Y * b + v.Z * c + min 0 (a + b + c) + 0) + 1 + (w.X * a + w.Y * b + w.Z * c) = (2 * v.X + 1 + w.X) * a + (2 * v.Y + 1 + w.Y) * b + (2 * v.Z + 1 + w.Z) * c:=by
  rcases h with ⟨rfl,rfl,rfl⟩ | ⟨rfl,rfl,rfl⟩ | ⟨rfl,rfl,rfl⟩ | ⟨rfl,rfl,rfl⟩ | ⟨rfl,rfl,rfl⟩ | ⟨rfl,rfl,rfl⟩ <;> omega
theorem qu9 {m : V3} (b : m∈tbl) (v w : qh) : J2 (uMap m ⟨0,0,0⟩ v.X v.Y v.Z) (mulV m w) = mulV m (J2 v w):=by
  obtain ⟨⟨g,a,c⟩,_⟩:=q5t m b;have d:=qhm g v w;have h:=qhm a v w;have f:=qhm c v w;unfold J2 uMap mulV;simp only [qh.mk.injEq];exact ⟨d,h,f⟩
noncomputable def gW (l : List qf) (d v : qh) (c : Bool) (w : qh) : Int:=ind (K7 l v w∧Yu l v w d = c)
theorem qpx (l : List qf) (d v : qh) : (sumI 0 6 fun k=>g1F l d v k) = D6 (gW l d v true)∧(sumI 0 6 fun k=>g2F l d v k) = D6 (gW l d v false):=by
  rw [sum6,sum6];exact ⟨rfl,rfl⟩
theorem quz {m : V3} (j : m∈tbl) {l u : List qf} {d : qh} (n : ∀ x y z,hasB u (uMap m ⟨0,0,0⟩ x y z).X (uMap m ⟨0,0,0⟩ x y z).Y (uMap m ⟨0,0,0⟩ x y z).Z↔hasB l x y z) (hd : dirV d) (q : nzV d) (c : Bool) (v : qh) {w : qh} (o : w = ⟨1,0,0⟩∨w = ⟨-1,0,0⟩∨w = ⟨0,1,0⟩∨w = ⟨0,-1,0⟩∨w = ⟨0,0,1⟩∨w = ⟨0,0,-1⟩) :
    gW u (mulV m d) (uMap m ⟨0,0,0⟩ v.X v.Y v.Z) c (mulV m w) = gW l d v c w:=by
  have p : K7 u (uMap m ⟨0,0,0⟩ v.X v.Y v.Z) (mulV m w)↔K7 l v w:=by
    unfold K7;rw [← n (v.X + w.X) (v.Y + w.Y) (v.Z + w.Z)]
    have e : ∀ a b c : Int,v.X * a + v.Y * b + v.Z * c + min 0 (a + b + c) + 0 + (w.X * a + w.Y * b + w.Z * c) = (v.X + w.X) * a + (v.Y + w.Y) * b + (v.Z + w.Z) * c + min 0 (a + b + c) + 0:=fun a b c=>by
      rw [Int.add_mul,Int.add_mul,Int.add_mul];omega
    show ¬ hasB u (v.X * m.1.X + v.Y * m.2.1.X + v.Z * m.2.2.X + min 0 (m.1.X + m.2.1.X + m.2.2.X) + 0 + (w.X * m.1.X + w.Y * m.2.1.X + w.Z * m.2.2.X)) (v.X * m.1.Y + v.Y * m.2.1.Y + v.Z * m.2.2.Y + min 0 (m.1.Y + m.2.1.Y + m.2.2.Y) + 0 + (w.X * m.1.Y + w.Y * m.2.1.Y + w.Z * m.2.2.Y)) (v.X * m.1.Z + v.Y * m.2.1.Z + v.Z * m.2.2.Z + min 0 (m.1.Z + m.2.1.Z + m.2.2.Z) + 0 + (w.X * m.1.Z + w.Y * m.2.1.Z + w.Z * m.2.2.Z))↔_;rw [e,e,e];exact Iff.rfl
  have k : Yu u (uMap m ⟨0,0,0⟩ v.X v.Y v.Z) (mulV m w) (mulV m d) = Yu l v w d:=by
    unfold Yu;rw [qts m j];by_cases h : 0 < dotV w d
    · rw [Qb h]
      have f : fitV (J2 v w) d:=by
        unfold fitV fitA J2;unfold dotV at h;rcases o with rfl | rfl | rfl | rfl | rfl | rfl <;> (simp only at *;refine ⟨fun _=>?_,fun _=>?_,fun _=>?_⟩ <;> omega)
      have g : blk u (J2 (uMap m ⟨0,0,0⟩ v.X v.Y v.Z) (mulV m w)) (mulV m d)↔blk l (J2 v w) d:=by
        rw [qjj,qjj,qu9 j,ql3 j n f hd q]
      rw [decide_eq_decide.2 g]
    · rw [Q8 h];rfl
  unfold gW;rw [k];exact Ym (and_congr p Iff.rfl)
theorem qti {m : V3} (b : m∈tbl) {l u : List qf} {d : qh} (g : ∀ x y z,hasB u (uMap m ⟨0,0,0⟩ x y z).X (uMap m ⟨0,0,0⟩ x y z).Y (uMap m ⟨0,0,0⟩ x y z).Z↔hasB l x y z) (a : FitS l d) (hs : FitS u (mulV m d)) : litN u (mulV m d) = litN l d∧Zt u (mulV m d) = Zt l d:=by
  obtain ⟨h,c1⟩:=qcn a;obtain ⟨f,c2⟩:=qcn hs
  have key : ∀ c : Bool,(S3 30 fun x y z=>ind (hasB u x y z) * D6 (gW u (mulV m d) ⟨x,y,z⟩ c)) = S3 30 fun x y z=>ind (hasB l x y z) * D6 (gW l d ⟨x,y,z⟩ c):=fun c=>by
    rw [← qr6 (N:=30) b (fun x y z=>ind (hasB u x y z) * D6 (gW u (mulV m d) ⟨x,y,z⟩ c))];refine qbz fun x y z _ _ _=>?_;rw [Ym (g x y z)];congr 1;rw [← qr4 m b];exact qr3 fun w j=>quz b g a.dr a.nz c ⟨x,y,z⟩ j
  rw [q9h,q9h,qfn,qfn,q46 c1 h,q46 c2 f,q46 c1 h,q46 c2 f];simp only [(qpx _ _ _).1,(qpx _ _ _).2];exact ⟨key true,key false⟩
theorem q17r (l : List qf) (p d : qh) (f : Int) (h0 : 0≤f) : qd0 l p d f = some true:=by
  unfold qd0;obtain ⟨b1,al,am⟩:=ql5 l d;refine bnd qj5 ?_;refine bnd al ?_
  cases b1 with
  | false=>rfl
  | true=>
    rw [qzl];by_cases r : fitV p d∧inV p 240
    · rw [Qb r];by_cases ht : f ≥ 24
      · rw [Qb ht];rfl
      · rw [Q8 ht];obtain ⟨l6,l9,lc⟩:=am rfl;have o:=q2o lc;refine bnd (a:=false) rfl ?_;refine bnd (a:=false) rfl ?_;refine bnd (a:=false) rfl ?_;rw [qy];have m : f.toNat < 24:=by omega
        have j:=q5y f.toNat m;have hF : FOk ({Turn:=f,At:=({X:=0,Y:=0,Z:=0} : qh)} : Kv):=by unfold FOk InV;simp only;omega
        have ag : inV d 8:=qtq.1 o.dr
        have s : ∀ v : qh,inV v 240→q4v ({Turn:=f,At:=({X:=0,Y:=0,Z:=0} : qh)} : Kv) v = some (mulV (axT f.toNat) v):=fun v hv=>by
          rw [qz4 (t:=f.toNat) (show f = (f.toNat : Int) by omega) m (by unfold Z5;simp only;omega) (by unfold Z5;unfold inV at hv;omega)];unfold Yq addV;simp only [Int.add_zero]
        rcases qyq o.ck hF h0 with ⟨e,hn⟩ | e | ⟨u,e,aa,_,q,_,_⟩
        · exfalso;refine hn fun b hb=>?_;have h9:=l9 b hb;have ah:=((Jg.1 o.ck).2.1 b hb).1;rw [qio m _ ah];have a1:=q6e j h9.1;have a2:=q6e j h9.2;unfold inV at a1 a2;unfold Yq addV InV;simp only [Int.add_zero];omega
        · refine bnd ((qpj l _ h0).trans (congrArg some e)) ?_;rfl
        · refine bnd ((qpj l _ h0).trans (congrArg some e)) ?_;rw [show ((0 : Int) != 0) = false from rfl,qy];refine bnd (s p r.2) ?_;refine bnd (s d (by unfold inV at *;omega)) ?_
          have hu : ∀ x y z,hasB u (uMap (axT f.toNat) ⟨0,0,0⟩ x y z).X (uMap (axT f.toNat) ⟨0,0,0⟩ x y z).Y (uMap (axT f.toNat) ⟨0,0,0⟩ x y z).Z↔hasB l x y z:=fun x y z=>by
            rw [q];exact qm2 m ⟨0,0,0⟩ (fun b hb=>((Jg.1 o.ck).2.1 b hb).1) x y z
          have aj:=qs7 (n:=9) (fun b hb=>((Jg.1 aa).2.1 b hb).1) fun x y z h=>by
            have h:=(q x y z).1 h;obtain ⟨c,ad,g⟩:=h;obtain ⟨b,hb,rfl⟩:=List.mem_map.1 ad;have h9:=l9 b hb;have a1:=q6e j h9.1;have a2:=q6e j h9.2;unfold inV at a1 a2;rw [qyn] at g;unfold boxM q5l addV at g;simp only [Int.add_zero] at g;omega
          have uc : chkF u (mulV (axT f.toNat) d) = 0:=qcc aa (fun b hb=>by have:=aj b hb;unfold inV at *;omega) ⟨q6e j ag,qnf _ j d o.nz⟩;have us:=q2o uc;have an : fitV (mulV (axT f.toNat) p) (mulV (axT f.toNat) d)∧inV (mulV (axT f.toNat) p) 240:=⟨qud j r.1,q6e j r.2⟩
          have k : q2t u (mulV (axT f.toNat) p) (mulV (axT f.toNat) d) = q2t l p d:=by
            rw [ql0 uc an,ql0 lc r,ql3 j hu r.1 o.dr o.nz]
          obtain ⟨n1,n2⟩:=qti j hu o us;have k1 : U4 l d = (w64 (litN l d),w64 (Zt l d),0):=by unfold U4;rw [qs (by simpa using lc)]
          have k2 : U4 u (mulV (axT f.toNat) d) = (w64 (litN l d),w64 (Zt l d),0):=by unfold U4;rw [qs (by simpa using uc),n1,n2]
          refine bnd (qil _ _ _) ?_;refine bnd ((qil _ _ _).trans (congrArg some k)) ?_;refine bnd ((qbn _ _).trans (congrArg some k1)) ?_;refine bnd ((qbn _ _).trans (congrArg some k2)) ?_;simp
    · rw [Q8 r];rfl
end Go.Sh
