/- PX -/
import Derived.Test.YtgkialgkmjnfbaaK9
namespace Go.Sh
open Go Go.Am
structure qf where
  X : Int
  Y : Int
  deriving DecidableEq
structure Qw where
  A : qf
  B : qf
  deriving DecidableEq
def K9 (x : Qw) : List DV:=[.int .i64 x.A.X,.int .i64 x.A.Y,.int .i64 x.B.X,.int .i64 x.B.Y]
structure qm where
  A : Int
  B : Int
  deriving DecidableEq
structure Ku where
  Nodes : List qf
  Edges : List qm
  deriving DecidableEq
noncomputable def q65 (a : qf) : Option Bool:=
  (cond (decide ((min a.X a.Y) ≥ (-1000000))) (some (decide ((max a.X a.Y)≤1000000))) (some false)).bind fun b=>some b
noncomputable def qa3 (a : Qw) : Option Bool:=
  (q65 a.A).bind fun b=>(cond b ((q65 a.B).bind fun c=>some c) (some false)).bind fun d=>(cond d (some (!((a.A.X == a.B.X) == (a.A.Y == a.B.Y)))) (some false)).bind fun f=>some f
structure qh where
  Lo : Int
  Hi : Int
  deriving DecidableEq
structure Y8 where
  rows_ : List (Int × List qh)
  columns_ : List (Int × List qh)
  deriving DecidableEq
def qx (x : qh) : List DV:=[.int .i64 x.Lo,.int .i64 x.Hi]
noncomputable def q2r (b : List qh) (c : qh→Option Bool) (a : Int) : Option ((Int) ⊕ ((Unit) ⊕ (Int))):=
  cond (decide (a < (b.length : Int))) ((idx b a).bind fun d=>(c d).bind fun f=>cond f (some (.inr (.inr a))) (some (.inl (w64 (a + 1))))) (some (.inr (.inl ())))
noncomputable def q7n (a : List qh) (b : qh→Option Bool) : Option Int:=
  (loop (q2r a b) 0 : Option ((Unit) ⊕ (Int))).bind fun c=>(match c with | .inl _=>some (-1) | .inr d=>some d)
noncomputable def q5e (a : List qh) (b : qh→Option Bool) : Option Bool:=
  (q7n a b).bind fun c=>some (decide (c ≥ 0))
noncomputable def q2s (a : qh) : Option Bool:=
  (cond (decide (a.Lo < a.Hi)) (some (decide (a.Lo ≥ (-1000000)))) (some false)).bind fun b=>(cond b (some (decide (a.Hi≤1000000))) (some false)).bind fun c=>some c
noncomputable def qc3 (a : qh) : Option Bool:=
  (q2s a).bind fun b=>some (!b)
def Ul (x : List qh) : List DV:=[.sl 2 (x.map qx)]
structure qn where
  at_ : Int
  list_ : Int
  by_ : Int
  deriving DecidableEq
def Qe (x : qn) : List DV:=[.int .i64 x.at_,.int .i64 x.list_,.int .i64 x.by_]
noncomputable def q9t (a : qn) (b : qn) : Option Int:=
  some (w64 (a.at_ - b.at_))
def qa0 : ByteArray:=⟨#[0,1,2,2,3,3,3,3,4,4,4,4,4,4,4,4,5,5,5,5,5,5,5,5,5,5,5,5,5,5,5,5,6,6,6,6,6,6,6,6,6,6,6,6,6,6,6,6,6,6,6,6,6,6,6,6,6,6,6,6,6,6,6,6,7,7,7,7,7,7,7,7,7,7,7,7,7,7,7,7,7,7,7,7,7,7,7,7,7,7,7,7,7,7,7,7,7,7,7,7,7,7,7,7,7,7,7,7,7,7,7,7,7,7,7,7,7,7,7,7,7,7,7,7,7,7,7,7,8,8,8,8,8,8,8,8,8,8,8,8,8,8,8,8,8,8,8,8,8,8,8,8,8,8,8,8,8,8,8,8,8,8,8,8,8,8,8,8,8,8,8,8,8,8,8,8,8,8,8,8,8,8,8,8,8,8,8,8,8,8,8,8,8,8,8,8,8,8,8,8,8,8,8,8,8,8,8,8,8,8,8,8,8,8,8,8,8,8,8,8,8,8,8,8,8,8,8,8,8,8,8,8,8,8,8,8,8,8,8,8,8,8,8,8,8,8,8,8,8,8,8,8,8,8,8,8]⟩
noncomputable def q1l (c : Int) : Option Int:=
  (cond (decide (c ≥ 4294967296)) (some (Int.fdiv c (2 ^ 32),32)) (some (c,0))).bind fun a=>(cond (decide (a.1 ≥ 65536)) (some (Int.fdiv a.1 (2 ^ 16),w64 (a.2 + 16))) (some (a.1,a.2))).bind fun b=>(cond (decide (b.1 ≥ 256)) (some (Int.fdiv b.1 (2 ^ 8),w64 (b.2 + 8))) (some (b.1,b.2))).bind fun d=>(q48 qa0 (IntKind.wrap .u8 d.1)).bind fun f=>some (w64 (d.2 + (w64 f)))
noncomputable def Jl (a : Int) : Option Int:=
  (q1l a).bind fun b=>some b
noncomputable def q8e (c : Int) (d : qn→qn→Option Int) (a : Int × List qn) : Option ((Int × List qn) ⊕ (List qn)):=
  (cond (decide (a.1 > c)) ((idx a.2 a.1).bind fun f=>(idx a.2 (w64 (a.1 - 1))).bind fun g=>(d f g).bind fun h=>some (decide (h < 0))) (some false)).bind fun j=>cond j ((idx a.2 (w64 (a.1 - 1))).bind fun b=>(idx a.2 a.1).bind fun k=>(idx a.2 a.1).bind fun _=>(idx (a.2.set a.1.toNat b) (w64 (a.1 - 1))).bind fun _=>some (.inl (w64 (a.1 - 1),(a.2.set a.1.toNat b).set (w64 (a.1 - 1)).toNat k))) (some (.inr a.2))
noncomputable def q8d (b : Int) (c : Int) (d : qn→qn→Option Int) (a : Int × List qn) : Option ((Int × List qn) ⊕ (List qn)):=
  cond (decide (a.1 < b)) (((loop (q8e c d) (a.1,a.2)).bind fun f=>some f).bind fun g=>some (.inl (w64 (a.1 + 1),g))) (some (.inr a.2))
noncomputable def q8c (b : qn→qn→Option Int) (c : List qn) (a : Int) (d : Int) : Option (List qn):=
  (loop (q8d d a b) (w64 (a + 1),c)).bind fun f=>some f
noncomputable def q9q (d : Int) (b : Int) (f : qn→qn→Option Int) (a : Int × List qn) : Option ((Int × List qn) ⊕ (List qn)):=
  cond (decide ((w64 ((w64 (2 * a.1)) + 1)) ≥ d)) (some (.inr a.2)) ((cond (decide ((w64 ((w64 ((w64 (2 * a.1)) + 1)) + 1)) < d)) ((idx a.2 (w64 (b + (w64 ((w64 (2 * a.1)) + 1))))).bind fun h=>(idx a.2 (w64 ((w64 (b + (w64 ((w64 (2 * a.1)) + 1)))) + 1))).bind fun j=>(f h j).bind fun k=>some (decide (k < 0))) (some false)).bind fun l=>(cond l (some (w64 ((w64 ((w64 (2 * a.1)) + 1)) + 1))) (some (w64 ((w64 (2 * a.1)) + 1)))).bind fun c=>(idx a.2 (w64 (b + a.1))).bind fun m=>(idx a.2 (w64 (b + c))).bind fun n=>(f m n).bind fun o=>cond (!(decide (o < 0))) (some (.inr a.2)) ((idx a.2 (w64 (b + c))).bind fun g=>(idx a.2 (w64 (b + a.1))).bind fun p=>(idx a.2 (w64 (b + a.1))).bind fun _=>(idx (a.2.set (w64 (b + a.1)).toNat g) (w64 (b + c))).bind fun _=>some (.inl (c,(a.2.set (w64 (b + a.1)).toNat g).set (w64 (b + c)).toNat p))))
noncomputable def q61 (a : qn→qn→Option Int) (b : List qn) (c : Int) (d : Int) (f : Int) : Option (List qn):=
  (loop (q9q d f a) (c,b)).bind fun g=>some g
noncomputable def q84 (d : qn→qn→Option Int) (f : Int) (b : Int) (a : Int × List qn) : Option ((Int × List qn) ⊕ (List qn)):=
  cond (decide (a.1 ≥ 0)) ((q61 d a.2 a.1 (w64 (f - b)) b).bind fun c=>(Qv c.length a.2.length).bind fun _=>some (.inl (w64 (a.1 - 1),c))) (some (.inr a.2))
noncomputable def q85 (b : Int) (g : qn→qn→Option Int) (a : Int × List qn) : Option ((Int × List qn) ⊕ (List qn)):=
  cond (decide (a.1 ≥ 0)) ((idx a.2 (w64 (b + a.1))).bind fun c=>(idx a.2 b).bind fun d=>(idx a.2 b).bind fun _=>(idx (a.2.set b.toNat c) (w64 (b + a.1))).bind fun _=>(q61 g ((a.2.set b.toNat c).set (w64 (b + a.1)).toNat d) 0 a.1 b).bind fun f=>(Qv f.length ((a.2.set b.toNat c).set (w64 (b + a.1)).toNat d).length).bind fun _=>some (.inl (w64 (a.1 - 1),f))) (some (.inr a.2))
noncomputable def q83 (c : qn→qn→Option Int) (d : List qn) (a : Int) (b : Int) : Option (List qn):=
  (loop (q84 c b a) (w64 (Int.tdiv (w64 ((w64 (b - a)) - 1)) 2),d)).bind fun f=>(loop (q85 a c) (w64 ((w64 (b - a)) - 1),f)).bind fun g=>some g
noncomputable def q43 (f : qn→qn→Option Int) (c : List qn) (a : Int) (b : Int) (d : Int) : Option (Int × Int × Int):=
  (idx c b).bind fun g=>(idx c a).bind fun h=>(f g h).bind fun j=>cond (decide (j < 0)) (some (b,a,w64 (d + 1))) (some (a,b,d))
noncomputable def q5j (a : qn→qn→Option Int) (b : List qn) (g : Int) (h : Int) (j : Int) (k : Int) : Option (Int × Int):=
  (q43 a b g h k).bind fun c=>(q43 a b c.2.1 j c.2.2).bind fun d=>(q43 a b c.1 d.1 d.2.2).bind fun f=>some (f.2.1,f.2.2)
noncomputable def q40 (c : qn→qn→Option Int) (d : List qn) (a : Int) (f : Int) : Option (Int × Int):=
  (q5j c d (w64 (a - 1)) a (w64 (a + 1)) f).bind fun b=>some (b.1,b.2)
noncomputable def q7w (d : List qn) (a : Int) (b : Int) (f : qn→qn→Option Int) : Option (Int × Int):=
  (cond (decide ((w64 (b - a)) ≥ 8)) ((cond (decide ((w64 (b - a)) ≥ 50)) ((q40 f d (w64 (a + (w64 ((w64 (Int.tdiv (w64 (b - a)) 4)) * 1)))) 0).bind fun h=>(q40 f d (w64 (a + (w64 ((w64 (Int.tdiv (w64 (b - a)) 4)) * 2)))) h.2).bind fun j=>(q40 f d (w64 (a + (w64 ((w64 (Int.tdiv (w64 (b - a)) 4)) * 3)))) j.2).bind fun k=>some (h.1,j.1,k.1,k.2)) (some (w64 (a + (w64 ((w64 (Int.tdiv (w64 (b - a)) 4)) * 1))),w64 (a + (w64 ((w64 (Int.tdiv (w64 (b - a)) 4)) * 2))),w64 (a + (w64 ((w64 (Int.tdiv (w64 (b - a)) 4)) * 3))),0))).bind fun g=>(q5j f d g.1 g.2.1 g.2.2.1 g.2.2.2).bind fun l=>some (l.1,l.2)) (some (w64 (a + (w64 ((w64 (Int.tdiv (w64 (b - a)) 4)) * 2))),0))).bind fun c=>cond (c.2 == 0) (some (c.1,1)) (cond (c.2 == 12) (some (c.1,2)) (some (c.1,0)))
noncomputable def q9n (a : Int × Int × List qn) : Option ((Int × Int × List qn) ⊕ (List qn)):=
  cond (decide (a.1 < a.2.1)) ((idx a.2.2 a.2.1).bind fun b=>(idx a.2.2 a.1).bind fun c=>(idx a.2.2 a.1).bind fun _=>(idx (a.2.2.set a.1.toNat b) a.2.1).bind fun _=>some (.inl (w64 (a.1 + 1),w64 (a.2.1 - 1),(a.2.2.set a.1.toNat b).set a.2.1.toNat c))) (some (.inr a.2.2))
noncomputable def q9m (f : qn→qn→Option Int) (a : List qn) (b : Int) (c : Int) : Option (List qn):=
  (loop q9n (b,w64 (c - 1),a)).bind fun d=>some d
noncomputable def q8l (c : Int) (b : Int × Int × List qn) (d : qn→qn→Option Int) (a : Int) : Option ((Int) ⊕ (Int)):=
  (cond (decide (a < c)) ((idx b.2.2 a).bind fun f=>(idx b.2.2 (w64 (a - 1))).bind fun g=>(d f g).bind fun h=>some (!(decide (h < 0)))) (some false)).bind fun j=>cond j (some (.inl (w64 (a + 1)))) (some (.inr a))
noncomputable def q8m (c : qn→qn→Option Int) (a : Int × List qn) : Option ((Int × List qn) ⊕ (List qn)):=
  cond (decide (a.1 ≥ 1)) ((idx a.2 a.1).bind fun d=>(idx a.2 (w64 (a.1 - 1))).bind fun f=>(c d f).bind fun g=>cond (!(decide (g < 0))) (some (.inr a.2)) ((idx a.2 (w64 (a.1 - 1))).bind fun b=>(idx a.2 a.1).bind fun h=>(idx a.2 a.1).bind fun _=>(idx (a.2.set a.1.toNat b) (w64 (a.1 - 1))).bind fun _=>some (.inl (w64 (a.1 - 1),(a.2.set a.1.toNat b).set (w64 (a.1 - 1)).toNat h)))) (some (.inr a.2))
noncomputable def q8n (d : Int) (f : qn→qn→Option Int) (b : Int) (a : Int × List qn) : Option ((Int × List qn) ⊕ (Int × List qn)):=
  cond (decide (a.1 < d)) ((idx a.2 a.1).bind fun g=>(idx a.2 (w64 (a.1 - 1))).bind fun h=>(f g h).bind fun j=>cond (!(decide (j < 0))) (some (.inr (b,a.2))) ((idx a.2 (w64 (a.1 - 1))).bind fun c=>(idx a.2 a.1).bind fun k=>(idx a.2 a.1).bind fun _=>(idx (a.2.set a.1.toNat c) (w64 (a.1 - 1))).bind fun _=>some (.inl (w64 (a.1 + 1),(a.2.set a.1.toNat c).set (w64 (a.1 - 1)).toNat k)))) (some (.inr (b,a.2)))
noncomputable def q5p (c : Int) (d : qn→qn→Option Int) (h : Int) (b : Int × Int × List qn) : Option ((Int × Int × List qn) ⊕ ((List qn) ⊕ (Bool × List qn))):=
  cond (decide (b.2.1 < 5)) (((loop (q8l c b d) b.1).bind fun a=>cond (a == c) (some (.inr (true,b.2.2))) (cond (decide ((w64 (c - h)) < 50)) (some (.inr (false,b.2.2))) ((idx b.2.2 (w64 (a - 1))).bind fun f=>(idx b.2.2 a).bind fun j=>(idx b.2.2 a).bind fun _=>(idx (b.2.2.set a.toNat f) (w64 (a - 1))).bind fun _=>(cond (decide ((w64 (a - h)) ≥ 2)) ((loop (q8m d) (w64 (a - 1),(b.2.2.set a.toNat f).set (w64 (a - 1)).toNat j)).bind fun g=>some g) (some ((b.2.2.set a.toNat f).set (w64 (a - 1)).toNat j))).bind fun k=>cond (decide ((w64 (c - a)) ≥ 2)) ((loop (q8n c d a) (w64 (a + 1),k)).bind fun g=>some (.inl g)) (some (.inl (a,k))))) : Option ((Int × List qn) ⊕ (Bool × List qn))).bind fun m=>(match m with | .inl l=>some (.inl (l.1,w64 (b.2.1 + 1),l.2)) | .inr n=>some (.inr (.inr n)))) (some (.inr (.inl b.2.2)))
noncomputable def q5o (b : qn→qn→Option Int) (c : List qn) (a : Int) (d : Int) : Option (Bool × List qn):=
  (loop (q5p d b a) (w64 (a + 1),0,c) : Option ((List qn) ⊕ (Bool × List qn))).bind fun f=>(match f with | .inl g=>some (false,g) | .inr h=>some h)
noncomputable def q9g (b : Int × Int × List qn) (c : Int) (d : qn→qn→Option Int) (a : Int) : Option ((Int) ⊕ (Int)):=
  (cond (decide (a≤b.2.1)) ((idx b.2.2 c).bind fun f=>(idx b.2.2 a).bind fun g=>(d f g).bind fun h=>some (!(decide (h < 0)))) (some false)).bind fun j=>cond j (some (.inl (w64 (a + 1)))) (some (.inr a))
noncomputable def q9h (c : Int) (b : Int × Int × List qn) (d : Int) (f : qn→qn→Option Int) (a : Int) : Option ((Int) ⊕ (Int)):=
  (cond (decide (c≤a)) ((idx b.2.2 d).bind fun g=>(idx b.2.2 a).bind fun h=>(f g h).bind fun j=>some (decide (j < 0))) (some false)).bind fun k=>cond k (some (.inl (w64 (a - 1)))) (some (.inr a))
noncomputable def q9f (d : Int) (f : qn→qn→Option Int) (a : Int × Int × List qn) : Option ((Int × Int × List qn) ⊕ (Int × List qn)):=
  (loop (q9g a d f) a.1).bind fun b=>(loop (q9h b a d f) a.2.1).bind fun c=>cond (decide (b > c)) (some (.inr (b,a.2.2))) ((idx a.2.2 c).bind fun g=>(idx a.2.2 b).bind fun h=>(idx a.2.2 b).bind fun _=>(idx (a.2.2.set b.toNat g) c).bind fun _=>some (.inl (w64 (b + 1),w64 (c - 1),(a.2.2.set b.toNat g).set c.toNat h)))
noncomputable def q9e (g : qn→qn→Option Int) (b : List qn) (a : Int) (h : Int) (c : Int) : Option (Int × List qn):=
  (idx b c).bind fun d=>(idx b a).bind fun j=>(idx b a).bind fun _=>(idx (b.set a.toNat d) c).bind fun _=>(loop (q9f a g) (w64 (a + 1),w64 (h - 1),(b.set a.toNat d).set c.toNat j)).bind fun f=>some (f.1,f.2)
noncomputable def q91 (h : Int) (c : List qn) (b : Int) (d : qn) (f : Int) (g : qn) (j : qn→qn→Option Int) (a : Int) : Option ((Int) ⊕ (Int)):=
  (cond (decide (a≤(w64 (h - 1)))) ((idx ((c.set b.toNat d).set f.toNat g) a).bind fun k=>(idx ((c.set b.toNat d).set f.toNat g) b).bind fun l=>(j k l).bind fun m=>some (decide (m < 0))) (some false)).bind fun n=>cond n (some (.inl (w64 (a + 1)))) (some (.inr a))
noncomputable def q92 (h : Int) (c : List qn) (b : Int) (d : qn) (f : Int) (g : qn) (j : qn→qn→Option Int) (a : Int) : Option ((Int) ⊕ (Int)):=
  (cond (decide (h≤a)) ((idx ((c.set b.toNat d).set f.toNat g) a).bind fun k=>(idx ((c.set b.toNat d).set f.toNat g) b).bind fun l=>(j k l).bind fun m=>some (!(decide (m < 0)))) (some false)).bind fun n=>cond n (some (.inl (w64 (a - 1)))) (some (.inr a))
noncomputable def q94 (b : Int × Int × List qn) (c : Int) (d : qn→qn→Option Int) (a : Int) : Option ((Int) ⊕ (Int)):=
  (cond (decide (a≤b.2.1)) ((idx b.2.2 a).bind fun f=>(idx b.2.2 c).bind fun g=>(d f g).bind fun h=>some (decide (h < 0))) (some false)).bind fun j=>cond j (some (.inl (w64 (a + 1)))) (some (.inr a))
noncomputable def q95 (c : Int) (b : Int × Int × List qn) (d : Int) (f : qn→qn→Option Int) (a : Int) : Option ((Int) ⊕ (Int)):=
  (cond (decide (c≤a)) ((idx b.2.2 a).bind fun g=>(idx b.2.2 d).bind fun h=>(f g h).bind fun j=>some (!(decide (j < 0)))) (some false)).bind fun k=>cond k (some (.inl (w64 (a - 1)))) (some (.inr a))
noncomputable def q93 (d : Int) (f : qn→qn→Option Int) (a : Int × Int × List qn) : Option ((Int × Int × List qn) ⊕ (Int × List qn)):=
  (loop (q94 a d f) a.1).bind fun b=>(loop (q95 b a d f) a.2.1).bind fun c=>cond (decide (b > c)) (some (.inr (c,a.2.2))) ((idx a.2.2 c).bind fun g=>(idx a.2.2 b).bind fun h=>(idx a.2.2 b).bind fun _=>(idx (a.2.2.set b.toNat g) c).bind fun _=>some (.inl (w64 (b + 1),w64 (c - 1),(a.2.2.set b.toNat g).set c.toNat h)))
noncomputable def q90 (k : qn→qn→Option Int) (b : List qn) (a : Int) (l : Int) (c : Int) : Option (Int × Bool × List qn):=
  (idx b c).bind fun d=>(idx b a).bind fun f=>(idx b a).bind fun _=>(idx (b.set a.toNat d) c).bind fun _=>(loop (q91 l b a d c f k) (w64 (a + 1))).bind fun j=>(loop (q92 j b a d c f k) (w64 (l - 1))).bind fun g=>cond (decide (j > g)) ((idx ((b.set a.toNat d).set c.toNat f) a).bind fun m=>(idx ((b.set a.toNat d).set c.toNat f) g).bind fun p=>(idx ((b.set a.toNat d).set c.toNat f) g).bind fun _=>(idx (((b.set a.toNat d).set c.toNat f).set g.toNat m) a).bind fun _=>some (g,true,(((b.set a.toNat d).set c.toNat f).set g.toNat m).set a.toNat p)) ((idx ((b.set a.toNat d).set c.toNat f) g).bind fun n=>(idx ((b.set a.toNat d).set c.toNat f) j).bind fun q=>(idx ((b.set a.toNat d).set c.toNat f) j).bind fun _=>(idx (((b.set a.toNat d).set c.toNat f).set j.toNat n) g).bind fun _=>(loop (q93 a k) (w64 (j + 1),w64 (g - 1),(((b.set a.toNat d).set c.toNat f).set j.toNat n).set g.toNat q)).bind fun h=>(idx h.2 a).bind fun o=>(idx h.2 h.1).bind fun r=>(idx h.2 h.1).bind fun _=>(idx (h.2.set h.1.toNat o) a).bind fun _=>some (h.1,false,(h.2.set h.1.toNat o).set a.toNat r))
noncomputable def U8 (a : Int) : Option Int:=
  (Jl (IntKind.wrap .u64 a)).bind fun b=>(shlK .u64 1 b).bind fun c=>some c
noncomputable def U9 (a : Int) : Option Int:=
  some (xorI .u64 (xorI .u64 (xorI .u64 a (IntKind.wrap .u64 (a * (2 ^ 13)))) (Int.fdiv (xorI .u64 a (IntKind.wrap .u64 (a * (2 ^ 13)))) (2 ^ 7))) (IntKind.wrap .u64 ((xorI .u64 (xorI .u64 a (IntKind.wrap .u64 (a * (2 ^ 13)))) (Int.fdiv (xorI .u64 a (IntKind.wrap .u64 (a * (2 ^ 13)))) (2 ^ 7))) * (2 ^ 17))))
noncomputable def q7t (b : Int) (d : Int) (f : Int) (a : Int × List qn × Int) : Option ((Int × List qn × Int) ⊕ (List qn)):=
  cond (decide (a.1≤(w64 ((w64 (b + (w64 ((w64 (Int.tdiv (w64 (d - b)) 4)) * 2)))) + 1)))) ((U9 a.2.2).bind fun c=>(cond (decide ((w64 (andI .u64 c (IntKind.wrap .u64 (f - 1)))) ≥ (w64 (d - b)))) (some (w64 ((w64 (andI .u64 c (IntKind.wrap .u64 (f - 1)))) - (w64 (d - b))))) (some (w64 (andI .u64 c (IntKind.wrap .u64 (f - 1)))))).bind fun g=>(idx a.2.1 (w64 (b + g))).bind fun h=>(idx a.2.1 a.1).bind fun j=>(idx a.2.1 a.1).bind fun _=>(idx (a.2.1.set a.1.toNat h) (w64 (b + g))).bind fun _=>some (.inl (w64 (a.1 + 1),(a.2.1.set a.1.toNat h).set (w64 (b + g)).toNat j,c))) (some (.inr a.2.1))
noncomputable def q7s (g : qn→qn→Option Int) (c : List qn) (a : Int) (b : Int) : Option (List qn):=
  cond (decide ((w64 (b - a)) ≥ 8)) ((U8 (w64 (b - a))).bind fun d=>(loop (q7t a b d) (w64 ((w64 (a + (w64 ((w64 (Int.tdiv (w64 (b - a)) 4)) * 2)))) - 1),c,IntKind.wrap .u64 (w64 (b - a)))).bind fun f=>some f) (some c)
noncomputable def q5x (c : qn→qn→Option Int) (rec : List qn→Int→Int→Int→Option (List qn)) (a : Int × Int × Int × Bool × Bool × List qn) : Option ((Int × Int × Int × Bool × Bool × List qn) ⊕ (List qn)):=
  cond (decide ((w64 (a.2.1 - a.1))≤12)) ((q8c c a.2.2.2.2.2 a.1 a.2.1).bind fun l=>(Qv l.length a.2.2.2.2.2.length).bind fun _=>some (.inr l)) (cond (a.2.2.1 == 0) ((q83 c a.2.2.2.2.2 a.1 a.2.1).bind fun m=>(Qv m.length a.2.2.2.2.2.length).bind fun _=>some (.inr m)) ((cond (!a.2.2.2.1) ((q7s c a.2.2.2.2.2 a.1 a.2.1).bind fun n=>(Qv n.length a.2.2.2.2.2.length).bind fun _=>some (w64 (a.2.2.1 - 1),n)) (some (a.2.2.1,a.2.2.2.2.2))).bind fun d=>(q7w d.2 a.1 a.2.1 c).bind fun h=>(cond (h.2 == 2) ((q9m c d.2 a.1 a.2.1).bind fun o=>(Qv o.length d.2.length).bind fun _=>some (w64 ((w64 (a.2.1 - 1)) - (w64 (h.1 - a.1))),1,o)) (some (h.1,h.2,d.2))).bind fun f=>(cond a.2.2.2.1 (some a.2.2.2.2.1) (some false)).bind fun r=>(cond r (some (f.2.1 == 1)) (some false)).bind fun s=>(cond s ((q5o c f.2.2 a.1 a.2.1).bind fun j=>(Qv j.2.length f.2.2.length).bind fun _=>cond j.1 (some (.inr j.2)) (some (.inl j.2))) (some (.inl f.2.2)) : Option ((List qn) ⊕ (List qn))).bind fun t=>(match t with | .inl g=>(cond (decide (a.1 > 0)) ((idx g (w64 (a.1 - 1))).bind fun u=>(idx g f.1).bind fun v=>(c u v).bind fun w=>some (!(decide (w < 0)))) (some false)).bind fun x=>cond x ((q9e c g a.1 a.2.1 f.1).bind fun k=>(Qv k.2.length g.length).bind fun _=>some (.inl (k.1,a.2.1,d.1,a.2.2.2.1,a.2.2.2.2.1,k.2))) ((q90 c g a.1 a.2.1 f.1).bind fun b=>(Qv b.2.2.length g.length).bind fun _=>cond (decide ((w64 (b.1 - a.1)) < (w64 (a.2.1 - b.1)))) ((rec b.2.2 a.1 b.1 d.1).bind fun p=>(Qv p.length b.2.2.length).bind fun _=>some (.inl (w64 (b.1 + 1),a.2.1,d.1,decide ((w64 (b.1 - a.1)) ≥ (w64 (Int.tdiv (w64 (a.2.1 - a.1)) 8))),b.2.1,p))) ((rec b.2.2 (w64 (b.1 + 1)) a.2.1 d.1).bind fun q=>(Qv q.length b.2.2.length).bind fun _=>some (.inl (a.1,b.1,d.1,decide ((w64 (a.2.1 - b.1)) ≥ (w64 (Int.tdiv (w64 (a.2.1 - a.1)) 8))),b.2.1,q)))) | .inr y=>some (.inr y))))
noncomputable def q5y (rec : List qn→Int→Int→Int→Option (List qn)) (a : qn→qn→Option Int) (b : List qn) (c : Int) (d : Int) (f : Int) : Option (List qn):=
  (loop (q5x a rec) (c,d,f,true,true,b)).bind fun g=>some g
noncomputable def q5w : Nat→(qn→qn→Option Int)→List qn→Int→Int→Int→Option (List qn)
  | 0,_,_,_,_,_=>none
  | n + 1,a,b,c,d,f=>q5y (q5w n a) a b c d f
noncomputable def q5g (c : qn→qn→Option Int) (a : List qn) : Option (List qn):=
  (Jl (IntKind.wrap .u64 (a.length : Int))).bind fun d=>(lim (fun n=>q5w n c a 0 (a.length : Int) d)).bind fun b=>(Qv b.length a.length).bind fun _=>some b
noncomputable def qbz (a : List qn) : Option (List qn):=
  some a
noncomputable def q45 (b : List qh) (c : Int × List qn) (a : Int × List qn) : Option ((Int × List qn) ⊕ (List qn)):=
  cond (decide (a.1 < (b.length : Int))) ((idx b a.1).bind fun d=>(app 24 a.2 [({at_:=d.Lo,list_:=c.1,by_:=1} : qn),({at_:=d.Hi,list_:=c.1,by_:=(-1)} : qn)]).bind fun f=>some (.inl (w64 (a.1 + 1),f))) (some (.inr a.2))
noncomputable def q14 (b : List (List qh)) (a : Int × List qn) : Option ((Int × List qn) ⊕ (List qn)):=
  cond (decide (a.1 < (b.length : Int))) (((idx b a.1).bind fun c=>(loop (q45 c a) (0,a.2)).bind fun d=>some d).bind fun f=>some (.inl (w64 (a.1 + 1),f))) (some (.inr a.2))
noncomputable def q9u (b : List (List qh)) : Option (List (List qh) × List qn):=
  (loop (q14 b) (0,[])).bind fun c=>(q5g (fun f g=>q9t f g) c).bind fun a=>(Qv a.length c.length).bind fun _=>(qbz a).bind fun d=>(Qv d.length a.length).bind fun _=>some (b,d)
noncomputable def q9v (b : Int) (d : Bool) (c : Int) (a : List qh) : Option (List qh):=
  (cond (!d) (some true) (some (c == b))).bind fun f=>cond f (some a) ((cond (decide ((a.length : Int) > 0)) ((idx a (w64 ((a.length : Int) - 1))).bind fun g=>some (g.Hi == c)) (some false)).bind fun h=>cond h ((idx a (w64 ((a.length : Int) - 1))).bind fun j=>some (a.set (w64 ((a.length : Int) - 1)).toNat ({Lo:=j.Lo,Hi:=b} : qh))) ((app 16 a [({Lo:=c,Hi:=b} : qh)]).bind fun k=>some k))
noncomputable def q46 (f : List (List qh) × List qn) (g : Bool→Bool→Option Bool) (a : Int × List Int × Int × Bool × List qh) : Option ((Int × List Int × Int × Bool × List qh) ⊕ (List qh)):=
  cond (decide (a.1 < (f.2.length : Int))) ((idx f.2 a.1).bind fun b=>((q9v b.at_ a.2.2.2.1 a.2.2.1 a.2.2.2.2).bind fun h=>(idxA 2 a.2.1 b.list_).bind fun c=>(idxA 2 a.2.1 b.list_).bind fun _=>(idxA 2 (a.2.1.set b.list_.toNat (w64 (c + b.by_))) 0).bind fun j=>(idxA 2 (a.2.1.set b.list_.toNat (w64 (c + b.by_))) 1).bind fun k=>(g (decide (j > 0)) (decide (k > 0))).bind fun l=>some (a.2.1.set b.list_.toNat (w64 (c + b.by_)),l,h)).bind fun d=>some (.inl (w64 (a.1 + 1),d.1,b.at_,d.2.1,d.2.2))) (some (.inr a.2.2.2.2))
noncomputable def q63 (a : List qh) (b : List qh) (d : Bool→Bool→Option Bool) : Option (List qh):=
  (q9u [a,b]).bind fun c=>(Qv c.1.length [a,b].length).bind fun _=>((loop (q46 c d) (0,[0,0],0,false,[])).bind fun f=>some f).bind fun g=>some g
noncomputable def q9s (a : Bool) (b : Bool) : Option Bool:=
  some a
noncomputable def q1u (a : List qh) : Option (List qh × Int):=
  cond (decide ((a.length : Int) > 400)) (some ([],4)) ((q5e a (fun b=>qc3 b)).bind fun c=>cond c (some ([],8)) ((q63 a [] (fun b d=>q9s b d)).bind fun f=>some (f,0)))
noncomputable def Uj (r : Y8) (s : Qw) : Option Y8:=
  cond (s.A.Y == s.B.Y) ((app 16 (K5 [] s.A.Y r.rows_) [({Lo:=min s.A.X s.B.X,Hi:=max s.A.X s.B.X} : qh)]).bind fun l=>some {rows_:=Kl s.A.Y l r.rows_,columns_:=r.columns_})
    ((app 16 (K5 [] s.A.X r.columns_) [({Lo:=min s.A.Y s.B.Y,Hi:=max s.A.Y s.B.Y} : qh)]).bind fun l=>some {rows_:=r.rows_,columns_:=Kl s.A.X l r.columns_})
noncomputable def q18 : List Qw→Y8→Option Y8
  | [],r=>some r
  | s::l,r=>(Uj r s).bind (q18 l)
noncomputable def Jc : List (Int × List qh)→Option (List (Int × List qh))
  | []=>some []
  | e::l=>(q1u e.2).bind fun x=>(Jc l).bind fun y=>some ((e.1,x.1)::y)
noncomputable def qa1 (c : List Qw) : Option Y8:=
  cond (decide (c.length≤1000000)) ((q18 c {rows_:=[],columns_:=[]}).bind fun r=>(Jc r.rows_).bind fun a=>(Jc r.columns_).bind fun b=>some {rows_:=a,columns_:=b}) none
noncomputable def qc2 (a : qh) (b : Int) : Option Bool:=
  (cond (decide (a.Lo≤b)) (some (decide (b < a.Hi))) (some false)).bind fun c=>some c
noncomputable def q13 (a : List qh) (b : Int) : Option Bool:=
  (q5e a (fun c=>qc2 c b)).bind fun d=>some d
noncomputable def q66 (b : Y8) (a : qf) : Option (Bool × Bool × Bool × Bool):=
  (q13 (K5 [] a.Y b.rows_) a.X).bind fun c=>(q13 (K5 [] a.X b.columns_) a.Y).bind fun d=>(q13 (K5 [] a.Y b.rows_) (w64 (a.X - 1))).bind fun f=>(q13 (K5 [] a.X b.columns_) (w64 (a.Y - 1))).bind fun g=>some (c,d,f,g)
noncomputable def qa2 (b : Y8) (c : qf) : Option Bool:=
  (q66 b c).bind fun a=>(cond ((a.1 == false) && ((a.2.1 == false) && ((a.2.2.1 == false) && ((a.2.2.2 == false) && true)))) (some ((a.1 == false) && ((a.2.1 == false) && ((a.2.2.1 == false) && ((a.2.2.2 == false) && true))))) (cond ((a.1 == true) && ((a.2.1 == false) && ((a.2.2.1 == true) && ((a.2.2.2 == false) && true)))) (some ((a.1 == true) && ((a.2.1 == false) && ((a.2.2.1 == true) && ((a.2.2.2 == false) && true))))) (some ((a.1 == false) && ((a.2.1 == true) && ((a.2.2.1 == false) && ((a.2.2.2 == true) && true))))))).bind fun d=>cond d (some false) (some true)
noncomputable def q2u (a : qf) (c : List (Int × List qh)) (d : List (Int × List qh)) (b : List (qf × Bool)) : Option (List (qf × Bool)):=
  (qa2 ({rows_:=c,columns_:=d} : Y8) ({X:=(a).X,Y:=(a).Y} : qf)).bind fun f=>cond f (some (Kl ({X:=(a).X,Y:=(a).Y} : qf) true b)) (some b)
def qu (x : qf) : List DV:=[.int .i64 x.X,.int .i64 x.Y]
noncomputable def q15 (a : qf) (b : qf) : Option Int:=
  cond (a.X != b.X) (some (w64 (a.X - b.X))) (some (w64 (a.Y - b.Y)))
noncomputable def q8b (c : Int) (d : qf→qf→Option Int) (a : Int × List qf) : Option ((Int × List qf) ⊕ (List qf)):=
  (cond (decide (a.1 > c)) ((idx a.2 a.1).bind fun f=>(idx a.2 (w64 (a.1 - 1))).bind fun g=>(d f g).bind fun h=>some (decide (h < 0))) (some false)).bind fun j=>cond j ((idx a.2 (w64 (a.1 - 1))).bind fun b=>(idx a.2 a.1).bind fun k=>(idx a.2 a.1).bind fun _=>(idx (a.2.set a.1.toNat b) (w64 (a.1 - 1))).bind fun _=>some (.inl (w64 (a.1 - 1),(a.2.set a.1.toNat b).set (w64 (a.1 - 1)).toNat k))) (some (.inr a.2))
noncomputable def q8a (b : Int) (c : Int) (d : qf→qf→Option Int) (a : Int × List qf) : Option ((Int × List qf) ⊕ (List qf)):=
  cond (decide (a.1 < b)) (((loop (q8b c d) (a.1,a.2)).bind fun f=>some f).bind fun g=>some (.inl (w64 (a.1 + 1),g))) (some (.inr a.2))
noncomputable def q89 (b : qf→qf→Option Int) (c : List qf) (a : Int) (d : Int) : Option (List qf):=
  (loop (q8a d a b) (w64 (a + 1),c)).bind fun f=>some f
noncomputable def q9p (d : Int) (b : Int) (f : qf→qf→Option Int) (a : Int × List qf) : Option ((Int × List qf) ⊕ (List qf)):=
  cond (decide ((w64 ((w64 (2 * a.1)) + 1)) ≥ d)) (some (.inr a.2)) ((cond (decide ((w64 ((w64 ((w64 (2 * a.1)) + 1)) + 1)) < d)) ((idx a.2 (w64 (b + (w64 ((w64 (2 * a.1)) + 1))))).bind fun h=>(idx a.2 (w64 ((w64 (b + (w64 ((w64 (2 * a.1)) + 1)))) + 1))).bind fun j=>(f h j).bind fun k=>some (decide (k < 0))) (some false)).bind fun l=>(cond l (some (w64 ((w64 ((w64 (2 * a.1)) + 1)) + 1))) (some (w64 ((w64 (2 * a.1)) + 1)))).bind fun c=>(idx a.2 (w64 (b + a.1))).bind fun m=>(idx a.2 (w64 (b + c))).bind fun n=>(f m n).bind fun o=>cond (!(decide (o < 0))) (some (.inr a.2)) ((idx a.2 (w64 (b + c))).bind fun g=>(idx a.2 (w64 (b + a.1))).bind fun p=>(idx a.2 (w64 (b + a.1))).bind fun _=>(idx (a.2.set (w64 (b + a.1)).toNat g) (w64 (b + c))).bind fun _=>some (.inl (c,(a.2.set (w64 (b + a.1)).toNat g).set (w64 (b + c)).toNat p))))
noncomputable def q60 (a : qf→qf→Option Int) (b : List qf) (c : Int) (d : Int) (f : Int) : Option (List qf):=
  (loop (q9p d f a) (c,b)).bind fun g=>some g
noncomputable def q81 (d : qf→qf→Option Int) (f : Int) (b : Int) (a : Int × List qf) : Option ((Int × List qf) ⊕ (List qf)):=
  cond (decide (a.1 ≥ 0)) ((q60 d a.2 a.1 (w64 (f - b)) b).bind fun c=>(Qv c.length a.2.length).bind fun _=>some (.inl (w64 (a.1 - 1),c))) (some (.inr a.2))
noncomputable def q82 (b : Int) (g : qf→qf→Option Int) (a : Int × List qf) : Option ((Int × List qf) ⊕ (List qf)):=
  cond (decide (a.1 ≥ 0)) ((idx a.2 (w64 (b + a.1))).bind fun c=>(idx a.2 b).bind fun d=>(idx a.2 b).bind fun _=>(idx (a.2.set b.toNat c) (w64 (b + a.1))).bind fun _=>(q60 g ((a.2.set b.toNat c).set (w64 (b + a.1)).toNat d) 0 a.1 b).bind fun f=>(Qv f.length ((a.2.set b.toNat c).set (w64 (b + a.1)).toNat d).length).bind fun _=>some (.inl (w64 (a.1 - 1),f))) (some (.inr a.2))
noncomputable def q80 (c : qf→qf→Option Int) (d : List qf) (a : Int) (b : Int) : Option (List qf):=
  (loop (q81 c b a) (w64 (Int.tdiv (w64 ((w64 (b - a)) - 1)) 2),d)).bind fun f=>(loop (q82 a c) (w64 ((w64 (b - a)) - 1),f)).bind fun g=>some g
noncomputable def q42 (f : qf→qf→Option Int) (c : List qf) (a : Int) (b : Int) (d : Int) : Option (Int × Int × Int):=
  (idx c b).bind fun g=>(idx c a).bind fun h=>(f g h).bind fun j=>cond (decide (j < 0)) (some (b,a,w64 (d + 1))) (some (a,b,d))
noncomputable def q5i (a : qf→qf→Option Int) (b : List qf) (g : Int) (h : Int) (j : Int) (k : Int) : Option (Int × Int):=
  (q42 a b g h k).bind fun c=>(q42 a b c.2.1 j c.2.2).bind fun d=>(q42 a b c.1 d.1 d.2.2).bind fun f=>some (f.2.1,f.2.2)
noncomputable def q3z (c : qf→qf→Option Int) (d : List qf) (a : Int) (f : Int) : Option (Int × Int):=
  (q5i c d (w64 (a - 1)) a (w64 (a + 1)) f).bind fun b=>some (b.1,b.2)
noncomputable def q7v (d : List qf) (a : Int) (b : Int) (f : qf→qf→Option Int) : Option (Int × Int):=
  (cond (decide ((w64 (b - a)) ≥ 8)) ((cond (decide ((w64 (b - a)) ≥ 50)) ((q3z f d (w64 (a + (w64 ((w64 (Int.tdiv (w64 (b - a)) 4)) * 1)))) 0).bind fun h=>(q3z f d (w64 (a + (w64 ((w64 (Int.tdiv (w64 (b - a)) 4)) * 2)))) h.2).bind fun j=>(q3z f d (w64 (a + (w64 ((w64 (Int.tdiv (w64 (b - a)) 4)) * 3)))) j.2).bind fun k=>some (h.1,j.1,k.1,k.2)) (some (w64 (a + (w64 ((w64 (Int.tdiv (w64 (b - a)) 4)) * 1))),w64 (a + (w64 ((w64 (Int.tdiv (w64 (b - a)) 4)) * 2))),w64 (a + (w64 ((w64 (Int.tdiv (w64 (b - a)) 4)) * 3))),0))).bind fun g=>(q5i f d g.1 g.2.1 g.2.2.1 g.2.2.2).bind fun l=>some (l.1,l.2)) (some (w64 (a + (w64 ((w64 (Int.tdiv (w64 (b - a)) 4)) * 2))),0))).bind fun c=>cond (c.2 == 0) (some (c.1,1)) (cond (c.2 == 12) (some (c.1,2)) (some (c.1,0)))
noncomputable def q9l (a : Int × Int × List qf) : Option ((Int × Int × List qf) ⊕ (List qf)):=
  cond (decide (a.1 < a.2.1)) ((idx a.2.2 a.2.1).bind fun b=>(idx a.2.2 a.1).bind fun c=>(idx a.2.2 a.1).bind fun _=>(idx (a.2.2.set a.1.toNat b) a.2.1).bind fun _=>some (.inl (w64 (a.1 + 1),w64 (a.2.1 - 1),(a.2.2.set a.1.toNat b).set a.2.1.toNat c))) (some (.inr a.2.2))
noncomputable def q9k (f : qf→qf→Option Int) (a : List qf) (b : Int) (c : Int) : Option (List qf):=
  (loop q9l (b,w64 (c - 1),a)).bind fun d=>some d
noncomputable def q8i (c : Int) (b : Int × Int × List qf) (d : qf→qf→Option Int) (a : Int) : Option ((Int) ⊕ (Int)):=
  (cond (decide (a < c)) ((idx b.2.2 a).bind fun f=>(idx b.2.2 (w64 (a - 1))).bind fun g=>(d f g).bind fun h=>some (!(decide (h < 0)))) (some false)).bind fun j=>cond j (some (.inl (w64 (a + 1)))) (some (.inr a))
noncomputable def q8j (c : qf→qf→Option Int) (a : Int × List qf) : Option ((Int × List qf) ⊕ (List qf)):=
  cond (decide (a.1 ≥ 1)) ((idx a.2 a.1).bind fun d=>(idx a.2 (w64 (a.1 - 1))).bind fun f=>(c d f).bind fun g=>cond (!(decide (g < 0))) (some (.inr a.2)) ((idx a.2 (w64 (a.1 - 1))).bind fun b=>(idx a.2 a.1).bind fun h=>(idx a.2 a.1).bind fun _=>(idx (a.2.set a.1.toNat b) (w64 (a.1 - 1))).bind fun _=>some (.inl (w64 (a.1 - 1),(a.2.set a.1.toNat b).set (w64 (a.1 - 1)).toNat h)))) (some (.inr a.2))
noncomputable def q8k (d : Int) (f : qf→qf→Option Int) (b : Int) (a : Int × List qf) : Option ((Int × List qf) ⊕ (Int × List qf)):=
  cond (decide (a.1 < d)) ((idx a.2 a.1).bind fun g=>(idx a.2 (w64 (a.1 - 1))).bind fun h=>(f g h).bind fun j=>cond (!(decide (j < 0))) (some (.inr (b,a.2))) ((idx a.2 (w64 (a.1 - 1))).bind fun c=>(idx a.2 a.1).bind fun k=>(idx a.2 a.1).bind fun _=>(idx (a.2.set a.1.toNat c) (w64 (a.1 - 1))).bind fun _=>some (.inl (w64 (a.1 + 1),(a.2.set a.1.toNat c).set (w64 (a.1 - 1)).toNat k)))) (some (.inr (b,a.2)))
noncomputable def q5n (c : Int) (d : qf→qf→Option Int) (h : Int) (b : Int × Int × List qf) : Option ((Int × Int × List qf) ⊕ ((List qf) ⊕ (Bool × List qf))):=
  cond (decide (b.2.1 < 5)) (((loop (q8i c b d) b.1).bind fun a=>cond (a == c) (some (.inr (true,b.2.2))) (cond (decide ((w64 (c - h)) < 50)) (some (.inr (false,b.2.2))) ((idx b.2.2 (w64 (a - 1))).bind fun f=>(idx b.2.2 a).bind fun j=>(idx b.2.2 a).bind fun _=>(idx (b.2.2.set a.toNat f) (w64 (a - 1))).bind fun _=>(cond (decide ((w64 (a - h)) ≥ 2)) ((loop (q8j d) (w64 (a - 1),(b.2.2.set a.toNat f).set (w64 (a - 1)).toNat j)).bind fun g=>some g) (some ((b.2.2.set a.toNat f).set (w64 (a - 1)).toNat j))).bind fun k=>cond (decide ((w64 (c - a)) ≥ 2)) ((loop (q8k c d a) (w64 (a + 1),k)).bind fun g=>some (.inl g)) (some (.inl (a,k))))) : Option ((Int × List qf) ⊕ (Bool × List qf))).bind fun m=>(match m with | .inl l=>some (.inl (l.1,w64 (b.2.1 + 1),l.2)) | .inr n=>some (.inr (.inr n)))) (some (.inr (.inl b.2.2)))
noncomputable def q5m (b : qf→qf→Option Int) (c : List qf) (a : Int) (d : Int) : Option (Bool × List qf):=
  (loop (q5n d b a) (w64 (a + 1),0,c) : Option ((List qf) ⊕ (Bool × List qf))).bind fun f=>(match f with | .inl g=>some (false,g) | .inr h=>some h)
noncomputable def q9c (b : Int × Int × List qf) (c : Int) (d : qf→qf→Option Int) (a : Int) : Option ((Int) ⊕ (Int)):=
  (cond (decide (a≤b.2.1)) ((idx b.2.2 c).bind fun f=>(idx b.2.2 a).bind fun g=>(d f g).bind fun h=>some (!(decide (h < 0)))) (some false)).bind fun j=>cond j (some (.inl (w64 (a + 1)))) (some (.inr a))
noncomputable def q9d (c : Int) (b : Int × Int × List qf) (d : Int) (f : qf→qf→Option Int) (a : Int) : Option ((Int) ⊕ (Int)):=
  (cond (decide (c≤a)) ((idx b.2.2 d).bind fun g=>(idx b.2.2 a).bind fun h=>(f g h).bind fun j=>some (decide (j < 0))) (some false)).bind fun k=>cond k (some (.inl (w64 (a - 1)))) (some (.inr a))
noncomputable def q9b (d : Int) (f : qf→qf→Option Int) (a : Int × Int × List qf) : Option ((Int × Int × List qf) ⊕ (Int × List qf)):=
  (loop (q9c a d f) a.1).bind fun b=>(loop (q9d b a d f) a.2.1).bind fun c=>cond (decide (b > c)) (some (.inr (b,a.2.2))) ((idx a.2.2 c).bind fun g=>(idx a.2.2 b).bind fun h=>(idx a.2.2 b).bind fun _=>(idx (a.2.2.set b.toNat g) c).bind fun _=>some (.inl (w64 (b + 1),w64 (c - 1),(a.2.2.set b.toNat g).set c.toNat h)))
noncomputable def q9a (g : qf→qf→Option Int) (b : List qf) (a : Int) (h : Int) (c : Int) : Option (Int × List qf):=
  (idx b c).bind fun d=>(idx b a).bind fun j=>(idx b a).bind fun _=>(idx (b.set a.toNat d) c).bind fun _=>(loop (q9b a g) (w64 (a + 1),w64 (h - 1),(b.set a.toNat d).set c.toNat j)).bind fun f=>some (f.1,f.2)
noncomputable def q8v (h : Int) (c : List qf) (b : Int) (d : qf) (f : Int) (g : qf) (j : qf→qf→Option Int) (a : Int) : Option ((Int) ⊕ (Int)):=
  (cond (decide (a≤(w64 (h - 1)))) ((idx ((c.set b.toNat d).set f.toNat g) a).bind fun k=>(idx ((c.set b.toNat d).set f.toNat g) b).bind fun l=>(j k l).bind fun m=>some (decide (m < 0))) (some false)).bind fun n=>cond n (some (.inl (w64 (a + 1)))) (some (.inr a))
noncomputable def q8w (h : Int) (c : List qf) (b : Int) (d : qf) (f : Int) (g : qf) (j : qf→qf→Option Int) (a : Int) : Option ((Int) ⊕ (Int)):=
  (cond (decide (h≤a)) ((idx ((c.set b.toNat d).set f.toNat g) a).bind fun k=>(idx ((c.set b.toNat d).set f.toNat g) b).bind fun l=>(j k l).bind fun m=>some (!(decide (m < 0)))) (some false)).bind fun n=>cond n (some (.inl (w64 (a - 1)))) (some (.inr a))
noncomputable def q8y (b : Int × Int × List qf) (c : Int) (d : qf→qf→Option Int) (a : Int) : Option ((Int) ⊕ (Int)):=
  (cond (decide (a≤b.2.1)) ((idx b.2.2 a).bind fun f=>(idx b.2.2 c).bind fun g=>(d f g).bind fun h=>some (decide (h < 0))) (some false)).bind fun j=>cond j (some (.inl (w64 (a + 1)))) (some (.inr a))
noncomputable def q8z (c : Int) (b : Int × Int × List qf) (d : Int) (f : qf→qf→Option Int) (a : Int) : Option ((Int) ⊕ (Int)):=
  (cond (decide (c≤a)) ((idx b.2.2 a).bind fun g=>(idx b.2.2 d).bind fun h=>(f g h).bind fun j=>some (!(decide (j < 0)))) (some false)).bind fun k=>cond k (some (.inl (w64 (a - 1)))) (some (.inr a))
noncomputable def q8x (d : Int) (f : qf→qf→Option Int) (a : Int × Int × List qf) : Option ((Int × Int × List qf) ⊕ (Int × List qf)):=
  (loop (q8y a d f) a.1).bind fun b=>(loop (q8z b a d f) a.2.1).bind fun c=>cond (decide (b > c)) (some (.inr (c,a.2.2))) ((idx a.2.2 c).bind fun g=>(idx a.2.2 b).bind fun h=>(idx a.2.2 b).bind fun _=>(idx (a.2.2.set b.toNat g) c).bind fun _=>some (.inl (w64 (b + 1),w64 (c - 1),(a.2.2.set b.toNat g).set c.toNat h)))
noncomputable def q8u (k : qf→qf→Option Int) (b : List qf) (a : Int) (l : Int) (c : Int) : Option (Int × Bool × List qf):=
  (idx b c).bind fun d=>(idx b a).bind fun f=>(idx b a).bind fun _=>(idx (b.set a.toNat d) c).bind fun _=>(loop (q8v l b a d c f k) (w64 (a + 1))).bind fun j=>(loop (q8w j b a d c f k) (w64 (l - 1))).bind fun g=>cond (decide (j > g)) ((idx ((b.set a.toNat d).set c.toNat f) a).bind fun m=>(idx ((b.set a.toNat d).set c.toNat f) g).bind fun p=>(idx ((b.set a.toNat d).set c.toNat f) g).bind fun _=>(idx (((b.set a.toNat d).set c.toNat f).set g.toNat m) a).bind fun _=>some (g,true,(((b.set a.toNat d).set c.toNat f).set g.toNat m).set a.toNat p)) ((idx ((b.set a.toNat d).set c.toNat f) g).bind fun n=>(idx ((b.set a.toNat d).set c.toNat f) j).bind fun q=>(idx ((b.set a.toNat d).set c.toNat f) j).bind fun _=>(idx (((b.set a.toNat d).set c.toNat f).set j.toNat n) g).bind fun _=>(loop (q8x a k) (w64 (j + 1),w64 (g - 1),(((b.set a.toNat d).set c.toNat f).set j.toNat n).set g.toNat q)).bind fun h=>(idx h.2 a).bind fun o=>(idx h.2 h.1).bind fun r=>(idx h.2 h.1).bind fun _=>(idx (h.2.set h.1.toNat o) a).bind fun _=>some (h.1,false,(h.2.set h.1.toNat o).set a.toNat r))
noncomputable def q7r (b : Int) (d : Int) (f : Int) (a : Int × List qf × Int) : Option ((Int × List qf × Int) ⊕ (List qf)):=
  cond (decide (a.1≤(w64 ((w64 (b + (w64 ((w64 (Int.tdiv (w64 (d - b)) 4)) * 2)))) + 1)))) ((U9 a.2.2).bind fun c=>(cond (decide ((w64 (andI .u64 c (IntKind.wrap .u64 (f - 1)))) ≥ (w64 (d - b)))) (some (w64 ((w64 (andI .u64 c (IntKind.wrap .u64 (f - 1)))) - (w64 (d - b))))) (some (w64 (andI .u64 c (IntKind.wrap .u64 (f - 1)))))).bind fun g=>(idx a.2.1 (w64 (b + g))).bind fun h=>(idx a.2.1 a.1).bind fun j=>(idx a.2.1 a.1).bind fun _=>(idx (a.2.1.set a.1.toNat h) (w64 (b + g))).bind fun _=>some (.inl (w64 (a.1 + 1),(a.2.1.set a.1.toNat h).set (w64 (b + g)).toNat j,c))) (some (.inr a.2.1))
noncomputable def q7q (g : qf→qf→Option Int) (c : List qf) (a : Int) (b : Int) : Option (List qf):=
  cond (decide ((w64 (b - a)) ≥ 8)) ((U8 (w64 (b - a))).bind fun d=>(loop (q7r a b d) (w64 ((w64 (a + (w64 ((w64 (Int.tdiv (w64 (b - a)) 4)) * 2)))) - 1),c,IntKind.wrap .u64 (w64 (b - a)))).bind fun f=>some f) (some c)
noncomputable def q5u (c : qf→qf→Option Int) (rec : List qf→Int→Int→Int→Option (List qf)) (a : Int × Int × Int × Bool × Bool × List qf) : Option ((Int × Int × Int × Bool × Bool × List qf) ⊕ (List qf)):=
  cond (decide ((w64 (a.2.1 - a.1))≤12)) ((q89 c a.2.2.2.2.2 a.1 a.2.1).bind fun l=>(Qv l.length a.2.2.2.2.2.length).bind fun _=>some (.inr l)) (cond (a.2.2.1 == 0) ((q80 c a.2.2.2.2.2 a.1 a.2.1).bind fun m=>(Qv m.length a.2.2.2.2.2.length).bind fun _=>some (.inr m)) ((cond (!a.2.2.2.1) ((q7q c a.2.2.2.2.2 a.1 a.2.1).bind fun n=>(Qv n.length a.2.2.2.2.2.length).bind fun _=>some (w64 (a.2.2.1 - 1),n)) (some (a.2.2.1,a.2.2.2.2.2))).bind fun d=>(q7v d.2 a.1 a.2.1 c).bind fun h=>(cond (h.2 == 2) ((q9k c d.2 a.1 a.2.1).bind fun o=>(Qv o.length d.2.length).bind fun _=>some (w64 ((w64 (a.2.1 - 1)) - (w64 (h.1 - a.1))),1,o)) (some (h.1,h.2,d.2))).bind fun f=>(cond a.2.2.2.1 (some a.2.2.2.2.1) (some false)).bind fun r=>(cond r (some (f.2.1 == 1)) (some false)).bind fun s=>(cond s ((q5m c f.2.2 a.1 a.2.1).bind fun j=>(Qv j.2.length f.2.2.length).bind fun _=>cond j.1 (some (.inr j.2)) (some (.inl j.2))) (some (.inl f.2.2)) : Option ((List qf) ⊕ (List qf))).bind fun t=>(match t with | .inl g=>(cond (decide (a.1 > 0)) ((idx g (w64 (a.1 - 1))).bind fun u=>(idx g f.1).bind fun v=>(c u v).bind fun w=>some (!(decide (w < 0)))) (some false)).bind fun x=>cond x ((q9a c g a.1 a.2.1 f.1).bind fun k=>(Qv k.2.length g.length).bind fun _=>some (.inl (k.1,a.2.1,d.1,a.2.2.2.1,a.2.2.2.2.1,k.2))) ((q8u c g a.1 a.2.1 f.1).bind fun b=>(Qv b.2.2.length g.length).bind fun _=>cond (decide ((w64 (b.1 - a.1)) < (w64 (a.2.1 - b.1)))) ((rec b.2.2 a.1 b.1 d.1).bind fun p=>(Qv p.length b.2.2.length).bind fun _=>some (.inl (w64 (b.1 + 1),a.2.1,d.1,decide ((w64 (b.1 - a.1)) ≥ (w64 (Int.tdiv (w64 (a.2.1 - a.1)) 8))),b.2.1,p))) ((rec b.2.2 (w64 (b.1 + 1)) a.2.1 d.1).bind fun q=>(Qv q.length b.2.2.length).bind fun _=>some (.inl (a.1,b.1,d.1,decide ((w64 (a.2.1 - b.1)) ≥ (w64 (Int.tdiv (w64 (a.2.1 - a.1)) 8))),b.2.1,q)))) | .inr y=>some (.inr y))))
noncomputable def q5v (rec : List qf→Int→Int→Int→Option (List qf)) (a : qf→qf→Option Int) (b : List qf) (c : Int) (d : Int) (f : Int) : Option (List qf):=
  (loop (q5u a rec) (c,d,f,true,true,b)).bind fun g=>some g
noncomputable def q5t : Nat→(qf→qf→Option Int)→List qf→Int→Int→Int→Option (List qf)
  | 0,_,_,_,_,_=>none
  | n + 1,a,b,c,d,f=>q5v (q5t n a) a b c d f
noncomputable def q5f (c : qf→qf→Option Int) (a : List qf) : Option (List qf):=
  (Jl (IntKind.wrap .u64 (a.length : Int))).bind fun d=>(lim (fun n=>q5t n c a 0 (a.length : Int) d)).bind fun b=>(Qv b.length a.length).bind fun _=>some b
noncomputable def q2w (c : qh) (b : Int × List qh) (d : (List (qf × Bool))) (a : Int × List qh) : Option (((List (qf × Bool))) ⊕ (Empty)):=
  (cond (decide (a.1 > c.Lo)) (some (decide (a.1 < c.Hi))) (some false)).bind fun f=>(cond f ((q13 a.2 b.1).bind fun g=>(cond g (some true) ((q13 a.2 (w64 (b.1 - 1))).bind fun h=>some h)).bind fun j=>some j) (some false)).bind fun k=>cond k (some (.inl (Kl ({X:=a.1,Y:=b.1} : qf) true d))) (some (.inl d))
noncomputable def q2v (a : Int × List qh) (b : Y8) (c : Int × (List (qf × Bool))) : Option ((Int × (List (qf × Bool))) ⊕ (((List (qf × Bool))) ⊕ (List qf × Bool))):=
  cond (decide (c.1 < (a.2.length : Int))) ((idx a.2 c.1).bind fun d=>(q2u ({X:=d.Lo,Y:=a.1} : qf) b.rows_ b.columns_ c.2).bind fun h=>(q2u ({X:=d.Hi,Y:=a.1} : qf) b.rows_ b.columns_ h).bind fun f=>(U6 (fun (x y : (List (qf × Bool)))=>List.Perm x y) (q2w d a) b.columns_ (f : (List (qf × Bool)))).bind fun _=>(Kk (q2w d a) b.columns_ (f : (List (qf × Bool)))).bind fun j=>(match j with | .inl g=>cond (decide ((g.length : Int) > 400)) (some (.inr (.inr ([],false)))) (some (.inl (w64 (c.1 + 1),g))) | .inr k=>k.elim)) (some (.inr (.inl c.2)))
noncomputable def Ua (a : Y8) (b : (List (qf × Bool))) (c : Int × List qh) : Option (((List (qf × Bool))) ⊕ (List qf × Bool)):=
  (loop (q2v c a) (0,b) : Option (((List (qf × Bool))) ⊕ (List qf × Bool))).bind fun d=>(match d with | .inl f=>some (.inl f) | .inr g=>some (.inr g))
noncomputable def q4a (b : Int × List qh) (c : Y8) (a : Int × (List (qf × Bool))) : Option ((Int × (List (qf × Bool))) ⊕ ((List (qf × Bool)))):=
  cond (decide (a.1 < (b.2.length : Int))) ((idx b.2 a.1).bind fun d=>(q2u ({X:=b.1,Y:=d.Lo} : qf) c.rows_ c.columns_ a.2).bind fun f=>(q2u ({X:=b.1,Y:=d.Hi} : qf) c.rows_ c.columns_ f).bind fun g=>some (.inl (w64 (a.1 + 1),g))) (some (.inr a.2))
noncomputable def q2x (a : Y8) (b : (List (qf × Bool))) (c : Int × List qh) : Option (((List (qf × Bool))) ⊕ (Empty)):=
  (loop (q4a c a) (0,b)).bind fun d=>some (.inl d)
noncomputable def q1z (a : List qf) (b : qf × Bool) : Option ((List qf) ⊕ Empty):=
  (app 16 a [b.1]).bind fun c=>some (.inl c)
noncomputable def q2y (a : List qf) : Option (List qf × Bool):=
  (q5f (fun c d=>q15 c d) a).bind fun b=>(Qv b.length a.length).bind fun _=>some (b,decide ((a.length : Int)≤400))
noncomputable def q67 (a : Y8) : Option (List qf × Bool):=
  (U6 (fun (x y : (List (qf × Bool)))=>List.Perm x y) (Ua a) a.rows_ (([] : List (qf × Bool)) : (List (qf × Bool)))).bind fun _=>(Kk (Ua a) a.rows_ (([] : List (qf × Bool)) : (List (qf × Bool)))).bind fun f=>(match f with | .inl c=>(U6 (fun (x y : (List (qf × Bool)))=>List.Perm x y) (q2x a) a.columns_ (c : (List (qf × Bool)))).bind fun _=>(Kk (q2x a) a.columns_ (c : (List (qf × Bool)))).bind fun g=>(match g with | .inl d=>(q3w (fun l=>(Kk (q1z) l (([] : List qf) : List qf)).bind (q68 (q2y))) d).bind fun _=>(Kk (q1z) d (([] : List qf) : List qf)).bind (q68 (q2y)) | .inr b=>b.elim) | .inr b=>some b)
def Q5 (x : qm) : List DV:=[.int .i64 x.A,.int .i64 x.B]
noncomputable def q1y (a : qm) (b : qm) : Option Int:=
  (q15 ({X:=a.A,Y:=a.B} : qf) ({X:=b.A,Y:=b.B} : qf)).bind fun c=>some c
noncomputable def q88 (c : Int) (d : qm→qm→Option Int) (a : Int × List qm) : Option ((Int × List qm) ⊕ (List qm)):=
  (cond (decide (a.1 > c)) ((idx a.2 a.1).bind fun f=>(idx a.2 (w64 (a.1 - 1))).bind fun g=>(d f g).bind fun h=>some (decide (h < 0))) (some false)).bind fun j=>cond j ((idx a.2 (w64 (a.1 - 1))).bind fun b=>(idx a.2 a.1).bind fun k=>(idx a.2 a.1).bind fun _=>(idx (a.2.set a.1.toNat b) (w64 (a.1 - 1))).bind fun _=>some (.inl (w64 (a.1 - 1),(a.2.set a.1.toNat b).set (w64 (a.1 - 1)).toNat k))) (some (.inr a.2))
noncomputable def q87 (b : Int) (c : Int) (d : qm→qm→Option Int) (a : Int × List qm) : Option ((Int × List qm) ⊕ (List qm)):=
  cond (decide (a.1 < b)) (((loop (q88 c d) (a.1,a.2)).bind fun f=>some f).bind fun g=>some (.inl (w64 (a.1 + 1),g))) (some (.inr a.2))
noncomputable def q86 (b : qm→qm→Option Int) (c : List qm) (a : Int) (d : Int) : Option (List qm):=
  (loop (q87 d a b) (w64 (a + 1),c)).bind fun f=>some f
noncomputable def q9o (d : Int) (b : Int) (f : qm→qm→Option Int) (a : Int × List qm) : Option ((Int × List qm) ⊕ (List qm)):=
  cond (decide ((w64 ((w64 (2 * a.1)) + 1)) ≥ d)) (some (.inr a.2)) ((cond (decide ((w64 ((w64 ((w64 (2 * a.1)) + 1)) + 1)) < d)) ((idx a.2 (w64 (b + (w64 ((w64 (2 * a.1)) + 1))))).bind fun h=>(idx a.2 (w64 ((w64 (b + (w64 ((w64 (2 * a.1)) + 1)))) + 1))).bind fun j=>(f h j).bind fun k=>some (decide (k < 0))) (some false)).bind fun l=>(cond l (some (w64 ((w64 ((w64 (2 * a.1)) + 1)) + 1))) (some (w64 ((w64 (2 * a.1)) + 1)))).bind fun c=>(idx a.2 (w64 (b + a.1))).bind fun m=>(idx a.2 (w64 (b + c))).bind fun n=>(f m n).bind fun o=>cond (!(decide (o < 0))) (some (.inr a.2)) ((idx a.2 (w64 (b + c))).bind fun g=>(idx a.2 (w64 (b + a.1))).bind fun p=>(idx a.2 (w64 (b + a.1))).bind fun _=>(idx (a.2.set (w64 (b + a.1)).toNat g) (w64 (b + c))).bind fun _=>some (.inl (c,(a.2.set (w64 (b + a.1)).toNat g).set (w64 (b + c)).toNat p))))
noncomputable def q5z (a : qm→qm→Option Int) (b : List qm) (c : Int) (d : Int) (f : Int) : Option (List qm):=
  (loop (q9o d f a) (c,b)).bind fun g=>some g
noncomputable def q7y (d : qm→qm→Option Int) (f : Int) (b : Int) (a : Int × List qm) : Option ((Int × List qm) ⊕ (List qm)):=
  cond (decide (a.1 ≥ 0)) ((q5z d a.2 a.1 (w64 (f - b)) b).bind fun c=>(Qv c.length a.2.length).bind fun _=>some (.inl (w64 (a.1 - 1),c))) (some (.inr a.2))
noncomputable def q7z (b : Int) (g : qm→qm→Option Int) (a : Int × List qm) : Option ((Int × List qm) ⊕ (List qm)):=
  cond (decide (a.1 ≥ 0)) ((idx a.2 (w64 (b + a.1))).bind fun c=>(idx a.2 b).bind fun d=>(idx a.2 b).bind fun _=>(idx (a.2.set b.toNat c) (w64 (b + a.1))).bind fun _=>(q5z g ((a.2.set b.toNat c).set (w64 (b + a.1)).toNat d) 0 a.1 b).bind fun f=>(Qv f.length ((a.2.set b.toNat c).set (w64 (b + a.1)).toNat d).length).bind fun _=>some (.inl (w64 (a.1 - 1),f))) (some (.inr a.2))
noncomputable def q7x (c : qm→qm→Option Int) (d : List qm) (a : Int) (b : Int) : Option (List qm):=
  (loop (q7y c b a) (w64 (Int.tdiv (w64 ((w64 (b - a)) - 1)) 2),d)).bind fun f=>(loop (q7z a c) (w64 ((w64 (b - a)) - 1),f)).bind fun g=>some g
noncomputable def q41 (f : qm→qm→Option Int) (c : List qm) (a : Int) (b : Int) (d : Int) : Option (Int × Int × Int):=
  (idx c b).bind fun g=>(idx c a).bind fun h=>(f g h).bind fun j=>cond (decide (j < 0)) (some (b,a,w64 (d + 1))) (some (a,b,d))
noncomputable def q5h (a : qm→qm→Option Int) (b : List qm) (g : Int) (h : Int) (j : Int) (k : Int) : Option (Int × Int):=
  (q41 a b g h k).bind fun c=>(q41 a b c.2.1 j c.2.2).bind fun d=>(q41 a b c.1 d.1 d.2.2).bind fun f=>some (f.2.1,f.2.2)
noncomputable def q3y (c : qm→qm→Option Int) (d : List qm) (a : Int) (f : Int) : Option (Int × Int):=
  (q5h c d (w64 (a - 1)) a (w64 (a + 1)) f).bind fun b=>some (b.1,b.2)
noncomputable def q7u (d : List qm) (a : Int) (b : Int) (f : qm→qm→Option Int) : Option (Int × Int):=
  (cond (decide ((w64 (b - a)) ≥ 8)) ((cond (decide ((w64 (b - a)) ≥ 50)) ((q3y f d (w64 (a + (w64 ((w64 (Int.tdiv (w64 (b - a)) 4)) * 1)))) 0).bind fun h=>(q3y f d (w64 (a + (w64 ((w64 (Int.tdiv (w64 (b - a)) 4)) * 2)))) h.2).bind fun j=>(q3y f d (w64 (a + (w64 ((w64 (Int.tdiv (w64 (b - a)) 4)) * 3)))) j.2).bind fun k=>some (h.1,j.1,k.1,k.2)) (some (w64 (a + (w64 ((w64 (Int.tdiv (w64 (b - a)) 4)) * 1))),w64 (a + (w64 ((w64 (Int.tdiv (w64 (b - a)) 4)) * 2))),w64 (a + (w64 ((w64 (Int.tdiv (w64 (b - a)) 4)) * 3))),0))).bind fun g=>(q5h f d g.1 g.2.1 g.2.2.1 g.2.2.2).bind fun l=>some (l.1,l.2)) (some (w64 (a + (w64 ((w64 (Int.tdiv (w64 (b - a)) 4)) * 2))),0))).bind fun c=>cond (c.2 == 0) (some (c.1,1)) (cond (c.2 == 12) (some (c.1,2)) (some (c.1,0)))
noncomputable def q9j (a : Int × Int × List qm) : Option ((Int × Int × List qm) ⊕ (List qm)):=
  cond (decide (a.1 < a.2.1)) ((idx a.2.2 a.2.1).bind fun b=>(idx a.2.2 a.1).bind fun c=>(idx a.2.2 a.1).bind fun _=>(idx (a.2.2.set a.1.toNat b) a.2.1).bind fun _=>some (.inl (w64 (a.1 + 1),w64 (a.2.1 - 1),(a.2.2.set a.1.toNat b).set a.2.1.toNat c))) (some (.inr a.2.2))
noncomputable def q9i (f : qm→qm→Option Int) (a : List qm) (b : Int) (c : Int) : Option (List qm):=
  (loop q9j (b,w64 (c - 1),a)).bind fun d=>some d
noncomputable def q8f (c : Int) (b : Int × Int × List qm) (d : qm→qm→Option Int) (a : Int) : Option ((Int) ⊕ (Int)):=
  (cond (decide (a < c)) ((idx b.2.2 a).bind fun f=>(idx b.2.2 (w64 (a - 1))).bind fun g=>(d f g).bind fun h=>some (!(decide (h < 0)))) (some false)).bind fun j=>cond j (some (.inl (w64 (a + 1)))) (some (.inr a))
noncomputable def q8g (c : qm→qm→Option Int) (a : Int × List qm) : Option ((Int × List qm) ⊕ (List qm)):=
  cond (decide (a.1 ≥ 1)) ((idx a.2 a.1).bind fun d=>(idx a.2 (w64 (a.1 - 1))).bind fun f=>(c d f).bind fun g=>cond (!(decide (g < 0))) (some (.inr a.2)) ((idx a.2 (w64 (a.1 - 1))).bind fun b=>(idx a.2 a.1).bind fun h=>(idx a.2 a.1).bind fun _=>(idx (a.2.set a.1.toNat b) (w64 (a.1 - 1))).bind fun _=>some (.inl (w64 (a.1 - 1),(a.2.set a.1.toNat b).set (w64 (a.1 - 1)).toNat h)))) (some (.inr a.2))
noncomputable def q8h (d : Int) (f : qm→qm→Option Int) (b : Int) (a : Int × List qm) : Option ((Int × List qm) ⊕ (Int × List qm)):=
  cond (decide (a.1 < d)) ((idx a.2 a.1).bind fun g=>(idx a.2 (w64 (a.1 - 1))).bind fun h=>(f g h).bind fun j=>cond (!(decide (j < 0))) (some (.inr (b,a.2))) ((idx a.2 (w64 (a.1 - 1))).bind fun c=>(idx a.2 a.1).bind fun k=>(idx a.2 a.1).bind fun _=>(idx (a.2.set a.1.toNat c) (w64 (a.1 - 1))).bind fun _=>some (.inl (w64 (a.1 + 1),(a.2.set a.1.toNat c).set (w64 (a.1 - 1)).toNat k)))) (some (.inr (b,a.2)))
noncomputable def q5l (c : Int) (d : qm→qm→Option Int) (h : Int) (b : Int × Int × List qm) : Option ((Int × Int × List qm) ⊕ ((List qm) ⊕ (Bool × List qm))):=
  cond (decide (b.2.1 < 5)) (((loop (q8f c b d) b.1).bind fun a=>cond (a == c) (some (.inr (true,b.2.2))) (cond (decide ((w64 (c - h)) < 50)) (some (.inr (false,b.2.2))) ((idx b.2.2 (w64 (a - 1))).bind fun f=>(idx b.2.2 a).bind fun j=>(idx b.2.2 a).bind fun _=>(idx (b.2.2.set a.toNat f) (w64 (a - 1))).bind fun _=>(cond (decide ((w64 (a - h)) ≥ 2)) ((loop (q8g d) (w64 (a - 1),(b.2.2.set a.toNat f).set (w64 (a - 1)).toNat j)).bind fun g=>some g) (some ((b.2.2.set a.toNat f).set (w64 (a - 1)).toNat j))).bind fun k=>cond (decide ((w64 (c - a)) ≥ 2)) ((loop (q8h c d a) (w64 (a + 1),k)).bind fun g=>some (.inl g)) (some (.inl (a,k))))) : Option ((Int × List qm) ⊕ (Bool × List qm))).bind fun m=>(match m with | .inl l=>some (.inl (l.1,w64 (b.2.1 + 1),l.2)) | .inr n=>some (.inr (.inr n)))) (some (.inr (.inl b.2.2)))
noncomputable def q5k (b : qm→qm→Option Int) (c : List qm) (a : Int) (d : Int) : Option (Bool × List qm):=
  (loop (q5l d b a) (w64 (a + 1),0,c) : Option ((List qm) ⊕ (Bool × List qm))).bind fun f=>(match f with | .inl g=>some (false,g) | .inr h=>some h)
noncomputable def q98 (b : Int × Int × List qm) (c : Int) (d : qm→qm→Option Int) (a : Int) : Option ((Int) ⊕ (Int)):=
  (cond (decide (a≤b.2.1)) ((idx b.2.2 c).bind fun f=>(idx b.2.2 a).bind fun g=>(d f g).bind fun h=>some (!(decide (h < 0)))) (some false)).bind fun j=>cond j (some (.inl (w64 (a + 1)))) (some (.inr a))
noncomputable def q99 (c : Int) (b : Int × Int × List qm) (d : Int) (f : qm→qm→Option Int) (a : Int) : Option ((Int) ⊕ (Int)):=
  (cond (decide (c≤a)) ((idx b.2.2 d).bind fun g=>(idx b.2.2 a).bind fun h=>(f g h).bind fun j=>some (decide (j < 0))) (some false)).bind fun k=>cond k (some (.inl (w64 (a - 1)))) (some (.inr a))
noncomputable def q97 (d : Int) (f : qm→qm→Option Int) (a : Int × Int × List qm) : Option ((Int × Int × List qm) ⊕ (Int × List qm)):=
  (loop (q98 a d f) a.1).bind fun b=>(loop (q99 b a d f) a.2.1).bind fun c=>cond (decide (b > c)) (some (.inr (b,a.2.2))) ((idx a.2.2 c).bind fun g=>(idx a.2.2 b).bind fun h=>(idx a.2.2 b).bind fun _=>(idx (a.2.2.set b.toNat g) c).bind fun _=>some (.inl (w64 (b + 1),w64 (c - 1),(a.2.2.set b.toNat g).set c.toNat h)))
noncomputable def q96 (g : qm→qm→Option Int) (b : List qm) (a : Int) (h : Int) (c : Int) : Option (Int × List qm):=
  (idx b c).bind fun d=>(idx b a).bind fun j=>(idx b a).bind fun _=>(idx (b.set a.toNat d) c).bind fun _=>(loop (q97 a g) (w64 (a + 1),w64 (h - 1),(b.set a.toNat d).set c.toNat j)).bind fun f=>some (f.1,f.2)
noncomputable def q8p (h : Int) (c : List qm) (b : Int) (d : qm) (f : Int) (g : qm) (j : qm→qm→Option Int) (a : Int) : Option ((Int) ⊕ (Int)):=
  (cond (decide (a≤(w64 (h - 1)))) ((idx ((c.set b.toNat d).set f.toNat g) a).bind fun k=>(idx ((c.set b.toNat d).set f.toNat g) b).bind fun l=>(j k l).bind fun m=>some (decide (m < 0))) (some false)).bind fun n=>cond n (some (.inl (w64 (a + 1)))) (some (.inr a))
noncomputable def q8q (h : Int) (c : List qm) (b : Int) (d : qm) (f : Int) (g : qm) (j : qm→qm→Option Int) (a : Int) : Option ((Int) ⊕ (Int)):=
  (cond (decide (h≤a)) ((idx ((c.set b.toNat d).set f.toNat g) a).bind fun k=>(idx ((c.set b.toNat d).set f.toNat g) b).bind fun l=>(j k l).bind fun m=>some (!(decide (m < 0)))) (some false)).bind fun n=>cond n (some (.inl (w64 (a - 1)))) (some (.inr a))
noncomputable def q8s (b : Int × Int × List qm) (c : Int) (d : qm→qm→Option Int) (a : Int) : Option ((Int) ⊕ (Int)):=
  (cond (decide (a≤b.2.1)) ((idx b.2.2 a).bind fun f=>(idx b.2.2 c).bind fun g=>(d f g).bind fun h=>some (decide (h < 0))) (some false)).bind fun j=>cond j (some (.inl (w64 (a + 1)))) (some (.inr a))
noncomputable def q8t (c : Int) (b : Int × Int × List qm) (d : Int) (f : qm→qm→Option Int) (a : Int) : Option ((Int) ⊕ (Int)):=
  (cond (decide (c≤a)) ((idx b.2.2 a).bind fun g=>(idx b.2.2 d).bind fun h=>(f g h).bind fun j=>some (!(decide (j < 0)))) (some false)).bind fun k=>cond k (some (.inl (w64 (a - 1)))) (some (.inr a))
noncomputable def q8r (d : Int) (f : qm→qm→Option Int) (a : Int × Int × List qm) : Option ((Int × Int × List qm) ⊕ (Int × List qm)):=
  (loop (q8s a d f) a.1).bind fun b=>(loop (q8t b a d f) a.2.1).bind fun c=>cond (decide (b > c)) (some (.inr (c,a.2.2))) ((idx a.2.2 c).bind fun g=>(idx a.2.2 b).bind fun h=>(idx a.2.2 b).bind fun _=>(idx (a.2.2.set b.toNat g) c).bind fun _=>some (.inl (w64 (b + 1),w64 (c - 1),(a.2.2.set b.toNat g).set c.toNat h)))
noncomputable def q8o (k : qm→qm→Option Int) (b : List qm) (a : Int) (l : Int) (c : Int) : Option (Int × Bool × List qm):=
  (idx b c).bind fun d=>(idx b a).bind fun f=>(idx b a).bind fun _=>(idx (b.set a.toNat d) c).bind fun _=>(loop (q8p l b a d c f k) (w64 (a + 1))).bind fun j=>(loop (q8q j b a d c f k) (w64 (l - 1))).bind fun g=>cond (decide (j > g)) ((idx ((b.set a.toNat d).set c.toNat f) a).bind fun m=>(idx ((b.set a.toNat d).set c.toNat f) g).bind fun p=>(idx ((b.set a.toNat d).set c.toNat f) g).bind fun _=>(idx (((b.set a.toNat d).set c.toNat f).set g.toNat m) a).bind fun _=>some (g,true,(((b.set a.toNat d).set c.toNat f).set g.toNat m).set a.toNat p)) ((idx ((b.set a.toNat d).set c.toNat f) g).bind fun n=>(idx ((b.set a.toNat d).set c.toNat f) j).bind fun q=>(idx ((b.set a.toNat d).set c.toNat f) j).bind fun _=>(idx (((b.set a.toNat d).set c.toNat f).set j.toNat n) g).bind fun _=>(loop (q8r a k) (w64 (j + 1),w64 (g - 1),(((b.set a.toNat d).set c.toNat f).set j.toNat n).set g.toNat q)).bind fun h=>(idx h.2 a).bind fun o=>(idx h.2 h.1).bind fun r=>(idx h.2 h.1).bind fun _=>(idx (h.2.set h.1.toNat o) a).bind fun _=>some (h.1,false,(h.2.set h.1.toNat o).set a.toNat r))
noncomputable def q7p (b : Int) (d : Int) (f : Int) (a : Int × List qm × Int) : Option ((Int × List qm × Int) ⊕ (List qm)):=
  cond (decide (a.1≤(w64 ((w64 (b + (w64 ((w64 (Int.tdiv (w64 (d - b)) 4)) * 2)))) + 1)))) ((U9 a.2.2).bind fun c=>(cond (decide ((w64 (andI .u64 c (IntKind.wrap .u64 (f - 1)))) ≥ (w64 (d - b)))) (some (w64 ((w64 (andI .u64 c (IntKind.wrap .u64 (f - 1)))) - (w64 (d - b))))) (some (w64 (andI .u64 c (IntKind.wrap .u64 (f - 1)))))).bind fun g=>(idx a.2.1 (w64 (b + g))).bind fun h=>(idx a.2.1 a.1).bind fun j=>(idx a.2.1 a.1).bind fun _=>(idx (a.2.1.set a.1.toNat h) (w64 (b + g))).bind fun _=>some (.inl (w64 (a.1 + 1),(a.2.1.set a.1.toNat h).set (w64 (b + g)).toNat j,c))) (some (.inr a.2.1))
noncomputable def q7o (g : qm→qm→Option Int) (c : List qm) (a : Int) (b : Int) : Option (List qm):=
  cond (decide ((w64 (b - a)) ≥ 8)) ((U8 (w64 (b - a))).bind fun d=>(loop (q7p a b d) (w64 ((w64 (a + (w64 ((w64 (Int.tdiv (w64 (b - a)) 4)) * 2)))) - 1),c,IntKind.wrap .u64 (w64 (b - a)))).bind fun f=>some f) (some c)
noncomputable def q5r (c : qm→qm→Option Int) (rec : List qm→Int→Int→Int→Option (List qm)) (a : Int × Int × Int × Bool × Bool × List qm) : Option ((Int × Int × Int × Bool × Bool × List qm) ⊕ (List qm)):=
  cond (decide ((w64 (a.2.1 - a.1))≤12)) ((q86 c a.2.2.2.2.2 a.1 a.2.1).bind fun l=>(Qv l.length a.2.2.2.2.2.length).bind fun _=>some (.inr l)) (cond (a.2.2.1 == 0) ((q7x c a.2.2.2.2.2 a.1 a.2.1).bind fun m=>(Qv m.length a.2.2.2.2.2.length).bind fun _=>some (.inr m)) ((cond (!a.2.2.2.1) ((q7o c a.2.2.2.2.2 a.1 a.2.1).bind fun n=>(Qv n.length a.2.2.2.2.2.length).bind fun _=>some (w64 (a.2.2.1 - 1),n)) (some (a.2.2.1,a.2.2.2.2.2))).bind fun d=>(q7u d.2 a.1 a.2.1 c).bind fun h=>(cond (h.2 == 2) ((q9i c d.2 a.1 a.2.1).bind fun o=>(Qv o.length d.2.length).bind fun _=>some (w64 ((w64 (a.2.1 - 1)) - (w64 (h.1 - a.1))),1,o)) (some (h.1,h.2,d.2))).bind fun f=>(cond a.2.2.2.1 (some a.2.2.2.2.1) (some false)).bind fun r=>(cond r (some (f.2.1 == 1)) (some false)).bind fun s=>(cond s ((q5k c f.2.2 a.1 a.2.1).bind fun j=>(Qv j.2.length f.2.2.length).bind fun _=>cond j.1 (some (.inr j.2)) (some (.inl j.2))) (some (.inl f.2.2)) : Option ((List qm) ⊕ (List qm))).bind fun t=>(match t with | .inl g=>(cond (decide (a.1 > 0)) ((idx g (w64 (a.1 - 1))).bind fun u=>(idx g f.1).bind fun v=>(c u v).bind fun w=>some (!(decide (w < 0)))) (some false)).bind fun x=>cond x ((q96 c g a.1 a.2.1 f.1).bind fun k=>(Qv k.2.length g.length).bind fun _=>some (.inl (k.1,a.2.1,d.1,a.2.2.2.1,a.2.2.2.2.1,k.2))) ((q8o c g a.1 a.2.1 f.1).bind fun b=>(Qv b.2.2.length g.length).bind fun _=>cond (decide ((w64 (b.1 - a.1)) < (w64 (a.2.1 - b.1)))) ((rec b.2.2 a.1 b.1 d.1).bind fun p=>(Qv p.length b.2.2.length).bind fun _=>some (.inl (w64 (b.1 + 1),a.2.1,d.1,decide ((w64 (b.1 - a.1)) ≥ (w64 (Int.tdiv (w64 (a.2.1 - a.1)) 8))),b.2.1,p))) ((rec b.2.2 (w64 (b.1 + 1)) a.2.1 d.1).bind fun q=>(Qv q.length b.2.2.length).bind fun _=>some (.inl (a.1,b.1,d.1,decide ((w64 (a.2.1 - b.1)) ≥ (w64 (Int.tdiv (w64 (a.2.1 - a.1)) 8))),b.2.1,q)))) | .inr y=>some (.inr y))))
noncomputable def q5s (rec : List qm→Int→Int→Int→Option (List qm)) (a : qm→qm→Option Int) (b : List qm) (c : Int) (d : Int) (f : Int) : Option (List qm):=
  (loop (q5r a rec) (c,d,f,true,true,b)).bind fun g=>some g
noncomputable def q5q : Nat→(qm→qm→Option Int)→List qm→Int→Int→Int→Option (List qm)
  | 0,_,_,_,_,_=>none
  | n + 1,a,b,c,d,f=>q5s (q5q n a) a b c d f
noncomputable def q3x (c : qm→qm→Option Int) (a : List qm) : Option (List qm):=
  (Jl (IntKind.wrap .u64 (a.length : Int))).bind fun d=>(lim (fun n=>q5q n c a 0 (a.length : Int) d)).bind fun b=>(Qv b.length a.length).bind fun _=>some b
noncomputable def q2t (c : List qf × Bool) (g : Y8) (a : Int × (List (Int × Int)) × (List (Int × Int)) × List qm) : Option ((Int × (List (Int × Int)) × (List (Int × Int)) × List qm) ⊕ (List qm)):=
  cond (decide (a.1 < (c.1.length : Int))) ((idx c.1 a.1).bind fun b=>(q66 g b).bind fun d=>(cond d.2.2.1 ((app 16 a.2.2.2 [({A:=K5 0 b.Y a.2.1,B:=a.1} : qm)]).bind fun h=>some h) (some a.2.2.2)).bind fun f=>(cond d.2.2.2 ((app 16 f [({A:=K5 0 b.X a.2.2.1,B:=a.1} : qm)]).bind fun j=>some j) (some f)).bind fun k=>some (.inl (w64 (a.1 + 1),Kl b.Y a.1 a.2.1,Kl b.X a.1 a.2.2.1,k))) (some (.inr a.2.2.2))
noncomputable def q49 (f : List Qw) : Option (Ku × Bool):=
  (qa1 f).bind fun c=>(q67 c).bind fun a=>cond (!a.2) (some (({Nodes:=[],Edges:=[]} : Ku),false)) ((loop (q2t a c) (0,[],[],[])).bind fun b=>(q3x (fun g h=>q1y g h) b).bind fun d=>(Qv d.length b.length).bind fun _=>some (({Nodes:=a.1,Edges:=d} : Ku),decide ((b.length : Int)≤800)))
noncomputable def q64 (b : List Qw) (a : Int) : Option ((Int) ⊕ ((Unit) ⊕ (Ku × Int))):=
  cond (decide (a < (b.length : Int))) ((idx b a).bind fun c=>(qa3 c).bind fun d=>cond (!d) (some (.inr (.inr (({Nodes:=[],Edges:=[]} : Ku),8)))) (some (.inl (w64 (a + 1))))) (some (.inr (.inl ())))
noncomputable def q1x (a : List Qw) : Option (Ku × Int):=
  cond (decide ((a.length : Int) > 400)) (some (({Nodes:=[],Edges:=[]} : Ku),4)) ((loop (q64 a) 0 : Option ((Unit) ⊕ (Ku × Int))).bind fun c=>(match c with | .inl _=>(q49 a).bind fun b=>cond (!b.2) (some (({Nodes:=[],Edges:=[]} : Ku),4)) (some (b.1,0)) | .inr d=>some d))
noncomputable def q53 (a : qf) : Option Bool:=
  (cond (decide (a.X ≥ (-1000000))) (some (decide (a.X≤1000000))) (some false)).bind fun b=>(cond b (some (decide (a.Y ≥ (-1000000)))) (some false)).bind fun c=>(cond c (some (decide (a.Y≤1000000))) (some false)).bind fun d=>some d
noncomputable def q7k (a : Qw) : Option Bool:=
  (cond (!((a.A.X == a.B.X) && ((a.A.Y == a.B.Y) && true))) ((cond (a.A.X == a.B.X) (some true) (some (a.A.Y == a.B.Y))).bind fun b=>some b) (some false)).bind fun c=>(cond c ((q53 a.A).bind fun d=>some d) (some false)).bind fun f=>(cond f ((q53 a.B).bind fun g=>some g) (some false)).bind fun h=>some h
structure K2 where
  At : Int
  Spans : List qh
  deriving DecidableEq
noncomputable def q3j (b : Int × List Int) (c : List Int) (a : Int) : Option ((Int) ⊕ (Int)):=
  (cond (decide (a > 0)) ((idx b.2 (w64 (a - 1))).bind fun d=>(idx c b.1).bind fun f=>some (decide (d > f))) (some false)).bind fun g=>cond g (some (.inl (w64 (a - 1)))) (some (.inr a))
noncomputable def q3i (d : List Int) (a : Int × List Int) : Option ((Int × List Int) ⊕ (List Int)):=
  cond (decide (a.1 < (d.length : Int))) (((loop (q3j a d) (a.2.length : Int)).bind fun c=>(cond (decide (c > 0)) ((idx a.2 (w64 (c - 1))).bind fun h=>(idx d a.1).bind fun j=>some (h == j)) (some false)).bind fun k=>cond k (some a.2) ((app 8 a.2 [0]).bind fun b=>(sub2 b.length (w64 (c + 1)) b.length).bind fun g=>(sub2 b.length c b.length).bind fun f=>(idx d a.1).bind fun l=>(idx (cpyw b g ((b.drop f.1).take f.2)) c).bind fun _=>some ((cpyw b g ((b.drop f.1).take f.2)).set c.toNat l))).bind fun m=>some (.inl (w64 (a.1 + 1),m))) (some (.inr a.2))
noncomputable def q52 (a : List Int) : Option (List Int):=
  (loop (q3i a) (0,[])).bind fun b=>some b
noncomputable def q2o (b : Int × List qh) (a : Int × Int × Int × List qh) : Option ((Int × Int × Int × List qh) ⊕ (Int × Int × List qh)):=
  cond (decide (a.1 < (b.2.length : Int))) (((idx b.2 a.1).bind fun d=>(cond (decide (d.Hi < a.2.1)) (some true) ((idx b.2 a.1).bind fun f=>some (decide (a.2.2.1 < f.Lo)))).bind fun g=>cond g ((idx b.2 a.1).bind fun h=>(app 16 a.2.2.2 [h]).bind fun j=>some (a.2.1,a.2.2.1,j)) ((idx b.2 a.1).bind fun k=>(idx b.2 a.1).bind fun l=>some (min a.2.1 k.Lo,max a.2.2.1 l.Hi,a.2.2.2))).bind fun c=>some (.inl (w64 (a.1 + 1),c.1,c.2.1,c.2.2))) (some (.inr (a.2.1,a.2.2.1,a.2.2.2)))
noncomputable def q2p (b : Int × Int × List qh) (a : Int) : Option ((Int) ⊕ (Int)):=
  (cond (decide (a < (b.2.2.length : Int))) ((idx b.2.2 a).bind fun c=>some (decide (c.Lo < b.1))) (some false)).bind fun d=>cond d (some (.inl (w64 (a + 1)))) (some (.inr a))
noncomputable def q3v (c : List qh) (b : Int × List qh) : Option ((Int × List qh) ⊕ (List qh)):=
  cond (decide (b.1 < (c.length : Int))) ((idx c b.1).bind fun d=>(loop (q2o b) (0,d.Lo,d.Hi,[])).bind fun a=>(loop (q2p a) 0).bind fun f=>(sub2 a.2.2.length 0 f).bind fun g=>(app 16 [] ((a.2.2.drop g.1).take g.2)).bind fun j=>(app 16 j [({Lo:=a.1,Hi:=a.2.1} : qh)]).bind fun k=>(sub2 a.2.2.length f a.2.2.length).bind fun h=>(app 16 k ((a.2.2.drop h.1).take h.2)).bind fun l=>some (.inl (w64 (b.1 + 1),l))) (some (.inr b.2))
noncomputable def q3u (a : List qh) : Option (List qh):=
  (loop (q3v a) (0,[])).bind fun b=>some b
def Qr (x : K2) : List DV:=[.int .i64 x.At,.sl 2 (x.Spans.map qx)]
noncomputable def q3n (b : List Qw) (c : Bool) (a : Int × List Int) : Option ((Int × List Int) ⊕ (List Int)):=
  cond (decide (a.1 < (b.length : Int))) (((idx b a.1).bind fun d=>(idx b a.1).bind fun f=>cond ((d.A.Y == f.B.Y) == c) (cond c ((idx b a.1).bind fun g=>(app 8 a.2 [g.A.Y]).bind fun h=>some h) ((idx b a.1).bind fun j=>(app 8 a.2 [j.A.X]).bind fun k=>some k)) (some a.2)).bind fun l=>some (.inl (w64 (a.1 + 1),l))) (some (.inr a.2))
noncomputable def q3p (b : List Qw) (f : Bool) (c : List Int) (d : Int × List K2) (a : Int × List qh) : Option ((Int × List qh) ⊕ (List qh)):=
  cond (decide (a.1 < (b.length : Int))) (((cond f ((idx b a.1).bind fun g=>(idx c d.1).bind fun h=>some (g.A.Y == h)) (some false)).bind fun j=>(cond j ((idx b a.1).bind fun k=>(idx c d.1).bind fun l=>some (k.B.Y == l)) (some false)).bind fun m=>cond m ((idx b a.1).bind fun n=>(idx b a.1).bind fun o=>(idx b a.1).bind fun p=>(idx b a.1).bind fun q=>(app 16 a.2 [({Lo:=min n.A.X o.B.X,Hi:=max p.A.X q.B.X} : qh)]).bind fun r=>some r) ((cond (!f) ((idx b a.1).bind fun s=>(idx c d.1).bind fun t=>some (s.A.X == t)) (some false)).bind fun u=>(cond u ((idx b a.1).bind fun v=>(idx c d.1).bind fun w=>some (v.B.X == w)) (some false)).bind fun x=>cond x ((idx b a.1).bind fun y=>(idx b a.1).bind fun z=>(idx b a.1).bind fun aa=>(idx b a.1).bind fun ab=>(app 16 a.2 [({Lo:=min y.A.Y z.B.Y,Hi:=max aa.A.Y ab.B.Y} : qh)]).bind fun ac=>some ac) (some a.2))).bind fun ad=>some (.inl (w64 (a.1 + 1),ad))) (some (.inr a.2))
noncomputable def q3o (b : List Int) (c : List Qw) (d : Bool) (a : Int × List K2) : Option ((Int × List K2) ⊕ (List K2)):=
  cond (decide (a.1 < (b.length : Int))) (((cond (decide (a.1 > 0)) ((idx b a.1).bind fun f=>(idx b (w64 (a.1 - 1))).bind fun g=>some (f == g)) (some false)).bind fun h=>cond h (some a.2) ((loop (q3p c d b a) (0,[])).bind fun j=>(q3u j).bind fun k=>(idx b a.1).bind fun l=>(app 32 a.2 [({At:=l,Spans:=k} : K2)]).bind fun m=>some m)).bind fun n=>some (.inl (w64 (a.1 + 1),n))) (some (.inr a.2))
noncomputable def q59 (a : List Qw) (b : Bool) : Option (List K2):=
  (loop (q3n a b) (0,[])).bind fun c=>(q52 c).bind fun d=>(loop (q3o d a b) (0,[])).bind fun f=>some f
noncomputable def q2j (b : List K2) (c : Int) (d : Int) (a : Int) : Option ((Int) ⊕ ((Unit) ⊕ (Bool))):=
  (idx b c).bind fun f=>cond (decide (a < (f.Spans.length : Int))) ((idx b c).bind fun g=>(idx g.Spans a).bind fun h=>(cond (decide (h.Lo≤d)) ((idx b c).bind fun j=>(idx j.Spans a).bind fun k=>some (decide (d < k.Hi))) (some false)).bind fun l=>cond l (some (.inr (.inr true))) (some (.inl (w64 (a + 1))))) (some (.inr (.inl ())))
noncomputable def q2i (b : List K2) (d : Int) (f : Int) (a : Int) : Option ((Int) ⊕ ((Unit) ⊕ (Bool))):=
  cond (decide (a < (b.length : Int))) (((idx b a).bind fun g=>cond (g.At != d) (some (.inl ())) ((loop (q2j b a f) 0 : Option ((Unit) ⊕ (Bool))).bind fun h=>(match h with | .inl j=>some (.inl j) | .inr c=>some (.inr c))) : Option ((Unit) ⊕ (Bool))).bind fun k=>(match k with | .inl _=>some (.inl (w64 (a + 1))) | .inr c=>some (.inr (.inr c)))) (some (.inr (.inl ())))
noncomputable def q2h (a : List K2) (b : Int) (c : Int) : Option Bool:=
  (loop (q2i a b c) 0 : Option ((Unit) ⊕ (Bool))).bind fun d=>(match d with | .inl _=>some false | .inr f=>some f)
noncomputable def q54 (b : List K2) (c : List K2) (a : qf) : Option (Bool × Bool × Bool × Bool):=
  (q2h b a.Y a.X).bind fun d=>(q2h c a.X a.Y).bind fun f=>(q2h b a.Y (w64 (a.X - 1))).bind fun g=>(q2h c a.X (w64 (a.Y - 1))).bind fun h=>some (d,f,g,h)
noncomputable def q1r (b : List K2) (c : List K2) (d : qf) : Option Bool:=
  (q54 b c d).bind fun a=>(cond ((a.1 == true) && ((a.2.1 == false) && ((a.2.2.1 == true) && ((a.2.2.2 == false) && true)))) (some true) (some ((a.1 == false) && ((a.2.1 == true) && ((a.2.2.1 == false) && ((a.2.2.2 == true) && true)))))).bind fun f=>(cond (!f) ((cond a.1 (some true) (some a.2.1)).bind fun g=>(cond g (some true) (some a.2.2.1)).bind fun h=>(cond h (some true) (some a.2.2.2)).bind fun j=>some j) (some false)).bind fun k=>some k
noncomputable def q55 (a : qf) (b : qf) : Option Bool:=
  (cond (decide (a.X < b.X)) (some true) ((cond (a.X == b.X) (some (decide (a.Y < b.Y))) (some false)).bind fun c=>some c)).bind fun d=>some d
noncomputable def q2n (b : List qf) (c : qf) (a : Int) : Option ((Int) ⊕ (Int)):=
  (cond (decide (a < (b.length : Int))) ((idx b a).bind fun d=>(q55 d ({X:=(c).X,Y:=(c).Y} : qf)).bind fun f=>some f) (some false)).bind fun g=>cond g (some (.inl (w64 (a + 1)))) (some (.inr a))
noncomputable def q2m (c : List qf) (d : qf) : Option (List qf):=
  (loop (q2n c d) 0).bind fun b=>(cond (decide (b < (c.length : Int))) ((idx c b).bind fun g=>some ((g.X == ((d).X)) && ((g.Y == ((d).Y)) && true))) (some false)).bind fun j=>cond j (some c) ((app 16 c [({X:=0,Y:=0} : qf)]).bind fun a=>(sub2 a.length (w64 (b + 1)) a.length).bind fun h=>(sub2 a.length b a.length).bind fun f=>(idx (cpyw a h ((a.drop f.1).take f.2)) b).bind fun _=>some ((cpyw a h ((a.drop f.1).take f.2)).set b.toNat ({X:=(d).X,Y:=(d).Y} : qf)))
noncomputable def q3s (b : List K2) (c : qh) (a : Int × List Int) : Option ((Int × List Int) ⊕ (List Int)):=
  cond (decide (a.1 < (b.length : Int))) (((idx b a.1).bind fun d=>(cond (decide (d.At > c.Lo)) ((idx b a.1).bind fun f=>some (decide (f.At < c.Hi))) (some false)).bind fun g=>cond g ((idx b a.1).bind fun h=>(app 8 a.2 [h.At]).bind fun j=>some j) (some a.2)).bind fun k=>some (.inl (w64 (a.1 + 1),k))) (some (.inr a.2))
noncomputable def q2k (b : List Int) (c : List K2) (g : Int × List qf) (h : List K2) (a : Int × List qf) : Option ((Int × List qf) ⊕ (List qf)):=
  (cond (decide (a.1 < (b.length : Int))) (some (decide ((a.2.length : Int)≤400))) (some false)).bind fun j=>cond j (((idx b a.1).bind fun d=>(idx c g.1).bind fun f=>(q1r c h ({X:=d,Y:=f.At} : qf)).bind fun k=>cond k ((q2m a.2 ({X:=d,Y:=f.At} : qf)).bind fun l=>some l) (some a.2)).bind fun m=>some (.inl (w64 (a.1 + 1),m))) (some (.inr a.2))
noncomputable def q3r (b : List K2) (c : Int × List qf) (f : List K2) (a : Int × List qf) : Option ((Int × List qf) ⊕ (List qf)):=
  (idx b c.1).bind fun g=>cond (decide (a.1 < (g.Spans.length : Int))) (((idx b c.1).bind fun h=>(idx h.Spans a.1).bind fun d=>(loop (q3s f d) (0,[d.Lo,d.Hi])).bind fun j=>(loop (q2k j b c f) (0,a.2)).bind fun k=>some k).bind fun l=>some (.inl (w64 (a.1 + 1),l))) (some (.inr a.2))
noncomputable def q3q (b : List K2) (c : List K2) (a : Int × List qf) : Option ((Int × List qf) ⊕ (List qf)):=
  cond (decide (a.1 < (b.length : Int))) (((loop (q3r b a c) (0,a.2)).bind fun d=>some d).bind fun f=>some (.inl (w64 (a.1 + 1),f))) (some (.inr a.2))
noncomputable def q2l (b : List K2) (c : Int × List qf) (f : List K2) (a : Int × List qf) : Option ((Int × List qf) ⊕ (List qf)):=
  (idx b c.1).bind fun k=>(cond (decide (a.1 < (k.Spans.length : Int))) (some (decide ((a.2.length : Int)≤400))) (some false)).bind fun l=>cond l (((idx b c.1).bind fun m=>(idx m.Spans a.1).bind fun d=>(idx b c.1).bind fun g=>(idx b c.1).bind fun h=>(q1r f b ({X:=g.At,Y:=d.Lo} : qf)).bind fun n=>(cond n ((q2m a.2 ({X:=g.At,Y:=d.Lo} : qf)).bind fun o=>some o) (some a.2)).bind fun j=>(q1r f b ({X:=h.At,Y:=d.Hi} : qf)).bind fun p=>cond p ((q2m j ({X:=h.At,Y:=d.Hi} : qf)).bind fun q=>some q) (some j)).bind fun r=>some (.inl (w64 (a.1 + 1),r))) (some (.inr a.2))
noncomputable def q3t (b : List K2) (c : List K2) (a : Int × List qf) : Option ((Int × List qf) ⊕ (List qf)):=
  cond (decide (a.1 < (b.length : Int))) (((loop (q2l b a c) (0,a.2)).bind fun d=>some d).bind fun f=>some (.inl (w64 (a.1 + 1),f))) (some (.inr a.2))
noncomputable def q7l (a : List K2) (b : List K2) : Option (List qf):=
  (loop (q3q a b) (0,[])).bind fun c=>(loop (q3t b a) (0,c)).bind fun d=>some d
noncomputable def q3m (b : List qf) (c : qf) (a : Int × Int × Int) : Option ((Int × Int × Int) ⊕ (Int × Int)):=
  cond (decide (a.2.2 < (b.length : Int))) (((idx b a.2.2).bind fun d=>(cond (d.X == c.X) (some (decide (a.1 < 0))) (some false)).bind fun h=>(cond h (some a.2.2) (some a.1)).bind fun f=>(cond (d.Y == c.Y) (some (decide (a.2.1 < 0))) (some false)).bind fun j=>cond j (some (f,a.2.2)) (some (f,a.2.1))).bind fun g=>some (.inl (g.1,g.2,w64 (a.2.2 + 1)))) (some (.inr (a.1,a.2.1)))
noncomputable def q3l (c : List qf) (h : List K2) (j : List K2) (a : Int × List qm) : Option ((Int × List qm) ⊕ (List qm)):=
  cond (decide (a.1 < (c.length : Int))) (((idx c a.1).bind fun d=>(q54 h j d).bind fun f=>(loop (q3m c d) ((-1),(-1),w64 (a.1 + 1))).bind fun b=>(cond f.2.1 (some (decide (b.1 ≥ 0))) (some false)).bind fun k=>(cond k ((app 16 a.2 [({A:=a.1,B:=b.1} : qm)]).bind fun l=>some l) (some a.2)).bind fun g=>(cond f.1 (some (decide (b.2 ≥ 0))) (some false)).bind fun m=>cond m ((app 16 g [({A:=a.1,B:=b.2} : qm)]).bind fun n=>some n) (some g)).bind fun o=>some (.inl (w64 (a.1 + 1),o))) (some (.inr a.2))
noncomputable def q3k (b : List Qw) : Option (Ku × Bool):=
  (q59 b true).bind fun c=>(q59 b false).bind fun d=>(q7l c d).bind fun a=>cond (decide ((a.length : Int) > 400)) (some (({Nodes:=[],Edges:=[]} : Ku),false)) ((loop (q3l a c d) (0,[])).bind fun f=>some (({Nodes:=a,Edges:=f} : Ku),decide ((f.length : Int)≤800)))
noncomputable def q56 (b : List Qw) (a : Int) : Option ((Int) ⊕ ((Unit) ⊕ (Ku × Int))):=
  cond (decide (a < (b.length : Int))) ((idx b a).bind fun c=>(q7k c).bind fun d=>cond (!d) (some (.inr (.inr (({Nodes:=[],Edges:=[]} : Ku),8)))) (some (.inl (w64 (a + 1))))) (some (.inr (.inl ())))
noncomputable def q1q (a : List Qw) : Option (Ku × Int):=
  cond (decide ((a.length : Int) > 400)) (some (({Nodes:=[],Edges:=[]} : Ku),4)) ((loop (q56 a) 0 : Option ((Unit) ⊕ (Ku × Int))).bind fun c=>(match c with | .inl _=>(q3k a).bind fun b=>cond (!b.2) (some (({Nodes:=[],Edges:=[]} : Ku),4)) (some (b.1,0)) | .inr d=>some d))
noncomputable def q57 (b : Ku) (f : Ku) (a : Int) : Option ((Int) ⊕ ((Unit) ⊕ (Bool))):=
  cond (decide (a < (b.Nodes.length : Int))) ((idx b.Nodes a).bind fun c=>(idx f.Nodes a).bind fun d=>cond (!((c.X == d.X) && ((c.Y == d.Y) && true))) (some (.inr (.inr false))) (some (.inl (w64 (a + 1))))) (some (.inr (.inl ())))
noncomputable def q58 (b : Ku) (f : Ku) (a : Int) : Option ((Int) ⊕ ((Unit) ⊕ (Bool))):=
  cond (decide (a < (b.Edges.length : Int))) ((idx b.Edges a).bind fun c=>(idx f.Edges a).bind fun d=>cond (!((c.A == d.A) && ((c.B == d.B) && true))) (some (.inr (.inr false))) (some (.inl (w64 (a + 1))))) (some (.inr (.inl ())))
noncomputable def q7j (a : Ku) (b : Ku) : Option Bool:=
  (cond ((a.Nodes.length : Int) != (b.Nodes.length : Int)) (some true) (some ((a.Edges.length : Int) != (b.Edges.length : Int)))).bind fun d=>cond d (some false) ((loop (q57 a b) 0 : Option ((Unit) ⊕ (Bool))).bind fun f=>(match f with | .inl _=>(loop (q58 a b) 0 : Option ((Unit) ⊕ (Bool))).bind fun g=>(match g with | .inl _=>some true | .inr c=>some c) | .inr c=>some c))
noncomputable def q3b (d : List Qw) (f : List Qw) (a : Int) : Option ((Int) ⊕ ((Unit) ⊕ (Bool))):=
  cond (decide (a < (d.length : Int))) ((idx d a).bind fun b=>(idx f a).bind fun c=>cond (!((b.A.X == c.A.X) && ((b.A.Y == c.A.Y) && ((b.B.X == c.B.X) && ((b.B.Y == c.B.Y) && true))))) (some (.inr (.inr false))) (some (.inl (w64 (a + 1))))) (some (.inr (.inl ())))
noncomputable def qb6 (a : List Qw) : Option Bool:=
  (cond (decide ((a.length : Int) > 40)) (some (decide ((a.length : Int)≤400))) (some false)).bind fun d=>(cond d (some true) (some (decide ((a.length : Int) > 420)))).bind fun f=>cond f (some true) ((app 32 [] a).bind fun g=>(q1x a).bind fun b=>(q1q a).bind fun c=>(loop (q3b a g) 0 : Option ((Unit) ⊕ (Bool))).bind fun h=>(match h with | .inl _=>(q7j b.1 c.1).bind fun j=>(cond j (some (b.2 == c.2)) (some false)).bind fun k=>some k | .inr l=>some l))
structure qz3 where
  At : qf
  Kind : Int
  Weight : Int
  Reach : Int
  deriving DecidableEq
structure qz5 where
  At : qf
  Head : Int
  Steps : Int
  deriving DecidableEq
noncomputable def q44 (b : List qh) (a : Int) : Option ((Int) ⊕ ((Unit) ⊕ (Int))):=
  cond (decide (a < (b.length : Int))) ((idx b a).bind fun c=>(q2s c).bind fun d=>(cond (!d) (some true) ((cond (decide (a > 0)) ((idx b (w64 (a - 1))).bind fun f=>some (decide (f.Hi ≥ c.Lo))) (some false)).bind fun g=>some g)).bind fun h=>cond h (some (.inr (.inr 8))) (some (.inl (w64 (a + 1))))) (some (.inr (.inl ())))
noncomputable def qc1 (a : List qh) : Option Int:=
  cond (decide ((a.length : Int) > 400)) (some 4) ((loop (q44 a) 0 : Option ((Unit) ⊕ (Int))).bind fun b=>(match b with | .inl _=>some 0 | .inr c=>some c))
noncomputable def qjo (a : qh) : Option Bool:=
  (cond (decide (a.Lo < a.Hi)) (some (decide (a.Lo ≥ (-1000000)))) (some false)).bind fun b=>(cond b (some (decide (a.Hi≤1000000))) (some false)).bind fun c=>some c
noncomputable def qee (b : List qh) (a : Int) : Option ((Int) ⊕ ((Unit) ⊕ (Int))):=
  cond (decide (a < (b.length : Int))) ((idx b a).bind fun c=>(qjo c).bind fun d=>(cond (!d) (some true) ((cond (decide (a > 0)) ((idx b (w64 (a - 1))).bind fun f=>(idx b a).bind fun g=>some (decide (f.Hi ≥ g.Lo))) (some false)).bind fun h=>some h)).bind fun j=>cond j (some (.inr (.inr 8))) (some (.inl (w64 (a + 1))))) (some (.inr (.inl ())))
noncomputable def qbp (a : List qh) : Option Int:=
  cond (decide ((a.length : Int) > 400)) (some 4) ((loop (qee a) 0 : Option ((Unit) ⊕ (Int))).bind fun b=>(match b with | .inl _=>some 0 | .inr c=>some c))
noncomputable def q7f (b : List qh) (a : Int × List Int) : Option ((Int × List Int) ⊕ (List Int)):=
  cond (decide (a.1 < (b.length : Int))) ((idx b a.1).bind fun c=>(idx b a.1).bind fun d=>(app 8 a.2 [c.Lo,d.Hi]).bind fun f=>some (.inl (w64 (a.1 + 1),f))) (some (.inr a.2))
noncomputable def qjl (b : List qh) (a : Int × List Int) : Option ((Int × List Int) ⊕ (List Int)):=
  cond (decide (a.1 < (b.length : Int))) ((idx b a.1).bind fun c=>(idx b a.1).bind fun d=>(app 8 a.2 [c.Lo,d.Hi]).bind fun f=>some (.inl (w64 (a.1 + 1),f))) (some (.inr a.2))
noncomputable def qef (a : List qh) (b : List qh) : Option (List Int):=
  (loop (q7f a) (0,[])).bind fun c=>(loop (qjl b) (0,c)).bind fun d=>(q52 d).bind fun f=>some f
noncomputable def q7g (b : List qh) (c : Int) (a : Int) : Option ((Int) ⊕ ((Unit) ⊕ (Bool))):=
  cond (decide (a < (b.length : Int))) ((idx b a).bind fun d=>(cond (decide (d.Lo≤c)) ((idx b a).bind fun f=>some (decide (c < f.Hi))) (some false)).bind fun g=>cond g (some (.inr (.inr true))) (some (.inl (w64 (a + 1))))) (some (.inr (.inl ())))
noncomputable def qbq (a : List qh) (b : Int) : Option Bool:=
  (loop (q7g a b) 0 : Option ((Unit) ⊕ (Bool))).bind fun c=>(match c with | .inl _=>some false | .inr d=>some d)
noncomputable def qeg (c : Int) (a : Bool) (b : Bool) : Option Bool:=
  cond (c == 1) ((cond a (some b) (some false)).bind fun d=>some d) (cond (c == 2) ((cond a (some true) (some b)).bind fun f=>some f) ((cond a (some (!b)) (some false)).bind fun g=>some g))
noncomputable def q7e (b : List Int) (c : List Bool) (a : Int × List qh) : Option ((Int × List qh) ⊕ (List qh)):=
  cond (decide ((w64 (a.1 + 1)) < (b.length : Int))) (((idx c a.1).bind fun d=>cond (!d) (some a.2) ((cond (decide ((a.2.length : Int) > 0)) ((idx a.2 (w64 ((a.2.length : Int) - 1))).bind fun f=>(idx b a.1).bind fun g=>some (f.Hi == g)) (some false)).bind fun h=>cond h ((idx b (w64 (a.1 + 1))).bind fun j=>(idx a.2 (w64 ((a.2.length : Int) - 1))).bind fun k=>some (a.2.set (w64 ((a.2.length : Int) - 1)).toNat ({Lo:=k.Lo,Hi:=j} : qh))) ((idx b a.1).bind fun l=>(idx b (w64 (a.1 + 1))).bind fun m=>(app 16 a.2 [({Lo:=l,Hi:=m} : qh)]).bind fun n=>some n))).bind fun o=>some (.inl (w64 (a.1 + 1),o))) (some (.inr a.2))
noncomputable def qed (a : List Int) (b : List Bool) : Option (List qh):=
  (loop (q7e a b) (0,[])).bind fun c=>some c
noncomputable def q7h (b : List Int) (c : List qh) (d : List qh) (f : Int) (a : Int × List Bool) : Option ((Int × List Bool) ⊕ (List Bool)):=
  cond (decide (a.1 < (b.length : Int))) ((idx b a.1).bind fun g=>(qbq c g).bind fun h=>(idx b a.1).bind fun j=>(qbq d j).bind fun k=>(qeg f h k).bind fun l=>(app 1 a.2 [l]).bind fun m=>some (.inl (w64 (a.1 + 1),m))) (some (.inr a.2))
noncomputable def qbr (d : Int) (a : List qh) (b : List qh) : Option (List qh):=
  (qef a b).bind fun c=>(loop (q7h c a b d) (0,[])).bind fun f=>(qed c f).bind fun g=>some g
noncomputable def q9r (b : List qh) (a : Int × Int) : Option ((Int × Int) ⊕ (Int)):=
  cond (decide (a.2 < (b.length : Int))) ((idx b a.2).bind fun c=>some (.inl (w64 (a.1 + (w64 (c.Hi - c.Lo))),w64 (a.2 + 1)))) (some (.inr a.1))
noncomputable def qkp (a : List qh) : Option (Int × Int):=
  (qc1 a).bind fun b=>cond (b != 0) (some (0,b)) ((loop (q9r a) (0,0)).bind fun c=>some (c,0))
noncomputable def q7i (b : List qh) (a : Int × Int) : Option ((Int × Int) ⊕ (Int)):=
  cond (decide (a.2 < (b.length : Int))) ((idx b a.2).bind fun c=>(idx b a.2).bind fun d=>some (.inl (w64 ((w64 (a.1 + c.Hi)) - d.Lo),w64 (a.2 + 1)))) (some (.inr a.1))
noncomputable def qjn (a : List qh) : Option (Int × Int):=
  (qbp a).bind fun b=>cond (b != 0) ((qbp a).bind fun c=>some (0,c)) ((loop (q7i a) (0,0)).bind fun d=>some (d,0))
structure qai where
  X : Int
  Y : Int
  Z : Int
  deriving DecidableEq
structure qlm where
  Turn : Int
  At : qai
  deriving DecidableEq
structure qz4 where
  Frame : qlm
  Size : qai
  deriving DecidableEq
structure qz2 where
  t_ : Int
  at_ : qai
  flat_ : qai
  deriving DecidableEq
end Go.Sh
