/- PX -/
import Derived.Test.YtgkialgkmjnfbaaGreatK9
namespace Go.Sh
open Go Go.Am
structure qc where
  X : Int
  Y : Int
  deriving DecidableEq
structure qm where
  A : Int
  B : Int
  deriving DecidableEq
structure K5 where
  Nodes : List qc
  Edges : List qm
  deriving DecidableEq
def qt (x : qc) : List DV:=[.int .i64 x.X,.int .i64 x.Y]
def Qc (x : qm) : List DV:=[.int .i64 x.A,.int .i64 x.B]
structure Q6 where
  A : qc
  B : qc
  deriving DecidableEq
noncomputable def q53 (a : qc) : Option Bool:=
  (cond (decide ((min a.X a.Y) ≥ (-1000000))) (some (decide ((max a.X a.Y)≤1000000))) (some false)).bind fun b=>some b
noncomputable def qbq (a : Q6) : Option Bool:=
  (q53 a.A).bind fun b=>(cond b ((q53 a.B).bind fun c=>some c) (some false)).bind fun d=>(cond d (some (!((a.A.X == a.B.X) == (a.A.Y == a.B.Y)))) (some false)).bind fun f=>some f
def Kc (x : Q6) : List DV:=[.int .i64 x.A.X,.int .i64 x.A.Y,.int .i64 x.B.X,.int .i64 x.B.Y]
structure qj where
  Lo : Int
  Hi : Int
  deriving DecidableEq
structure Yd where
  rows_ : List (Int × List qj)
  columns_ : List (Int × List qj)
  deriving DecidableEq
def Q8 (x : qj) : List DV:=[.int .i64 x.Lo,.int .i64 x.Hi]
noncomputable def q3h (b : List qj) (c : qj→Option Bool) (a : Int) : Option ((Int) ⊕ ((Unit) ⊕ (Int))):=
  cond (decide (a < (b.length : Int))) ((idx b a).bind fun d=>(c d).bind fun f=>cond f (some (.inr (.inr a))) (some (.inl (w64 (a + 1))))) (some (.inr (.inl ())))
noncomputable def q98 (a : List qj) (b : qj→Option Bool) : Option Int:=
  (loop (q3h a b) 0 : Option ((Unit) ⊕ (Int))).bind fun c=>(match c with | .inl _=>some (-1) | .inr d=>some d)
noncomputable def q6k (a : List qj) (b : qj→Option Bool) : Option Bool:=
  (q98 a b).bind fun c=>some (decide (c ≥ 0))
noncomputable def q3i (a : qj) : Option Bool:=
  (cond (decide (a.Lo < a.Hi)) (some (decide (a.Lo ≥ (-1000000)))) (some false)).bind fun b=>(cond b (some (decide (a.Hi≤1000000))) (some false)).bind fun c=>some c
noncomputable def qdw (a : qj) : Option Bool:=
  (q3i a).bind fun b=>some (!b)
def q1z (x : List qj) : List DV:=[.sl 2 (x.map Q8)]
structure qn where
  at_ : Int
  list_ : Int
  by_ : Int
  deriving DecidableEq
def Qg (x : qn) : List DV:=[.int .i64 x.at_,.int .i64 x.list_,.int .i64 x.by_]
noncomputable def qbf (a : qn) (b : qn) : Option Int:=
  some (w64 (a.at_ - b.at_))
def qbm : ByteArray:=⟨#[0,1,2,2,3,3,3,3,4,4,4,4,4,4,4,4,5,5,5,5,5,5,5,5,5,5,5,5,5,5,5,5,6,6,6,6,6,6,6,6,6,6,6,6,6,6,6,6,6,6,6,6,6,6,6,6,6,6,6,6,6,6,6,6,7,7,7,7,7,7,7,7,7,7,7,7,7,7,7,7,7,7,7,7,7,7,7,7,7,7,7,7,7,7,7,7,7,7,7,7,7,7,7,7,7,7,7,7,7,7,7,7,7,7,7,7,7,7,7,7,7,7,7,7,7,7,7,7,8,8,8,8,8,8,8,8,8,8,8,8,8,8,8,8,8,8,8,8,8,8,8,8,8,8,8,8,8,8,8,8,8,8,8,8,8,8,8,8,8,8,8,8,8,8,8,8,8,8,8,8,8,8,8,8,8,8,8,8,8,8,8,8,8,8,8,8,8,8,8,8,8,8,8,8,8,8,8,8,8,8,8,8,8,8,8,8,8,8,8,8,8,8,8,8,8,8,8,8,8,8,8,8,8,8,8,8,8,8,8,8,8,8,8,8,8,8,8,8,8,8,8,8,8,8,8,8]⟩
noncomputable def q2b (c : Int) : Option Int:=
  (cond (decide (c ≥ 4294967296)) (some (Int.fdiv c (2 ^ 32),32)) (some (c,0))).bind fun a=>(cond (decide (a.1 ≥ 65536)) (some (Int.fdiv a.1 (2 ^ 16),w64 (a.2 + 16))) (some (a.1,a.2))).bind fun b=>(cond (decide (b.1 ≥ 256)) (some (Int.fdiv b.1 (2 ^ 8),w64 (b.2 + 8))) (some (b.1,b.2))).bind fun d=>(q52 qbm (IntKind.wrap .u8 d.1)).bind fun f=>some (w64 (d.2 + (w64 f)))
noncomputable def U3 (a : Int) : Option Int:=
  (q2b a).bind fun b=>some b
noncomputable def qa0 (c : Int) (d : qn→qn→Option Int) (a : Int × List qn) : Option ((Int × List qn) ⊕ (List qn)):=
  (cond (decide (a.1 > c)) ((idx a.2 a.1).bind fun f=>(idx a.2 (w64 (a.1 - 1))).bind fun g=>(d f g).bind fun h=>some (decide (h < 0))) (some false)).bind fun j=>cond j ((idx a.2 (w64 (a.1 - 1))).bind fun b=>(idx a.2 a.1).bind fun k=>(idx a.2 a.1).bind fun _=>(idx (a.2.set a.1.toNat b) (w64 (a.1 - 1))).bind fun _=>some (.inl (w64 (a.1 - 1),(a.2.set a.1.toNat b).set (w64 (a.1 - 1)).toNat k))) (some (.inr a.2))
noncomputable def q9z (b : Int) (c : Int) (d : qn→qn→Option Int) (a : Int × List qn) : Option ((Int × List qn) ⊕ (List qn)):=
  cond (decide (a.1 < b)) (((loop (qa0 c d) (a.1,a.2)).bind fun f=>some f).bind fun g=>some (.inl (w64 (a.1 + 1),g))) (some (.inr a.2))
noncomputable def q9y (b : qn→qn→Option Int) (c : List qn) (a : Int) (d : Int) : Option (List qn):=
  (loop (q9z d a b) (w64 (a + 1),c)).bind fun f=>some f
noncomputable def qbc (d : Int) (b : Int) (f : qn→qn→Option Int) (a : Int × List qn) : Option ((Int × List qn) ⊕ (List qn)):=
  cond (decide ((w64 ((w64 (2 * a.1)) + 1)) ≥ d)) (some (.inr a.2)) ((cond (decide ((w64 ((w64 ((w64 (2 * a.1)) + 1)) + 1)) < d)) ((idx a.2 (w64 (b + (w64 ((w64 (2 * a.1)) + 1))))).bind fun h=>(idx a.2 (w64 ((w64 (b + (w64 ((w64 (2 * a.1)) + 1)))) + 1))).bind fun j=>(f h j).bind fun k=>some (decide (k < 0))) (some false)).bind fun l=>(cond l (some (w64 ((w64 ((w64 (2 * a.1)) + 1)) + 1))) (some (w64 ((w64 (2 * a.1)) + 1)))).bind fun c=>(idx a.2 (w64 (b + a.1))).bind fun m=>(idx a.2 (w64 (b + c))).bind fun n=>(f m n).bind fun o=>cond (!(decide (o < 0))) (some (.inr a.2)) ((idx a.2 (w64 (b + c))).bind fun g=>(idx a.2 (w64 (b + a.1))).bind fun p=>(idx a.2 (w64 (b + a.1))).bind fun _=>(idx (a.2.set (w64 (b + a.1)).toNat g) (w64 (b + c))).bind fun _=>some (.inl (c,(a.2.set (w64 (b + a.1)).toNat g).set (w64 (b + c)).toNat p))))
noncomputable def q77 (a : qn→qn→Option Int) (b : List qn) (c : Int) (d : Int) (f : Int) : Option (List qn):=
  (loop (qbc d f a) (c,b)).bind fun g=>some g
noncomputable def q9q (d : qn→qn→Option Int) (f : Int) (b : Int) (a : Int × List qn) : Option ((Int × List qn) ⊕ (List qn)):=
  cond (decide (a.1 ≥ 0)) ((q77 d a.2 a.1 (w64 (f - b)) b).bind fun c=>(K2 c.length a.2.length).bind fun _=>some (.inl (w64 (a.1 - 1),c))) (some (.inr a.2))
noncomputable def q9r (b : Int) (g : qn→qn→Option Int) (a : Int × List qn) : Option ((Int × List qn) ⊕ (List qn)):=
  cond (decide (a.1 ≥ 0)) ((idx a.2 (w64 (b + a.1))).bind fun c=>(idx a.2 b).bind fun d=>(idx a.2 b).bind fun _=>(idx (a.2.set b.toNat c) (w64 (b + a.1))).bind fun _=>(q77 g ((a.2.set b.toNat c).set (w64 (b + a.1)).toNat d) 0 a.1 b).bind fun f=>(K2 f.length ((a.2.set b.toNat c).set (w64 (b + a.1)).toNat d).length).bind fun _=>some (.inl (w64 (a.1 - 1),f))) (some (.inr a.2))
noncomputable def q9p (c : qn→qn→Option Int) (d : List qn) (a : Int) (b : Int) : Option (List qn):=
  (loop (q9q c b a) (w64 (Int.tdiv (w64 ((w64 (b - a)) - 1)) 2),d)).bind fun f=>(loop (q9r a c) (w64 ((w64 (b - a)) - 1),f)).bind fun g=>some g
noncomputable def q4x (f : qn→qn→Option Int) (c : List qn) (a : Int) (b : Int) (d : Int) : Option (Int × Int × Int):=
  (idx c b).bind fun g=>(idx c a).bind fun h=>(f g h).bind fun j=>cond (decide (j < 0)) (some (b,a,w64 (d + 1))) (some (a,b,d))
noncomputable def q6p (a : qn→qn→Option Int) (b : List qn) (g : Int) (h : Int) (j : Int) (k : Int) : Option (Int × Int):=
  (q4x a b g h k).bind fun c=>(q4x a b c.2.1 j c.2.2).bind fun d=>(q4x a b c.1 d.1 d.2.2).bind fun f=>some (f.2.1,f.2.2)
noncomputable def q4u (c : qn→qn→Option Int) (d : List qn) (a : Int) (f : Int) : Option (Int × Int):=
  (q6p c d (w64 (a - 1)) a (w64 (a + 1)) f).bind fun b=>some (b.1,b.2)
noncomputable def q9i (d : List qn) (a : Int) (b : Int) (f : qn→qn→Option Int) : Option (Int × Int):=
  (cond (decide ((w64 (b - a)) ≥ 8)) ((cond (decide ((w64 (b - a)) ≥ 50)) ((q4u f d (w64 (a + (w64 ((w64 (Int.tdiv (w64 (b - a)) 4)) * 1)))) 0).bind fun h=>(q4u f d (w64 (a + (w64 ((w64 (Int.tdiv (w64 (b - a)) 4)) * 2)))) h.2).bind fun j=>(q4u f d (w64 (a + (w64 ((w64 (Int.tdiv (w64 (b - a)) 4)) * 3)))) j.2).bind fun k=>some (h.1,j.1,k.1,k.2)) (some (w64 (a + (w64 ((w64 (Int.tdiv (w64 (b - a)) 4)) * 1))),w64 (a + (w64 ((w64 (Int.tdiv (w64 (b - a)) 4)) * 2))),w64 (a + (w64 ((w64 (Int.tdiv (w64 (b - a)) 4)) * 3))),0))).bind fun g=>(q6p f d g.1 g.2.1 g.2.2.1 g.2.2.2).bind fun l=>some (l.1,l.2)) (some (w64 (a + (w64 ((w64 (Int.tdiv (w64 (b - a)) 4)) * 2))),0))).bind fun c=>cond (c.2 == 0) (some (c.1,1)) (cond (c.2 == 12) (some (c.1,2)) (some (c.1,0)))
noncomputable def qb9 (a : Int × Int × List qn) : Option ((Int × Int × List qn) ⊕ (List qn)):=
  cond (decide (a.1 < a.2.1)) ((idx a.2.2 a.2.1).bind fun b=>(idx a.2.2 a.1).bind fun c=>(idx a.2.2 a.1).bind fun _=>(idx (a.2.2.set a.1.toNat b) a.2.1).bind fun _=>some (.inl (w64 (a.1 + 1),w64 (a.2.1 - 1),(a.2.2.set a.1.toNat b).set a.2.1.toNat c))) (some (.inr a.2.2))
noncomputable def qb8 (f : qn→qn→Option Int) (a : List qn) (b : Int) (c : Int) : Option (List qn):=
  (loop qb9 (b,w64 (c - 1),a)).bind fun d=>some d
noncomputable def qa7 (c : Int) (b : Int × Int × List qn) (d : qn→qn→Option Int) (a : Int) : Option ((Int) ⊕ (Int)):=
  (cond (decide (a < c)) ((idx b.2.2 a).bind fun f=>(idx b.2.2 (w64 (a - 1))).bind fun g=>(d f g).bind fun h=>some (!(decide (h < 0)))) (some false)).bind fun j=>cond j (some (.inl (w64 (a + 1)))) (some (.inr a))
noncomputable def qa8 (c : qn→qn→Option Int) (a : Int × List qn) : Option ((Int × List qn) ⊕ (List qn)):=
  cond (decide (a.1 ≥ 1)) ((idx a.2 a.1).bind fun d=>(idx a.2 (w64 (a.1 - 1))).bind fun f=>(c d f).bind fun g=>cond (!(decide (g < 0))) (some (.inr a.2)) ((idx a.2 (w64 (a.1 - 1))).bind fun b=>(idx a.2 a.1).bind fun h=>(idx a.2 a.1).bind fun _=>(idx (a.2.set a.1.toNat b) (w64 (a.1 - 1))).bind fun _=>some (.inl (w64 (a.1 - 1),(a.2.set a.1.toNat b).set (w64 (a.1 - 1)).toNat h)))) (some (.inr a.2))
noncomputable def qa9 (d : Int) (f : qn→qn→Option Int) (b : Int) (a : Int × List qn) : Option ((Int × List qn) ⊕ (Int × List qn)):=
  cond (decide (a.1 < d)) ((idx a.2 a.1).bind fun g=>(idx a.2 (w64 (a.1 - 1))).bind fun h=>(f g h).bind fun j=>cond (!(decide (j < 0))) (some (.inr (b,a.2))) ((idx a.2 (w64 (a.1 - 1))).bind fun c=>(idx a.2 a.1).bind fun k=>(idx a.2 a.1).bind fun _=>(idx (a.2.set a.1.toNat c) (w64 (a.1 - 1))).bind fun _=>some (.inl (w64 (a.1 + 1),(a.2.set a.1.toNat c).set (w64 (a.1 - 1)).toNat k)))) (some (.inr (b,a.2)))
noncomputable def q6v (c : Int) (d : qn→qn→Option Int) (h : Int) (b : Int × Int × List qn) : Option ((Int × Int × List qn) ⊕ ((List qn) ⊕ (Bool × List qn))):=
  cond (decide (b.2.1 < 5)) (((loop (qa7 c b d) b.1).bind fun a=>cond (a == c) (some (.inr (true,b.2.2))) (cond (decide ((w64 (c - h)) < 50)) (some (.inr (false,b.2.2))) ((idx b.2.2 (w64 (a - 1))).bind fun f=>(idx b.2.2 a).bind fun j=>(idx b.2.2 a).bind fun _=>(idx (b.2.2.set a.toNat f) (w64 (a - 1))).bind fun _=>(cond (decide ((w64 (a - h)) ≥ 2)) ((loop (qa8 d) (w64 (a - 1),(b.2.2.set a.toNat f).set (w64 (a - 1)).toNat j)).bind fun g=>some g) (some ((b.2.2.set a.toNat f).set (w64 (a - 1)).toNat j))).bind fun k=>cond (decide ((w64 (c - a)) ≥ 2)) ((loop (qa9 c d a) (w64 (a + 1),k)).bind fun g=>some (.inl g)) (some (.inl (a,k))))) : Option ((Int × List qn) ⊕ (Bool × List qn))).bind fun m=>(match m with | .inl l=>some (.inl (l.1,w64 (b.2.1 + 1),l.2)) | .inr n=>some (.inr (.inr n)))) (some (.inr (.inl b.2.2)))
noncomputable def q6u (b : qn→qn→Option Int) (c : List qn) (a : Int) (d : Int) : Option (Bool × List qn):=
  (loop (q6v d b a) (w64 (a + 1),0,c) : Option ((List qn) ⊕ (Bool × List qn))).bind fun f=>(match f with | .inl g=>some (false,g) | .inr h=>some h)
noncomputable def qb2 (b : Int × Int × List qn) (c : Int) (d : qn→qn→Option Int) (a : Int) : Option ((Int) ⊕ (Int)):=
  (cond (decide (a≤b.2.1)) ((idx b.2.2 c).bind fun f=>(idx b.2.2 a).bind fun g=>(d f g).bind fun h=>some (!(decide (h < 0)))) (some false)).bind fun j=>cond j (some (.inl (w64 (a + 1)))) (some (.inr a))
noncomputable def qb3 (c : Int) (b : Int × Int × List qn) (d : Int) (f : qn→qn→Option Int) (a : Int) : Option ((Int) ⊕ (Int)):=
  (cond (decide (c≤a)) ((idx b.2.2 d).bind fun g=>(idx b.2.2 a).bind fun h=>(f g h).bind fun j=>some (decide (j < 0))) (some false)).bind fun k=>cond k (some (.inl (w64 (a - 1)))) (some (.inr a))
noncomputable def qb1 (d : Int) (f : qn→qn→Option Int) (a : Int × Int × List qn) : Option ((Int × Int × List qn) ⊕ (Int × List qn)):=
  (loop (qb2 a d f) a.1).bind fun b=>(loop (qb3 b a d f) a.2.1).bind fun c=>cond (decide (b > c)) (some (.inr (b,a.2.2))) ((idx a.2.2 c).bind fun g=>(idx a.2.2 b).bind fun h=>(idx a.2.2 b).bind fun _=>(idx (a.2.2.set b.toNat g) c).bind fun _=>some (.inl (w64 (b + 1),w64 (c - 1),(a.2.2.set b.toNat g).set c.toNat h)))
noncomputable def qb0 (g : qn→qn→Option Int) (b : List qn) (a : Int) (h : Int) (c : Int) : Option (Int × List qn):=
  (idx b c).bind fun d=>(idx b a).bind fun j=>(idx b a).bind fun _=>(idx (b.set a.toNat d) c).bind fun _=>(loop (qb1 a g) (w64 (a + 1),w64 (h - 1),(b.set a.toNat d).set c.toNat j)).bind fun f=>some (f.1,f.2)
noncomputable def qan (h : Int) (c : List qn) (b : Int) (d : qn) (f : Int) (g : qn) (j : qn→qn→Option Int) (a : Int) : Option ((Int) ⊕ (Int)):=
  (cond (decide (a≤(w64 (h - 1)))) ((idx ((c.set b.toNat d).set f.toNat g) a).bind fun k=>(idx ((c.set b.toNat d).set f.toNat g) b).bind fun l=>(j k l).bind fun m=>some (decide (m < 0))) (some false)).bind fun n=>cond n (some (.inl (w64 (a + 1)))) (some (.inr a))
noncomputable def qao (h : Int) (c : List qn) (b : Int) (d : qn) (f : Int) (g : qn) (j : qn→qn→Option Int) (a : Int) : Option ((Int) ⊕ (Int)):=
  (cond (decide (h≤a)) ((idx ((c.set b.toNat d).set f.toNat g) a).bind fun k=>(idx ((c.set b.toNat d).set f.toNat g) b).bind fun l=>(j k l).bind fun m=>some (!(decide (m < 0)))) (some false)).bind fun n=>cond n (some (.inl (w64 (a - 1)))) (some (.inr a))
noncomputable def qaq (b : Int × Int × List qn) (c : Int) (d : qn→qn→Option Int) (a : Int) : Option ((Int) ⊕ (Int)):=
  (cond (decide (a≤b.2.1)) ((idx b.2.2 a).bind fun f=>(idx b.2.2 c).bind fun g=>(d f g).bind fun h=>some (decide (h < 0))) (some false)).bind fun j=>cond j (some (.inl (w64 (a + 1)))) (some (.inr a))
noncomputable def qar (c : Int) (b : Int × Int × List qn) (d : Int) (f : qn→qn→Option Int) (a : Int) : Option ((Int) ⊕ (Int)):=
  (cond (decide (c≤a)) ((idx b.2.2 a).bind fun g=>(idx b.2.2 d).bind fun h=>(f g h).bind fun j=>some (!(decide (j < 0)))) (some false)).bind fun k=>cond k (some (.inl (w64 (a - 1)))) (some (.inr a))
noncomputable def qap (d : Int) (f : qn→qn→Option Int) (a : Int × Int × List qn) : Option ((Int × Int × List qn) ⊕ (Int × List qn)):=
  (loop (qaq a d f) a.1).bind fun b=>(loop (qar b a d f) a.2.1).bind fun c=>cond (decide (b > c)) (some (.inr (c,a.2.2))) ((idx a.2.2 c).bind fun g=>(idx a.2.2 b).bind fun h=>(idx a.2.2 b).bind fun _=>(idx (a.2.2.set b.toNat g) c).bind fun _=>some (.inl (w64 (b + 1),w64 (c - 1),(a.2.2.set b.toNat g).set c.toNat h)))
noncomputable def qam (k : qn→qn→Option Int) (b : List qn) (a : Int) (l : Int) (c : Int) : Option (Int × Bool × List qn):=
  (idx b c).bind fun d=>(idx b a).bind fun f=>(idx b a).bind fun _=>(idx (b.set a.toNat d) c).bind fun _=>(loop (qan l b a d c f k) (w64 (a + 1))).bind fun j=>(loop (qao j b a d c f k) (w64 (l - 1))).bind fun g=>cond (decide (j > g)) ((idx ((b.set a.toNat d).set c.toNat f) a).bind fun m=>(idx ((b.set a.toNat d).set c.toNat f) g).bind fun p=>(idx ((b.set a.toNat d).set c.toNat f) g).bind fun _=>(idx (((b.set a.toNat d).set c.toNat f).set g.toNat m) a).bind fun _=>some (g,true,(((b.set a.toNat d).set c.toNat f).set g.toNat m).set a.toNat p)) ((idx ((b.set a.toNat d).set c.toNat f) g).bind fun n=>(idx ((b.set a.toNat d).set c.toNat f) j).bind fun q=>(idx ((b.set a.toNat d).set c.toNat f) j).bind fun _=>(idx (((b.set a.toNat d).set c.toNat f).set j.toNat n) g).bind fun _=>(loop (qap a k) (w64 (j + 1),w64 (g - 1),(((b.set a.toNat d).set c.toNat f).set j.toNat n).set g.toNat q)).bind fun h=>(idx h.2 a).bind fun o=>(idx h.2 h.1).bind fun r=>(idx h.2 h.1).bind fun _=>(idx (h.2.set h.1.toNat o) a).bind fun _=>some (h.1,false,(h.2.set h.1.toNat o).set a.toNat r))
noncomputable def Uv (a : Int) : Option Int:=
  (U3 (IntKind.wrap .u64 a)).bind fun b=>(shlK .u64 1 b).bind fun c=>some c
noncomputable def Uw (a : Int) : Option Int:=
  some (xorI .u64 (xorI .u64 (xorI .u64 a (IntKind.wrap .u64 (a * (2 ^ 13)))) (Int.fdiv (xorI .u64 a (IntKind.wrap .u64 (a * (2 ^ 13)))) (2 ^ 7))) (IntKind.wrap .u64 ((xorI .u64 (xorI .u64 a (IntKind.wrap .u64 (a * (2 ^ 13)))) (Int.fdiv (xorI .u64 a (IntKind.wrap .u64 (a * (2 ^ 13)))) (2 ^ 7))) * (2 ^ 17))))
noncomputable def q9f (b : Int) (d : Int) (f : Int) (a : Int × List qn × Int) : Option ((Int × List qn × Int) ⊕ (List qn)):=
  cond (decide (a.1≤(w64 ((w64 (b + (w64 ((w64 (Int.tdiv (w64 (d - b)) 4)) * 2)))) + 1)))) ((Uw a.2.2).bind fun c=>(cond (decide ((w64 (andI .u64 c (IntKind.wrap .u64 (f - 1)))) ≥ (w64 (d - b)))) (some (w64 ((w64 (andI .u64 c (IntKind.wrap .u64 (f - 1)))) - (w64 (d - b))))) (some (w64 (andI .u64 c (IntKind.wrap .u64 (f - 1)))))).bind fun g=>(idx a.2.1 (w64 (b + g))).bind fun h=>(idx a.2.1 a.1).bind fun j=>(idx a.2.1 a.1).bind fun _=>(idx (a.2.1.set a.1.toNat h) (w64 (b + g))).bind fun _=>some (.inl (w64 (a.1 + 1),(a.2.1.set a.1.toNat h).set (w64 (b + g)).toNat j,c))) (some (.inr a.2.1))
noncomputable def q9e (g : qn→qn→Option Int) (c : List qn) (a : Int) (b : Int) : Option (List qn):=
  cond (decide ((w64 (b - a)) ≥ 8)) ((Uv (w64 (b - a))).bind fun d=>(loop (q9f a b d) (w64 ((w64 (a + (w64 ((w64 (Int.tdiv (w64 (b - a)) 4)) * 2)))) - 1),c,IntKind.wrap .u64 (w64 (b - a)))).bind fun f=>some f) (some c)
noncomputable def q73 (c : qn→qn→Option Int) (rec : List qn→Int→Int→Int→Option (List qn)) (a : Int × Int × Int × Bool × Bool × List qn) : Option ((Int × Int × Int × Bool × Bool × List qn) ⊕ (List qn)):=
  cond (decide ((w64 (a.2.1 - a.1))≤12)) ((q9y c a.2.2.2.2.2 a.1 a.2.1).bind fun l=>(K2 l.length a.2.2.2.2.2.length).bind fun _=>some (.inr l)) (cond (a.2.2.1 == 0) ((q9p c a.2.2.2.2.2 a.1 a.2.1).bind fun m=>(K2 m.length a.2.2.2.2.2.length).bind fun _=>some (.inr m)) ((cond (!a.2.2.2.1) ((q9e c a.2.2.2.2.2 a.1 a.2.1).bind fun n=>(K2 n.length a.2.2.2.2.2.length).bind fun _=>some (w64 (a.2.2.1 - 1),n)) (some (a.2.2.1,a.2.2.2.2.2))).bind fun d=>(q9i d.2 a.1 a.2.1 c).bind fun h=>(cond (h.2 == 2) ((qb8 c d.2 a.1 a.2.1).bind fun o=>(K2 o.length d.2.length).bind fun _=>some (w64 ((w64 (a.2.1 - 1)) - (w64 (h.1 - a.1))),1,o)) (some (h.1,h.2,d.2))).bind fun f=>(cond a.2.2.2.1 (some a.2.2.2.2.1) (some false)).bind fun r=>(cond r (some (f.2.1 == 1)) (some false)).bind fun s=>(cond s ((q6u c f.2.2 a.1 a.2.1).bind fun j=>(K2 j.2.length f.2.2.length).bind fun _=>cond j.1 (some (.inr j.2)) (some (.inl j.2))) (some (.inl f.2.2)) : Option ((List qn) ⊕ (List qn))).bind fun t=>(match t with | .inl g=>(cond (decide (a.1 > 0)) ((idx g (w64 (a.1 - 1))).bind fun u=>(idx g f.1).bind fun v=>(c u v).bind fun w=>some (!(decide (w < 0)))) (some false)).bind fun x=>cond x ((qb0 c g a.1 a.2.1 f.1).bind fun k=>(K2 k.2.length g.length).bind fun _=>some (.inl (k.1,a.2.1,d.1,a.2.2.2.1,a.2.2.2.2.1,k.2))) ((qam c g a.1 a.2.1 f.1).bind fun b=>(K2 b.2.2.length g.length).bind fun _=>cond (decide ((w64 (b.1 - a.1)) < (w64 (a.2.1 - b.1)))) ((rec b.2.2 a.1 b.1 d.1).bind fun p=>(K2 p.length b.2.2.length).bind fun _=>some (.inl (w64 (b.1 + 1),a.2.1,d.1,decide ((w64 (b.1 - a.1)) ≥ (w64 (Int.tdiv (w64 (a.2.1 - a.1)) 8))),b.2.1,p))) ((rec b.2.2 (w64 (b.1 + 1)) a.2.1 d.1).bind fun q=>(K2 q.length b.2.2.length).bind fun _=>some (.inl (a.1,b.1,d.1,decide ((w64 (a.2.1 - b.1)) ≥ (w64 (Int.tdiv (w64 (a.2.1 - a.1)) 8))),b.2.1,q)))) | .inr y=>some (.inr y))))
noncomputable def q74 (rec : List qn→Int→Int→Int→Option (List qn)) (a : qn→qn→Option Int) (b : List qn) (c : Int) (d : Int) (f : Int) : Option (List qn):=
  (loop (q73 a rec) (c,d,f,true,true,b)).bind fun g=>some g
noncomputable def q72 : Nat→(qn→qn→Option Int)→List qn→Int→Int→Int→Option (List qn)
  | 0,_,_,_,_,_=>none
  | n + 1,a,b,c,d,f=>q74 (q72 n a) a b c d f
noncomputable def q6m (c : qn→qn→Option Int) (a : List qn) : Option (List qn):=
  (U3 (IntKind.wrap .u64 (a.length : Int))).bind fun d=>(lim (fun n=>q72 n c a 0 (a.length : Int) d)).bind fun b=>(K2 b.length a.length).bind fun _=>some b
noncomputable def qds (a : List qn) : Option (List qn):=
  some a
noncomputable def q4z (b : List qj) (c : Int × List qn) (a : Int × List qn) : Option ((Int × List qn) ⊕ (List qn)):=
  cond (decide (a.1 < (b.length : Int))) ((idx b a.1).bind fun d=>(app 24 a.2 [({at_:=d.Lo,list_:=c.1,by_:=1} : qn),({at_:=d.Hi,list_:=c.1,by_:=(-1)} : qn)]).bind fun f=>some (.inl (w64 (a.1 + 1),f))) (some (.inr a.2))
noncomputable def q1s (b : List (List qj)) (a : Int × List qn) : Option ((Int × List qn) ⊕ (List qn)):=
  cond (decide (a.1 < (b.length : Int))) (((idx b a.1).bind fun c=>(loop (q4z c a) (0,a.2)).bind fun d=>some d).bind fun f=>some (.inl (w64 (a.1 + 1),f))) (some (.inr a.2))
noncomputable def qbg (b : List (List qj)) : Option (List (List qj) × List qn):=
  (loop (q1s b) (0,[])).bind fun c=>(q6m (fun f g=>qbf f g) c).bind fun a=>(K2 a.length c.length).bind fun _=>(qds a).bind fun d=>(K2 d.length a.length).bind fun _=>some (b,d)
noncomputable def qbh (b : Int) (d : Bool) (c : Int) (a : List qj) : Option (List qj):=
  (cond (!d) (some true) (some (c == b))).bind fun f=>cond f (some a) ((cond (decide ((a.length : Int) > 0)) ((idx a (w64 ((a.length : Int) - 1))).bind fun g=>some (g.Hi == c)) (some false)).bind fun h=>cond h ((idx a (w64 ((a.length : Int) - 1))).bind fun j=>some (a.set (w64 ((a.length : Int) - 1)).toNat ({Lo:=j.Lo,Hi:=b} : qj))) ((app 16 a [({Lo:=c,Hi:=b} : qj)]).bind fun k=>some k))
noncomputable def q50 (f : List (List qj) × List qn) (g : Bool→Bool→Option Bool) (a : Int × List Int × Int × Bool × List qj) : Option ((Int × List Int × Int × Bool × List qj) ⊕ (List qj)):=
  cond (decide (a.1 < (f.2.length : Int))) ((idx f.2 a.1).bind fun b=>((qbh b.at_ a.2.2.2.1 a.2.2.1 a.2.2.2.2).bind fun h=>(idxA 2 a.2.1 b.list_).bind fun c=>(idxA 2 a.2.1 b.list_).bind fun _=>(idxA 2 (a.2.1.set b.list_.toNat (w64 (c + b.by_))) 0).bind fun j=>(idxA 2 (a.2.1.set b.list_.toNat (w64 (c + b.by_))) 1).bind fun k=>(g (decide (j > 0)) (decide (k > 0))).bind fun l=>some (a.2.1.set b.list_.toNat (w64 (c + b.by_)),l,h)).bind fun d=>some (.inl (w64 (a.1 + 1),d.1,b.at_,d.2.1,d.2.2))) (some (.inr a.2.2.2.2))
noncomputable def q79 (a : List qj) (b : List qj) (d : Bool→Bool→Option Bool) : Option (List qj):=
  (qbg [a,b]).bind fun c=>(K2 c.1.length [a,b].length).bind fun _=>((loop (q50 c d) (0,[0,0],0,false,[])).bind fun f=>some f).bind fun g=>some g
noncomputable def qbe (a : Bool) (b : Bool) : Option Bool:=
  some a
noncomputable def q2l (a : List qj) : Option (List qj × Int):=
  cond (decide ((a.length : Int) > 400)) (some ([],4)) ((q6k a (fun b=>qdw b)).bind fun c=>cond c (some ([],8)) ((q79 a [] (fun b d=>qbe b d)).bind fun f=>some (f,0)))
noncomputable def q17 (r : Yd) (s : Q6) : Option Yd:=
  cond (s.A.Y == s.B.Y) ((app 16 (K7 [] s.A.Y r.rows_) [({Lo:=min s.A.X s.B.X,Hi:=max s.A.X s.B.X} : qj)]).bind fun l=>some {rows_:=Ke s.A.Y l r.rows_,columns_:=r.columns_})
    ((app 16 (K7 [] s.A.X r.columns_) [({Lo:=min s.A.Y s.B.Y,Hi:=max s.A.Y s.B.Y} : qj)]).bind fun l=>some {rows_:=r.rows_,columns_:=Ke s.A.X l r.columns_})
noncomputable def q1w : List Q6→Yd→Option Yd
  | [],r=>some r
  | s::l,r=>(q17 r s).bind (q1w l)
noncomputable def Ju : List (Int × List qj)→Option (List (Int × List qj))
  | []=>some []
  | e::l=>(q2l e.2).bind fun x=>(Ju l).bind fun y=>some ((e.1,x.1)::y)
noncomputable def qbo (c : List Q6) : Option Yd:=
  cond (decide (c.length≤1000000)) ((q1w c {rows_:=[],columns_:=[]}).bind fun r=>(Ju r.rows_).bind fun a=>(Ju r.columns_).bind fun b=>some {rows_:=a,columns_:=b}) none
noncomputable def qdv (a : qj) (b : Int) : Option Bool:=
  (cond (decide (a.Lo≤b)) (some (decide (b < a.Hi))) (some false)).bind fun c=>some c
noncomputable def q1r (a : List qj) (b : Int) : Option Bool:=
  (q6k a (fun c=>qdv c b)).bind fun d=>some d
noncomputable def q7c (b : Yd) (a : qc) : Option (Bool × Bool × Bool × Bool):=
  (q1r (K7 [] a.Y b.rows_) a.X).bind fun c=>(q1r (K7 [] a.X b.columns_) a.Y).bind fun d=>(q1r (K7 [] a.Y b.rows_) (w64 (a.X - 1))).bind fun f=>(q1r (K7 [] a.X b.columns_) (w64 (a.Y - 1))).bind fun g=>some (c,d,f,g)
noncomputable def qbp (b : Yd) (c : qc) : Option Bool:=
  (q7c b c).bind fun a=>(cond ((a.1 == false) && ((a.2.1 == false) && ((a.2.2.1 == false) && ((a.2.2.2 == false) && true)))) (some ((a.1 == false) && ((a.2.1 == false) && ((a.2.2.1 == false) && ((a.2.2.2 == false) && true))))) (cond ((a.1 == true) && ((a.2.1 == false) && ((a.2.2.1 == true) && ((a.2.2.2 == false) && true)))) (some ((a.1 == true) && ((a.2.1 == false) && ((a.2.2.1 == true) && ((a.2.2.2 == false) && true))))) (some ((a.1 == false) && ((a.2.1 == true) && ((a.2.2.1 == false) && ((a.2.2.2 == true) && true))))))).bind fun d=>cond d (some false) (some true)
noncomputable def q3k (a : qc) (c : List (Int × List qj)) (d : List (Int × List qj)) (b : List (qc × Bool)) : Option (List (qc × Bool)):=
  (qbp ({rows_:=c,columns_:=d} : Yd) ({X:=(a).X,Y:=(a).Y} : qc)).bind fun f=>cond f (some (Ke ({X:=(a).X,Y:=(a).Y} : qc) true b)) (some b)
noncomputable def q1t (a : qc) (b : qc) : Option Int:=
  cond (a.X != b.X) (some (w64 (a.X - b.X))) (some (w64 (a.Y - b.Y)))
noncomputable def q9x (c : Int) (d : qc→qc→Option Int) (a : Int × List qc) : Option ((Int × List qc) ⊕ (List qc)):=
  (cond (decide (a.1 > c)) ((idx a.2 a.1).bind fun f=>(idx a.2 (w64 (a.1 - 1))).bind fun g=>(d f g).bind fun h=>some (decide (h < 0))) (some false)).bind fun j=>cond j ((idx a.2 (w64 (a.1 - 1))).bind fun b=>(idx a.2 a.1).bind fun k=>(idx a.2 a.1).bind fun _=>(idx (a.2.set a.1.toNat b) (w64 (a.1 - 1))).bind fun _=>some (.inl (w64 (a.1 - 1),(a.2.set a.1.toNat b).set (w64 (a.1 - 1)).toNat k))) (some (.inr a.2))
noncomputable def q9w (b : Int) (c : Int) (d : qc→qc→Option Int) (a : Int × List qc) : Option ((Int × List qc) ⊕ (List qc)):=
  cond (decide (a.1 < b)) (((loop (q9x c d) (a.1,a.2)).bind fun f=>some f).bind fun g=>some (.inl (w64 (a.1 + 1),g))) (some (.inr a.2))
noncomputable def q9v (b : qc→qc→Option Int) (c : List qc) (a : Int) (d : Int) : Option (List qc):=
  (loop (q9w d a b) (w64 (a + 1),c)).bind fun f=>some f
noncomputable def qbb (d : Int) (b : Int) (f : qc→qc→Option Int) (a : Int × List qc) : Option ((Int × List qc) ⊕ (List qc)):=
  cond (decide ((w64 ((w64 (2 * a.1)) + 1)) ≥ d)) (some (.inr a.2)) ((cond (decide ((w64 ((w64 ((w64 (2 * a.1)) + 1)) + 1)) < d)) ((idx a.2 (w64 (b + (w64 ((w64 (2 * a.1)) + 1))))).bind fun h=>(idx a.2 (w64 ((w64 (b + (w64 ((w64 (2 * a.1)) + 1)))) + 1))).bind fun j=>(f h j).bind fun k=>some (decide (k < 0))) (some false)).bind fun l=>(cond l (some (w64 ((w64 ((w64 (2 * a.1)) + 1)) + 1))) (some (w64 ((w64 (2 * a.1)) + 1)))).bind fun c=>(idx a.2 (w64 (b + a.1))).bind fun m=>(idx a.2 (w64 (b + c))).bind fun n=>(f m n).bind fun o=>cond (!(decide (o < 0))) (some (.inr a.2)) ((idx a.2 (w64 (b + c))).bind fun g=>(idx a.2 (w64 (b + a.1))).bind fun p=>(idx a.2 (w64 (b + a.1))).bind fun _=>(idx (a.2.set (w64 (b + a.1)).toNat g) (w64 (b + c))).bind fun _=>some (.inl (c,(a.2.set (w64 (b + a.1)).toNat g).set (w64 (b + c)).toNat p))))
noncomputable def q76 (a : qc→qc→Option Int) (b : List qc) (c : Int) (d : Int) (f : Int) : Option (List qc):=
  (loop (qbb d f a) (c,b)).bind fun g=>some g
noncomputable def q9n (d : qc→qc→Option Int) (f : Int) (b : Int) (a : Int × List qc) : Option ((Int × List qc) ⊕ (List qc)):=
  cond (decide (a.1 ≥ 0)) ((q76 d a.2 a.1 (w64 (f - b)) b).bind fun c=>(K2 c.length a.2.length).bind fun _=>some (.inl (w64 (a.1 - 1),c))) (some (.inr a.2))
noncomputable def q9o (b : Int) (g : qc→qc→Option Int) (a : Int × List qc) : Option ((Int × List qc) ⊕ (List qc)):=
  cond (decide (a.1 ≥ 0)) ((idx a.2 (w64 (b + a.1))).bind fun c=>(idx a.2 b).bind fun d=>(idx a.2 b).bind fun _=>(idx (a.2.set b.toNat c) (w64 (b + a.1))).bind fun _=>(q76 g ((a.2.set b.toNat c).set (w64 (b + a.1)).toNat d) 0 a.1 b).bind fun f=>(K2 f.length ((a.2.set b.toNat c).set (w64 (b + a.1)).toNat d).length).bind fun _=>some (.inl (w64 (a.1 - 1),f))) (some (.inr a.2))
noncomputable def q9m (c : qc→qc→Option Int) (d : List qc) (a : Int) (b : Int) : Option (List qc):=
  (loop (q9n c b a) (w64 (Int.tdiv (w64 ((w64 (b - a)) - 1)) 2),d)).bind fun f=>(loop (q9o a c) (w64 ((w64 (b - a)) - 1),f)).bind fun g=>some g
noncomputable def q4w (f : qc→qc→Option Int) (c : List qc) (a : Int) (b : Int) (d : Int) : Option (Int × Int × Int):=
  (idx c b).bind fun g=>(idx c a).bind fun h=>(f g h).bind fun j=>cond (decide (j < 0)) (some (b,a,w64 (d + 1))) (some (a,b,d))
noncomputable def q6o (a : qc→qc→Option Int) (b : List qc) (g : Int) (h : Int) (j : Int) (k : Int) : Option (Int × Int):=
  (q4w a b g h k).bind fun c=>(q4w a b c.2.1 j c.2.2).bind fun d=>(q4w a b c.1 d.1 d.2.2).bind fun f=>some (f.2.1,f.2.2)
noncomputable def q4t (c : qc→qc→Option Int) (d : List qc) (a : Int) (f : Int) : Option (Int × Int):=
  (q6o c d (w64 (a - 1)) a (w64 (a + 1)) f).bind fun b=>some (b.1,b.2)
noncomputable def q9h (d : List qc) (a : Int) (b : Int) (f : qc→qc→Option Int) : Option (Int × Int):=
  (cond (decide ((w64 (b - a)) ≥ 8)) ((cond (decide ((w64 (b - a)) ≥ 50)) ((q4t f d (w64 (a + (w64 ((w64 (Int.tdiv (w64 (b - a)) 4)) * 1)))) 0).bind fun h=>(q4t f d (w64 (a + (w64 ((w64 (Int.tdiv (w64 (b - a)) 4)) * 2)))) h.2).bind fun j=>(q4t f d (w64 (a + (w64 ((w64 (Int.tdiv (w64 (b - a)) 4)) * 3)))) j.2).bind fun k=>some (h.1,j.1,k.1,k.2)) (some (w64 (a + (w64 ((w64 (Int.tdiv (w64 (b - a)) 4)) * 1))),w64 (a + (w64 ((w64 (Int.tdiv (w64 (b - a)) 4)) * 2))),w64 (a + (w64 ((w64 (Int.tdiv (w64 (b - a)) 4)) * 3))),0))).bind fun g=>(q6o f d g.1 g.2.1 g.2.2.1 g.2.2.2).bind fun l=>some (l.1,l.2)) (some (w64 (a + (w64 ((w64 (Int.tdiv (w64 (b - a)) 4)) * 2))),0))).bind fun c=>cond (c.2 == 0) (some (c.1,1)) (cond (c.2 == 12) (some (c.1,2)) (some (c.1,0)))
noncomputable def qb7 (a : Int × Int × List qc) : Option ((Int × Int × List qc) ⊕ (List qc)):=
  cond (decide (a.1 < a.2.1)) ((idx a.2.2 a.2.1).bind fun b=>(idx a.2.2 a.1).bind fun c=>(idx a.2.2 a.1).bind fun _=>(idx (a.2.2.set a.1.toNat b) a.2.1).bind fun _=>some (.inl (w64 (a.1 + 1),w64 (a.2.1 - 1),(a.2.2.set a.1.toNat b).set a.2.1.toNat c))) (some (.inr a.2.2))
noncomputable def qb6 (f : qc→qc→Option Int) (a : List qc) (b : Int) (c : Int) : Option (List qc):=
  (loop qb7 (b,w64 (c - 1),a)).bind fun d=>some d
noncomputable def qa4 (c : Int) (b : Int × Int × List qc) (d : qc→qc→Option Int) (a : Int) : Option ((Int) ⊕ (Int)):=
  (cond (decide (a < c)) ((idx b.2.2 a).bind fun f=>(idx b.2.2 (w64 (a - 1))).bind fun g=>(d f g).bind fun h=>some (!(decide (h < 0)))) (some false)).bind fun j=>cond j (some (.inl (w64 (a + 1)))) (some (.inr a))
noncomputable def qa5 (c : qc→qc→Option Int) (a : Int × List qc) : Option ((Int × List qc) ⊕ (List qc)):=
  cond (decide (a.1 ≥ 1)) ((idx a.2 a.1).bind fun d=>(idx a.2 (w64 (a.1 - 1))).bind fun f=>(c d f).bind fun g=>cond (!(decide (g < 0))) (some (.inr a.2)) ((idx a.2 (w64 (a.1 - 1))).bind fun b=>(idx a.2 a.1).bind fun h=>(idx a.2 a.1).bind fun _=>(idx (a.2.set a.1.toNat b) (w64 (a.1 - 1))).bind fun _=>some (.inl (w64 (a.1 - 1),(a.2.set a.1.toNat b).set (w64 (a.1 - 1)).toNat h)))) (some (.inr a.2))
noncomputable def qa6 (d : Int) (f : qc→qc→Option Int) (b : Int) (a : Int × List qc) : Option ((Int × List qc) ⊕ (Int × List qc)):=
  cond (decide (a.1 < d)) ((idx a.2 a.1).bind fun g=>(idx a.2 (w64 (a.1 - 1))).bind fun h=>(f g h).bind fun j=>cond (!(decide (j < 0))) (some (.inr (b,a.2))) ((idx a.2 (w64 (a.1 - 1))).bind fun c=>(idx a.2 a.1).bind fun k=>(idx a.2 a.1).bind fun _=>(idx (a.2.set a.1.toNat c) (w64 (a.1 - 1))).bind fun _=>some (.inl (w64 (a.1 + 1),(a.2.set a.1.toNat c).set (w64 (a.1 - 1)).toNat k)))) (some (.inr (b,a.2)))
noncomputable def q6t (c : Int) (d : qc→qc→Option Int) (h : Int) (b : Int × Int × List qc) : Option ((Int × Int × List qc) ⊕ ((List qc) ⊕ (Bool × List qc))):=
  cond (decide (b.2.1 < 5)) (((loop (qa4 c b d) b.1).bind fun a=>cond (a == c) (some (.inr (true,b.2.2))) (cond (decide ((w64 (c - h)) < 50)) (some (.inr (false,b.2.2))) ((idx b.2.2 (w64 (a - 1))).bind fun f=>(idx b.2.2 a).bind fun j=>(idx b.2.2 a).bind fun _=>(idx (b.2.2.set a.toNat f) (w64 (a - 1))).bind fun _=>(cond (decide ((w64 (a - h)) ≥ 2)) ((loop (qa5 d) (w64 (a - 1),(b.2.2.set a.toNat f).set (w64 (a - 1)).toNat j)).bind fun g=>some g) (some ((b.2.2.set a.toNat f).set (w64 (a - 1)).toNat j))).bind fun k=>cond (decide ((w64 (c - a)) ≥ 2)) ((loop (qa6 c d a) (w64 (a + 1),k)).bind fun g=>some (.inl g)) (some (.inl (a,k))))) : Option ((Int × List qc) ⊕ (Bool × List qc))).bind fun m=>(match m with | .inl l=>some (.inl (l.1,w64 (b.2.1 + 1),l.2)) | .inr n=>some (.inr (.inr n)))) (some (.inr (.inl b.2.2)))
noncomputable def q6s (b : qc→qc→Option Int) (c : List qc) (a : Int) (d : Int) : Option (Bool × List qc):=
  (loop (q6t d b a) (w64 (a + 1),0,c) : Option ((List qc) ⊕ (Bool × List qc))).bind fun f=>(match f with | .inl g=>some (false,g) | .inr h=>some h)
noncomputable def qay (b : Int × Int × List qc) (c : Int) (d : qc→qc→Option Int) (a : Int) : Option ((Int) ⊕ (Int)):=
  (cond (decide (a≤b.2.1)) ((idx b.2.2 c).bind fun f=>(idx b.2.2 a).bind fun g=>(d f g).bind fun h=>some (!(decide (h < 0)))) (some false)).bind fun j=>cond j (some (.inl (w64 (a + 1)))) (some (.inr a))
noncomputable def qaz (c : Int) (b : Int × Int × List qc) (d : Int) (f : qc→qc→Option Int) (a : Int) : Option ((Int) ⊕ (Int)):=
  (cond (decide (c≤a)) ((idx b.2.2 d).bind fun g=>(idx b.2.2 a).bind fun h=>(f g h).bind fun j=>some (decide (j < 0))) (some false)).bind fun k=>cond k (some (.inl (w64 (a - 1)))) (some (.inr a))
noncomputable def qax (d : Int) (f : qc→qc→Option Int) (a : Int × Int × List qc) : Option ((Int × Int × List qc) ⊕ (Int × List qc)):=
  (loop (qay a d f) a.1).bind fun b=>(loop (qaz b a d f) a.2.1).bind fun c=>cond (decide (b > c)) (some (.inr (b,a.2.2))) ((idx a.2.2 c).bind fun g=>(idx a.2.2 b).bind fun h=>(idx a.2.2 b).bind fun _=>(idx (a.2.2.set b.toNat g) c).bind fun _=>some (.inl (w64 (b + 1),w64 (c - 1),(a.2.2.set b.toNat g).set c.toNat h)))
noncomputable def qaw (g : qc→qc→Option Int) (b : List qc) (a : Int) (h : Int) (c : Int) : Option (Int × List qc):=
  (idx b c).bind fun d=>(idx b a).bind fun j=>(idx b a).bind fun _=>(idx (b.set a.toNat d) c).bind fun _=>(loop (qax a g) (w64 (a + 1),w64 (h - 1),(b.set a.toNat d).set c.toNat j)).bind fun f=>some (f.1,f.2)
noncomputable def qah (h : Int) (c : List qc) (b : Int) (d : qc) (f : Int) (g : qc) (j : qc→qc→Option Int) (a : Int) : Option ((Int) ⊕ (Int)):=
  (cond (decide (a≤(w64 (h - 1)))) ((idx ((c.set b.toNat d).set f.toNat g) a).bind fun k=>(idx ((c.set b.toNat d).set f.toNat g) b).bind fun l=>(j k l).bind fun m=>some (decide (m < 0))) (some false)).bind fun n=>cond n (some (.inl (w64 (a + 1)))) (some (.inr a))
noncomputable def qai (h : Int) (c : List qc) (b : Int) (d : qc) (f : Int) (g : qc) (j : qc→qc→Option Int) (a : Int) : Option ((Int) ⊕ (Int)):=
  (cond (decide (h≤a)) ((idx ((c.set b.toNat d).set f.toNat g) a).bind fun k=>(idx ((c.set b.toNat d).set f.toNat g) b).bind fun l=>(j k l).bind fun m=>some (!(decide (m < 0)))) (some false)).bind fun n=>cond n (some (.inl (w64 (a - 1)))) (some (.inr a))
noncomputable def qak (b : Int × Int × List qc) (c : Int) (d : qc→qc→Option Int) (a : Int) : Option ((Int) ⊕ (Int)):=
  (cond (decide (a≤b.2.1)) ((idx b.2.2 a).bind fun f=>(idx b.2.2 c).bind fun g=>(d f g).bind fun h=>some (decide (h < 0))) (some false)).bind fun j=>cond j (some (.inl (w64 (a + 1)))) (some (.inr a))
noncomputable def qal (c : Int) (b : Int × Int × List qc) (d : Int) (f : qc→qc→Option Int) (a : Int) : Option ((Int) ⊕ (Int)):=
  (cond (decide (c≤a)) ((idx b.2.2 a).bind fun g=>(idx b.2.2 d).bind fun h=>(f g h).bind fun j=>some (!(decide (j < 0)))) (some false)).bind fun k=>cond k (some (.inl (w64 (a - 1)))) (some (.inr a))
noncomputable def qaj (d : Int) (f : qc→qc→Option Int) (a : Int × Int × List qc) : Option ((Int × Int × List qc) ⊕ (Int × List qc)):=
  (loop (qak a d f) a.1).bind fun b=>(loop (qal b a d f) a.2.1).bind fun c=>cond (decide (b > c)) (some (.inr (c,a.2.2))) ((idx a.2.2 c).bind fun g=>(idx a.2.2 b).bind fun h=>(idx a.2.2 b).bind fun _=>(idx (a.2.2.set b.toNat g) c).bind fun _=>some (.inl (w64 (b + 1),w64 (c - 1),(a.2.2.set b.toNat g).set c.toNat h)))
noncomputable def qag (k : qc→qc→Option Int) (b : List qc) (a : Int) (l : Int) (c : Int) : Option (Int × Bool × List qc):=
  (idx b c).bind fun d=>(idx b a).bind fun f=>(idx b a).bind fun _=>(idx (b.set a.toNat d) c).bind fun _=>(loop (qah l b a d c f k) (w64 (a + 1))).bind fun j=>(loop (qai j b a d c f k) (w64 (l - 1))).bind fun g=>cond (decide (j > g)) ((idx ((b.set a.toNat d).set c.toNat f) a).bind fun m=>(idx ((b.set a.toNat d).set c.toNat f) g).bind fun p=>(idx ((b.set a.toNat d).set c.toNat f) g).bind fun _=>(idx (((b.set a.toNat d).set c.toNat f).set g.toNat m) a).bind fun _=>some (g,true,(((b.set a.toNat d).set c.toNat f).set g.toNat m).set a.toNat p)) ((idx ((b.set a.toNat d).set c.toNat f) g).bind fun n=>(idx ((b.set a.toNat d).set c.toNat f) j).bind fun q=>(idx ((b.set a.toNat d).set c.toNat f) j).bind fun _=>(idx (((b.set a.toNat d).set c.toNat f).set j.toNat n) g).bind fun _=>(loop (qaj a k) (w64 (j + 1),w64 (g - 1),(((b.set a.toNat d).set c.toNat f).set j.toNat n).set g.toNat q)).bind fun h=>(idx h.2 a).bind fun o=>(idx h.2 h.1).bind fun r=>(idx h.2 h.1).bind fun _=>(idx (h.2.set h.1.toNat o) a).bind fun _=>some (h.1,false,(h.2.set h.1.toNat o).set a.toNat r))
noncomputable def q9d (b : Int) (d : Int) (f : Int) (a : Int × List qc × Int) : Option ((Int × List qc × Int) ⊕ (List qc)):=
  cond (decide (a.1≤(w64 ((w64 (b + (w64 ((w64 (Int.tdiv (w64 (d - b)) 4)) * 2)))) + 1)))) ((Uw a.2.2).bind fun c=>(cond (decide ((w64 (andI .u64 c (IntKind.wrap .u64 (f - 1)))) ≥ (w64 (d - b)))) (some (w64 ((w64 (andI .u64 c (IntKind.wrap .u64 (f - 1)))) - (w64 (d - b))))) (some (w64 (andI .u64 c (IntKind.wrap .u64 (f - 1)))))).bind fun g=>(idx a.2.1 (w64 (b + g))).bind fun h=>(idx a.2.1 a.1).bind fun j=>(idx a.2.1 a.1).bind fun _=>(idx (a.2.1.set a.1.toNat h) (w64 (b + g))).bind fun _=>some (.inl (w64 (a.1 + 1),(a.2.1.set a.1.toNat h).set (w64 (b + g)).toNat j,c))) (some (.inr a.2.1))
noncomputable def q9c (g : qc→qc→Option Int) (c : List qc) (a : Int) (b : Int) : Option (List qc):=
  cond (decide ((w64 (b - a)) ≥ 8)) ((Uv (w64 (b - a))).bind fun d=>(loop (q9d a b d) (w64 ((w64 (a + (w64 ((w64 (Int.tdiv (w64 (b - a)) 4)) * 2)))) - 1),c,IntKind.wrap .u64 (w64 (b - a)))).bind fun f=>some f) (some c)
noncomputable def q70 (c : qc→qc→Option Int) (rec : List qc→Int→Int→Int→Option (List qc)) (a : Int × Int × Int × Bool × Bool × List qc) : Option ((Int × Int × Int × Bool × Bool × List qc) ⊕ (List qc)):=
  cond (decide ((w64 (a.2.1 - a.1))≤12)) ((q9v c a.2.2.2.2.2 a.1 a.2.1).bind fun l=>(K2 l.length a.2.2.2.2.2.length).bind fun _=>some (.inr l)) (cond (a.2.2.1 == 0) ((q9m c a.2.2.2.2.2 a.1 a.2.1).bind fun m=>(K2 m.length a.2.2.2.2.2.length).bind fun _=>some (.inr m)) ((cond (!a.2.2.2.1) ((q9c c a.2.2.2.2.2 a.1 a.2.1).bind fun n=>(K2 n.length a.2.2.2.2.2.length).bind fun _=>some (w64 (a.2.2.1 - 1),n)) (some (a.2.2.1,a.2.2.2.2.2))).bind fun d=>(q9h d.2 a.1 a.2.1 c).bind fun h=>(cond (h.2 == 2) ((qb6 c d.2 a.1 a.2.1).bind fun o=>(K2 o.length d.2.length).bind fun _=>some (w64 ((w64 (a.2.1 - 1)) - (w64 (h.1 - a.1))),1,o)) (some (h.1,h.2,d.2))).bind fun f=>(cond a.2.2.2.1 (some a.2.2.2.2.1) (some false)).bind fun r=>(cond r (some (f.2.1 == 1)) (some false)).bind fun s=>(cond s ((q6s c f.2.2 a.1 a.2.1).bind fun j=>(K2 j.2.length f.2.2.length).bind fun _=>cond j.1 (some (.inr j.2)) (some (.inl j.2))) (some (.inl f.2.2)) : Option ((List qc) ⊕ (List qc))).bind fun t=>(match t with | .inl g=>(cond (decide (a.1 > 0)) ((idx g (w64 (a.1 - 1))).bind fun u=>(idx g f.1).bind fun v=>(c u v).bind fun w=>some (!(decide (w < 0)))) (some false)).bind fun x=>cond x ((qaw c g a.1 a.2.1 f.1).bind fun k=>(K2 k.2.length g.length).bind fun _=>some (.inl (k.1,a.2.1,d.1,a.2.2.2.1,a.2.2.2.2.1,k.2))) ((qag c g a.1 a.2.1 f.1).bind fun b=>(K2 b.2.2.length g.length).bind fun _=>cond (decide ((w64 (b.1 - a.1)) < (w64 (a.2.1 - b.1)))) ((rec b.2.2 a.1 b.1 d.1).bind fun p=>(K2 p.length b.2.2.length).bind fun _=>some (.inl (w64 (b.1 + 1),a.2.1,d.1,decide ((w64 (b.1 - a.1)) ≥ (w64 (Int.tdiv (w64 (a.2.1 - a.1)) 8))),b.2.1,p))) ((rec b.2.2 (w64 (b.1 + 1)) a.2.1 d.1).bind fun q=>(K2 q.length b.2.2.length).bind fun _=>some (.inl (a.1,b.1,d.1,decide ((w64 (a.2.1 - b.1)) ≥ (w64 (Int.tdiv (w64 (a.2.1 - a.1)) 8))),b.2.1,q)))) | .inr y=>some (.inr y))))
noncomputable def q71 (rec : List qc→Int→Int→Int→Option (List qc)) (a : qc→qc→Option Int) (b : List qc) (c : Int) (d : Int) (f : Int) : Option (List qc):=
  (loop (q70 a rec) (c,d,f,true,true,b)).bind fun g=>some g
noncomputable def q6z : Nat→(qc→qc→Option Int)→List qc→Int→Int→Int→Option (List qc)
  | 0,_,_,_,_,_=>none
  | n + 1,a,b,c,d,f=>q71 (q6z n a) a b c d f
noncomputable def q6l (c : qc→qc→Option Int) (a : List qc) : Option (List qc):=
  (U3 (IntKind.wrap .u64 (a.length : Int))).bind fun d=>(lim (fun n=>q6z n c a 0 (a.length : Int) d)).bind fun b=>(K2 b.length a.length).bind fun _=>some b
noncomputable def q3m (c : qj) (b : Int × List qj) (d : (List (qc × Bool))) (a : Int × List qj) : Option (((List (qc × Bool))) ⊕ (Empty)):=
  (cond (decide (a.1 > c.Lo)) (some (decide (a.1 < c.Hi))) (some false)).bind fun f=>(cond f ((q1r a.2 b.1).bind fun g=>(cond g (some true) ((q1r a.2 (w64 (b.1 - 1))).bind fun h=>some h)).bind fun j=>some j) (some false)).bind fun k=>cond k (some (.inl (Ke ({X:=a.1,Y:=b.1} : qc) true d))) (some (.inl d))
noncomputable def q3l (a : Int × List qj) (b : Yd) (c : Int × (List (qc × Bool))) : Option ((Int × (List (qc × Bool))) ⊕ (((List (qc × Bool))) ⊕ (List qc × Bool))):=
  cond (decide (c.1 < (a.2.length : Int))) ((idx a.2 c.1).bind fun d=>(q3k ({X:=d.Lo,Y:=a.1} : qc) b.rows_ b.columns_ c.2).bind fun h=>(q3k ({X:=d.Hi,Y:=a.1} : qc) b.rows_ b.columns_ h).bind fun f=>(Ut (fun (x y : (List (qc × Bool)))=>List.Perm x y) (q3m d a) b.columns_ (f : (List (qc × Bool)))).bind fun _=>(Kt (q3m d a) b.columns_ (f : (List (qc × Bool)))).bind fun j=>(match j with | .inl g=>cond (decide ((g.length : Int) > 400)) (some (.inr (.inr ([],false)))) (some (.inl (w64 (c.1 + 1),g))) | .inr k=>k.elim)) (some (.inr (.inl c.2)))
noncomputable def Uy (a : Yd) (b : (List (qc × Bool))) (c : Int × List qj) : Option (((List (qc × Bool))) ⊕ (List qc × Bool)):=
  (loop (q3l c a) (0,b) : Option (((List (qc × Bool))) ⊕ (List qc × Bool))).bind fun d=>(match d with | .inl f=>some (.inl f) | .inr g=>some (.inr g))
noncomputable def q55 (b : Int × List qj) (c : Yd) (a : Int × (List (qc × Bool))) : Option ((Int × (List (qc × Bool))) ⊕ ((List (qc × Bool)))):=
  cond (decide (a.1 < (b.2.length : Int))) ((idx b.2 a.1).bind fun d=>(q3k ({X:=b.1,Y:=d.Lo} : qc) c.rows_ c.columns_ a.2).bind fun f=>(q3k ({X:=b.1,Y:=d.Hi} : qc) c.rows_ c.columns_ f).bind fun g=>some (.inl (w64 (a.1 + 1),g))) (some (.inr a.2))
noncomputable def q3n (a : Yd) (b : (List (qc × Bool))) (c : Int × List qj) : Option (((List (qc × Bool))) ⊕ (Empty)):=
  (loop (q55 c a) (0,b)).bind fun d=>some (.inl d)
noncomputable def q2q (a : List qc) (b : qc × Bool) : Option ((List qc) ⊕ Empty):=
  (app 16 a [b.1]).bind fun c=>some (.inl c)
noncomputable def q3o (a : List qc) : Option (List qc × Bool):=
  (q6l (fun c d=>q1t c d) a).bind fun b=>(K2 b.length a.length).bind fun _=>some (b,decide ((a.length : Int)≤400))
noncomputable def q7d (a : Yd) : Option (List qc × Bool):=
  (Ut (fun (x y : (List (qc × Bool)))=>List.Perm x y) (Uy a) a.rows_ (([] : List (qc × Bool)) : (List (qc × Bool)))).bind fun _=>(Kt (Uy a) a.rows_ (([] : List (qc × Bool)) : (List (qc × Bool)))).bind fun f=>(match f with | .inl c=>(Ut (fun (x y : (List (qc × Bool)))=>List.Perm x y) (q3n a) a.columns_ (c : (List (qc × Bool)))).bind fun _=>(Kt (q3n a) a.columns_ (c : (List (qc × Bool)))).bind fun g=>(match g with | .inl d=>(q4q (fun l=>(Kt (q2q) l (([] : List qc) : List qc)).bind (q7e (q3o))) d).bind fun _=>(Kt (q2q) d (([] : List qc) : List qc)).bind (q7e (q3o)) | .inr b=>b.elim) | .inr b=>some b)
noncomputable def q2p (a : qm) (b : qm) : Option Int:=
  (q1t ({X:=a.A,Y:=a.B} : qc) ({X:=b.A,Y:=b.B} : qc)).bind fun c=>some c
noncomputable def q9u (c : Int) (d : qm→qm→Option Int) (a : Int × List qm) : Option ((Int × List qm) ⊕ (List qm)):=
  (cond (decide (a.1 > c)) ((idx a.2 a.1).bind fun f=>(idx a.2 (w64 (a.1 - 1))).bind fun g=>(d f g).bind fun h=>some (decide (h < 0))) (some false)).bind fun j=>cond j ((idx a.2 (w64 (a.1 - 1))).bind fun b=>(idx a.2 a.1).bind fun k=>(idx a.2 a.1).bind fun _=>(idx (a.2.set a.1.toNat b) (w64 (a.1 - 1))).bind fun _=>some (.inl (w64 (a.1 - 1),(a.2.set a.1.toNat b).set (w64 (a.1 - 1)).toNat k))) (some (.inr a.2))
noncomputable def q9t (b : Int) (c : Int) (d : qm→qm→Option Int) (a : Int × List qm) : Option ((Int × List qm) ⊕ (List qm)):=
  cond (decide (a.1 < b)) (((loop (q9u c d) (a.1,a.2)).bind fun f=>some f).bind fun g=>some (.inl (w64 (a.1 + 1),g))) (some (.inr a.2))
noncomputable def q9s (b : qm→qm→Option Int) (c : List qm) (a : Int) (d : Int) : Option (List qm):=
  (loop (q9t d a b) (w64 (a + 1),c)).bind fun f=>some f
noncomputable def qba (d : Int) (b : Int) (f : qm→qm→Option Int) (a : Int × List qm) : Option ((Int × List qm) ⊕ (List qm)):=
  cond (decide ((w64 ((w64 (2 * a.1)) + 1)) ≥ d)) (some (.inr a.2)) ((cond (decide ((w64 ((w64 ((w64 (2 * a.1)) + 1)) + 1)) < d)) ((idx a.2 (w64 (b + (w64 ((w64 (2 * a.1)) + 1))))).bind fun h=>(idx a.2 (w64 ((w64 (b + (w64 ((w64 (2 * a.1)) + 1)))) + 1))).bind fun j=>(f h j).bind fun k=>some (decide (k < 0))) (some false)).bind fun l=>(cond l (some (w64 ((w64 ((w64 (2 * a.1)) + 1)) + 1))) (some (w64 ((w64 (2 * a.1)) + 1)))).bind fun c=>(idx a.2 (w64 (b + a.1))).bind fun m=>(idx a.2 (w64 (b + c))).bind fun n=>(f m n).bind fun o=>cond (!(decide (o < 0))) (some (.inr a.2)) ((idx a.2 (w64 (b + c))).bind fun g=>(idx a.2 (w64 (b + a.1))).bind fun p=>(idx a.2 (w64 (b + a.1))).bind fun _=>(idx (a.2.set (w64 (b + a.1)).toNat g) (w64 (b + c))).bind fun _=>some (.inl (c,(a.2.set (w64 (b + a.1)).toNat g).set (w64 (b + c)).toNat p))))
noncomputable def q75 (a : qm→qm→Option Int) (b : List qm) (c : Int) (d : Int) (f : Int) : Option (List qm):=
  (loop (qba d f a) (c,b)).bind fun g=>some g
noncomputable def q9k (d : qm→qm→Option Int) (f : Int) (b : Int) (a : Int × List qm) : Option ((Int × List qm) ⊕ (List qm)):=
  cond (decide (a.1 ≥ 0)) ((q75 d a.2 a.1 (w64 (f - b)) b).bind fun c=>(K2 c.length a.2.length).bind fun _=>some (.inl (w64 (a.1 - 1),c))) (some (.inr a.2))
noncomputable def q9l (b : Int) (g : qm→qm→Option Int) (a : Int × List qm) : Option ((Int × List qm) ⊕ (List qm)):=
  cond (decide (a.1 ≥ 0)) ((idx a.2 (w64 (b + a.1))).bind fun c=>(idx a.2 b).bind fun d=>(idx a.2 b).bind fun _=>(idx (a.2.set b.toNat c) (w64 (b + a.1))).bind fun _=>(q75 g ((a.2.set b.toNat c).set (w64 (b + a.1)).toNat d) 0 a.1 b).bind fun f=>(K2 f.length ((a.2.set b.toNat c).set (w64 (b + a.1)).toNat d).length).bind fun _=>some (.inl (w64 (a.1 - 1),f))) (some (.inr a.2))
noncomputable def q9j (c : qm→qm→Option Int) (d : List qm) (a : Int) (b : Int) : Option (List qm):=
  (loop (q9k c b a) (w64 (Int.tdiv (w64 ((w64 (b - a)) - 1)) 2),d)).bind fun f=>(loop (q9l a c) (w64 ((w64 (b - a)) - 1),f)).bind fun g=>some g
noncomputable def q4v (f : qm→qm→Option Int) (c : List qm) (a : Int) (b : Int) (d : Int) : Option (Int × Int × Int):=
  (idx c b).bind fun g=>(idx c a).bind fun h=>(f g h).bind fun j=>cond (decide (j < 0)) (some (b,a,w64 (d + 1))) (some (a,b,d))
noncomputable def q6n (a : qm→qm→Option Int) (b : List qm) (g : Int) (h : Int) (j : Int) (k : Int) : Option (Int × Int):=
  (q4v a b g h k).bind fun c=>(q4v a b c.2.1 j c.2.2).bind fun d=>(q4v a b c.1 d.1 d.2.2).bind fun f=>some (f.2.1,f.2.2)
noncomputable def q4s (c : qm→qm→Option Int) (d : List qm) (a : Int) (f : Int) : Option (Int × Int):=
  (q6n c d (w64 (a - 1)) a (w64 (a + 1)) f).bind fun b=>some (b.1,b.2)
noncomputable def q9g (d : List qm) (a : Int) (b : Int) (f : qm→qm→Option Int) : Option (Int × Int):=
  (cond (decide ((w64 (b - a)) ≥ 8)) ((cond (decide ((w64 (b - a)) ≥ 50)) ((q4s f d (w64 (a + (w64 ((w64 (Int.tdiv (w64 (b - a)) 4)) * 1)))) 0).bind fun h=>(q4s f d (w64 (a + (w64 ((w64 (Int.tdiv (w64 (b - a)) 4)) * 2)))) h.2).bind fun j=>(q4s f d (w64 (a + (w64 ((w64 (Int.tdiv (w64 (b - a)) 4)) * 3)))) j.2).bind fun k=>some (h.1,j.1,k.1,k.2)) (some (w64 (a + (w64 ((w64 (Int.tdiv (w64 (b - a)) 4)) * 1))),w64 (a + (w64 ((w64 (Int.tdiv (w64 (b - a)) 4)) * 2))),w64 (a + (w64 ((w64 (Int.tdiv (w64 (b - a)) 4)) * 3))),0))).bind fun g=>(q6n f d g.1 g.2.1 g.2.2.1 g.2.2.2).bind fun l=>some (l.1,l.2)) (some (w64 (a + (w64 ((w64 (Int.tdiv (w64 (b - a)) 4)) * 2))),0))).bind fun c=>cond (c.2 == 0) (some (c.1,1)) (cond (c.2 == 12) (some (c.1,2)) (some (c.1,0)))
noncomputable def qb5 (a : Int × Int × List qm) : Option ((Int × Int × List qm) ⊕ (List qm)):=
  cond (decide (a.1 < a.2.1)) ((idx a.2.2 a.2.1).bind fun b=>(idx a.2.2 a.1).bind fun c=>(idx a.2.2 a.1).bind fun _=>(idx (a.2.2.set a.1.toNat b) a.2.1).bind fun _=>some (.inl (w64 (a.1 + 1),w64 (a.2.1 - 1),(a.2.2.set a.1.toNat b).set a.2.1.toNat c))) (some (.inr a.2.2))
noncomputable def qb4 (f : qm→qm→Option Int) (a : List qm) (b : Int) (c : Int) : Option (List qm):=
  (loop qb5 (b,w64 (c - 1),a)).bind fun d=>some d
noncomputable def qa1 (c : Int) (b : Int × Int × List qm) (d : qm→qm→Option Int) (a : Int) : Option ((Int) ⊕ (Int)):=
  (cond (decide (a < c)) ((idx b.2.2 a).bind fun f=>(idx b.2.2 (w64 (a - 1))).bind fun g=>(d f g).bind fun h=>some (!(decide (h < 0)))) (some false)).bind fun j=>cond j (some (.inl (w64 (a + 1)))) (some (.inr a))
noncomputable def qa2 (c : qm→qm→Option Int) (a : Int × List qm) : Option ((Int × List qm) ⊕ (List qm)):=
  cond (decide (a.1 ≥ 1)) ((idx a.2 a.1).bind fun d=>(idx a.2 (w64 (a.1 - 1))).bind fun f=>(c d f).bind fun g=>cond (!(decide (g < 0))) (some (.inr a.2)) ((idx a.2 (w64 (a.1 - 1))).bind fun b=>(idx a.2 a.1).bind fun h=>(idx a.2 a.1).bind fun _=>(idx (a.2.set a.1.toNat b) (w64 (a.1 - 1))).bind fun _=>some (.inl (w64 (a.1 - 1),(a.2.set a.1.toNat b).set (w64 (a.1 - 1)).toNat h)))) (some (.inr a.2))
noncomputable def qa3 (d : Int) (f : qm→qm→Option Int) (b : Int) (a : Int × List qm) : Option ((Int × List qm) ⊕ (Int × List qm)):=
  cond (decide (a.1 < d)) ((idx a.2 a.1).bind fun g=>(idx a.2 (w64 (a.1 - 1))).bind fun h=>(f g h).bind fun j=>cond (!(decide (j < 0))) (some (.inr (b,a.2))) ((idx a.2 (w64 (a.1 - 1))).bind fun c=>(idx a.2 a.1).bind fun k=>(idx a.2 a.1).bind fun _=>(idx (a.2.set a.1.toNat c) (w64 (a.1 - 1))).bind fun _=>some (.inl (w64 (a.1 + 1),(a.2.set a.1.toNat c).set (w64 (a.1 - 1)).toNat k)))) (some (.inr (b,a.2)))
noncomputable def q6r (c : Int) (d : qm→qm→Option Int) (h : Int) (b : Int × Int × List qm) : Option ((Int × Int × List qm) ⊕ ((List qm) ⊕ (Bool × List qm))):=
  cond (decide (b.2.1 < 5)) (((loop (qa1 c b d) b.1).bind fun a=>cond (a == c) (some (.inr (true,b.2.2))) (cond (decide ((w64 (c - h)) < 50)) (some (.inr (false,b.2.2))) ((idx b.2.2 (w64 (a - 1))).bind fun f=>(idx b.2.2 a).bind fun j=>(idx b.2.2 a).bind fun _=>(idx (b.2.2.set a.toNat f) (w64 (a - 1))).bind fun _=>(cond (decide ((w64 (a - h)) ≥ 2)) ((loop (qa2 d) (w64 (a - 1),(b.2.2.set a.toNat f).set (w64 (a - 1)).toNat j)).bind fun g=>some g) (some ((b.2.2.set a.toNat f).set (w64 (a - 1)).toNat j))).bind fun k=>cond (decide ((w64 (c - a)) ≥ 2)) ((loop (qa3 c d a) (w64 (a + 1),k)).bind fun g=>some (.inl g)) (some (.inl (a,k))))) : Option ((Int × List qm) ⊕ (Bool × List qm))).bind fun m=>(match m with | .inl l=>some (.inl (l.1,w64 (b.2.1 + 1),l.2)) | .inr n=>some (.inr (.inr n)))) (some (.inr (.inl b.2.2)))
noncomputable def q6q (b : qm→qm→Option Int) (c : List qm) (a : Int) (d : Int) : Option (Bool × List qm):=
  (loop (q6r d b a) (w64 (a + 1),0,c) : Option ((List qm) ⊕ (Bool × List qm))).bind fun f=>(match f with | .inl g=>some (false,g) | .inr h=>some h)
noncomputable def qau (b : Int × Int × List qm) (c : Int) (d : qm→qm→Option Int) (a : Int) : Option ((Int) ⊕ (Int)):=
  (cond (decide (a≤b.2.1)) ((idx b.2.2 c).bind fun f=>(idx b.2.2 a).bind fun g=>(d f g).bind fun h=>some (!(decide (h < 0)))) (some false)).bind fun j=>cond j (some (.inl (w64 (a + 1)))) (some (.inr a))
noncomputable def qav (c : Int) (b : Int × Int × List qm) (d : Int) (f : qm→qm→Option Int) (a : Int) : Option ((Int) ⊕ (Int)):=
  (cond (decide (c≤a)) ((idx b.2.2 d).bind fun g=>(idx b.2.2 a).bind fun h=>(f g h).bind fun j=>some (decide (j < 0))) (some false)).bind fun k=>cond k (some (.inl (w64 (a - 1)))) (some (.inr a))
noncomputable def qat (d : Int) (f : qm→qm→Option Int) (a : Int × Int × List qm) : Option ((Int × Int × List qm) ⊕ (Int × List qm)):=
  (loop (qau a d f) a.1).bind fun b=>(loop (qav b a d f) a.2.1).bind fun c=>cond (decide (b > c)) (some (.inr (b,a.2.2))) ((idx a.2.2 c).bind fun g=>(idx a.2.2 b).bind fun h=>(idx a.2.2 b).bind fun _=>(idx (a.2.2.set b.toNat g) c).bind fun _=>some (.inl (w64 (b + 1),w64 (c - 1),(a.2.2.set b.toNat g).set c.toNat h)))
noncomputable def qas (g : qm→qm→Option Int) (b : List qm) (a : Int) (h : Int) (c : Int) : Option (Int × List qm):=
  (idx b c).bind fun d=>(idx b a).bind fun j=>(idx b a).bind fun _=>(idx (b.set a.toNat d) c).bind fun _=>(loop (qat a g) (w64 (a + 1),w64 (h - 1),(b.set a.toNat d).set c.toNat j)).bind fun f=>some (f.1,f.2)
noncomputable def qab (h : Int) (c : List qm) (b : Int) (d : qm) (f : Int) (g : qm) (j : qm→qm→Option Int) (a : Int) : Option ((Int) ⊕ (Int)):=
  (cond (decide (a≤(w64 (h - 1)))) ((idx ((c.set b.toNat d).set f.toNat g) a).bind fun k=>(idx ((c.set b.toNat d).set f.toNat g) b).bind fun l=>(j k l).bind fun m=>some (decide (m < 0))) (some false)).bind fun n=>cond n (some (.inl (w64 (a + 1)))) (some (.inr a))
noncomputable def qac (h : Int) (c : List qm) (b : Int) (d : qm) (f : Int) (g : qm) (j : qm→qm→Option Int) (a : Int) : Option ((Int) ⊕ (Int)):=
  (cond (decide (h≤a)) ((idx ((c.set b.toNat d).set f.toNat g) a).bind fun k=>(idx ((c.set b.toNat d).set f.toNat g) b).bind fun l=>(j k l).bind fun m=>some (!(decide (m < 0)))) (some false)).bind fun n=>cond n (some (.inl (w64 (a - 1)))) (some (.inr a))
noncomputable def qae (b : Int × Int × List qm) (c : Int) (d : qm→qm→Option Int) (a : Int) : Option ((Int) ⊕ (Int)):=
  (cond (decide (a≤b.2.1)) ((idx b.2.2 a).bind fun f=>(idx b.2.2 c).bind fun g=>(d f g).bind fun h=>some (decide (h < 0))) (some false)).bind fun j=>cond j (some (.inl (w64 (a + 1)))) (some (.inr a))
noncomputable def qaf (c : Int) (b : Int × Int × List qm) (d : Int) (f : qm→qm→Option Int) (a : Int) : Option ((Int) ⊕ (Int)):=
  (cond (decide (c≤a)) ((idx b.2.2 a).bind fun g=>(idx b.2.2 d).bind fun h=>(f g h).bind fun j=>some (!(decide (j < 0)))) (some false)).bind fun k=>cond k (some (.inl (w64 (a - 1)))) (some (.inr a))
noncomputable def qad (d : Int) (f : qm→qm→Option Int) (a : Int × Int × List qm) : Option ((Int × Int × List qm) ⊕ (Int × List qm)):=
  (loop (qae a d f) a.1).bind fun b=>(loop (qaf b a d f) a.2.1).bind fun c=>cond (decide (b > c)) (some (.inr (c,a.2.2))) ((idx a.2.2 c).bind fun g=>(idx a.2.2 b).bind fun h=>(idx a.2.2 b).bind fun _=>(idx (a.2.2.set b.toNat g) c).bind fun _=>some (.inl (w64 (b + 1),w64 (c - 1),(a.2.2.set b.toNat g).set c.toNat h)))
noncomputable def qaa (k : qm→qm→Option Int) (b : List qm) (a : Int) (l : Int) (c : Int) : Option (Int × Bool × List qm):=
  (idx b c).bind fun d=>(idx b a).bind fun f=>(idx b a).bind fun _=>(idx (b.set a.toNat d) c).bind fun _=>(loop (qab l b a d c f k) (w64 (a + 1))).bind fun j=>(loop (qac j b a d c f k) (w64 (l - 1))).bind fun g=>cond (decide (j > g)) ((idx ((b.set a.toNat d).set c.toNat f) a).bind fun m=>(idx ((b.set a.toNat d).set c.toNat f) g).bind fun p=>(idx ((b.set a.toNat d).set c.toNat f) g).bind fun _=>(idx (((b.set a.toNat d).set c.toNat f).set g.toNat m) a).bind fun _=>some (g,true,(((b.set a.toNat d).set c.toNat f).set g.toNat m).set a.toNat p)) ((idx ((b.set a.toNat d).set c.toNat f) g).bind fun n=>(idx ((b.set a.toNat d).set c.toNat f) j).bind fun q=>(idx ((b.set a.toNat d).set c.toNat f) j).bind fun _=>(idx (((b.set a.toNat d).set c.toNat f).set j.toNat n) g).bind fun _=>(loop (qad a k) (w64 (j + 1),w64 (g - 1),(((b.set a.toNat d).set c.toNat f).set j.toNat n).set g.toNat q)).bind fun h=>(idx h.2 a).bind fun o=>(idx h.2 h.1).bind fun r=>(idx h.2 h.1).bind fun _=>(idx (h.2.set h.1.toNat o) a).bind fun _=>some (h.1,false,(h.2.set h.1.toNat o).set a.toNat r))
noncomputable def q9b (b : Int) (d : Int) (f : Int) (a : Int × List qm × Int) : Option ((Int × List qm × Int) ⊕ (List qm)):=
  cond (decide (a.1≤(w64 ((w64 (b + (w64 ((w64 (Int.tdiv (w64 (d - b)) 4)) * 2)))) + 1)))) ((Uw a.2.2).bind fun c=>(cond (decide ((w64 (andI .u64 c (IntKind.wrap .u64 (f - 1)))) ≥ (w64 (d - b)))) (some (w64 ((w64 (andI .u64 c (IntKind.wrap .u64 (f - 1)))) - (w64 (d - b))))) (some (w64 (andI .u64 c (IntKind.wrap .u64 (f - 1)))))).bind fun g=>(idx a.2.1 (w64 (b + g))).bind fun h=>(idx a.2.1 a.1).bind fun j=>(idx a.2.1 a.1).bind fun _=>(idx (a.2.1.set a.1.toNat h) (w64 (b + g))).bind fun _=>some (.inl (w64 (a.1 + 1),(a.2.1.set a.1.toNat h).set (w64 (b + g)).toNat j,c))) (some (.inr a.2.1))
noncomputable def q9a (g : qm→qm→Option Int) (c : List qm) (a : Int) (b : Int) : Option (List qm):=
  cond (decide ((w64 (b - a)) ≥ 8)) ((Uv (w64 (b - a))).bind fun d=>(loop (q9b a b d) (w64 ((w64 (a + (w64 ((w64 (Int.tdiv (w64 (b - a)) 4)) * 2)))) - 1),c,IntKind.wrap .u64 (w64 (b - a)))).bind fun f=>some f) (some c)
noncomputable def q6x (c : qm→qm→Option Int) (rec : List qm→Int→Int→Int→Option (List qm)) (a : Int × Int × Int × Bool × Bool × List qm) : Option ((Int × Int × Int × Bool × Bool × List qm) ⊕ (List qm)):=
  cond (decide ((w64 (a.2.1 - a.1))≤12)) ((q9s c a.2.2.2.2.2 a.1 a.2.1).bind fun l=>(K2 l.length a.2.2.2.2.2.length).bind fun _=>some (.inr l)) (cond (a.2.2.1 == 0) ((q9j c a.2.2.2.2.2 a.1 a.2.1).bind fun m=>(K2 m.length a.2.2.2.2.2.length).bind fun _=>some (.inr m)) ((cond (!a.2.2.2.1) ((q9a c a.2.2.2.2.2 a.1 a.2.1).bind fun n=>(K2 n.length a.2.2.2.2.2.length).bind fun _=>some (w64 (a.2.2.1 - 1),n)) (some (a.2.2.1,a.2.2.2.2.2))).bind fun d=>(q9g d.2 a.1 a.2.1 c).bind fun h=>(cond (h.2 == 2) ((qb4 c d.2 a.1 a.2.1).bind fun o=>(K2 o.length d.2.length).bind fun _=>some (w64 ((w64 (a.2.1 - 1)) - (w64 (h.1 - a.1))),1,o)) (some (h.1,h.2,d.2))).bind fun f=>(cond a.2.2.2.1 (some a.2.2.2.2.1) (some false)).bind fun r=>(cond r (some (f.2.1 == 1)) (some false)).bind fun s=>(cond s ((q6q c f.2.2 a.1 a.2.1).bind fun j=>(K2 j.2.length f.2.2.length).bind fun _=>cond j.1 (some (.inr j.2)) (some (.inl j.2))) (some (.inl f.2.2)) : Option ((List qm) ⊕ (List qm))).bind fun t=>(match t with | .inl g=>(cond (decide (a.1 > 0)) ((idx g (w64 (a.1 - 1))).bind fun u=>(idx g f.1).bind fun v=>(c u v).bind fun w=>some (!(decide (w < 0)))) (some false)).bind fun x=>cond x ((qas c g a.1 a.2.1 f.1).bind fun k=>(K2 k.2.length g.length).bind fun _=>some (.inl (k.1,a.2.1,d.1,a.2.2.2.1,a.2.2.2.2.1,k.2))) ((qaa c g a.1 a.2.1 f.1).bind fun b=>(K2 b.2.2.length g.length).bind fun _=>cond (decide ((w64 (b.1 - a.1)) < (w64 (a.2.1 - b.1)))) ((rec b.2.2 a.1 b.1 d.1).bind fun p=>(K2 p.length b.2.2.length).bind fun _=>some (.inl (w64 (b.1 + 1),a.2.1,d.1,decide ((w64 (b.1 - a.1)) ≥ (w64 (Int.tdiv (w64 (a.2.1 - a.1)) 8))),b.2.1,p))) ((rec b.2.2 (w64 (b.1 + 1)) a.2.1 d.1).bind fun q=>(K2 q.length b.2.2.length).bind fun _=>some (.inl (a.1,b.1,d.1,decide ((w64 (a.2.1 - b.1)) ≥ (w64 (Int.tdiv (w64 (a.2.1 - a.1)) 8))),b.2.1,q)))) | .inr y=>some (.inr y))))
noncomputable def q6y (rec : List qm→Int→Int→Int→Option (List qm)) (a : qm→qm→Option Int) (b : List qm) (c : Int) (d : Int) (f : Int) : Option (List qm):=
  (loop (q6x a rec) (c,d,f,true,true,b)).bind fun g=>some g
noncomputable def q6w : Nat→(qm→qm→Option Int)→List qm→Int→Int→Int→Option (List qm)
  | 0,_,_,_,_,_=>none
  | n + 1,a,b,c,d,f=>q6y (q6w n a) a b c d f
noncomputable def q4r (c : qm→qm→Option Int) (a : List qm) : Option (List qm):=
  (U3 (IntKind.wrap .u64 (a.length : Int))).bind fun d=>(lim (fun n=>q6w n c a 0 (a.length : Int) d)).bind fun b=>(K2 b.length a.length).bind fun _=>some b
noncomputable def q3j (c : List qc × Bool) (g : Yd) (a : Int × (List (Int × Int)) × (List (Int × Int)) × List qm) : Option ((Int × (List (Int × Int)) × (List (Int × Int)) × List qm) ⊕ (List qm)):=
  cond (decide (a.1 < (c.1.length : Int))) ((idx c.1 a.1).bind fun b=>(q7c g b).bind fun d=>(cond d.2.2.1 ((app 16 a.2.2.2 [({A:=K7 0 b.Y a.2.1,B:=a.1} : qm)]).bind fun h=>some h) (some a.2.2.2)).bind fun f=>(cond d.2.2.2 ((app 16 f [({A:=K7 0 b.X a.2.2.1,B:=a.1} : qm)]).bind fun j=>some j) (some f)).bind fun k=>some (.inl (w64 (a.1 + 1),Ke b.Y a.1 a.2.1,Ke b.X a.1 a.2.2.1,k))) (some (.inr a.2.2.2))
noncomputable def q54 (f : List Q6) : Option (K5 × Bool):=
  (qbo f).bind fun c=>(q7d c).bind fun a=>cond (!a.2) (some (({Nodes:=[],Edges:=[]} : K5),false)) ((loop (q3j a c) (0,[],[],[])).bind fun b=>(q4r (fun g h=>q2p g h) b).bind fun d=>(K2 d.length b.length).bind fun _=>some (({Nodes:=a.1,Edges:=d} : K5),decide ((b.length : Int)≤800)))
noncomputable def q1m (a : qc) : Option Bool:=
  (cond (decide (a.X ≥ (-1000000))) (some (decide (a.X≤1000000))) (some false)).bind fun b=>(cond b (some (decide (a.Y ≥ (-1000000)))) (some false)).bind fun c=>(cond c (some (decide (a.Y≤1000000))) (some false)).bind fun d=>some d
noncomputable def q94 (a : Q6) : Option Bool:=
  (cond (!((a.A.X == a.B.X) && ((a.A.Y == a.B.Y) && true))) ((cond (a.A.X == a.B.X) (some true) (some (a.A.Y == a.B.Y))).bind fun b=>some b) (some false)).bind fun c=>(cond c ((q1m a.A).bind fun d=>some d) (some false)).bind fun f=>(cond f ((q1m a.B).bind fun g=>some g) (some false)).bind fun h=>some h
structure Kb where
  At : Int
  Spans : List qj
  deriving DecidableEq
noncomputable def q4b (b : Int × List Int) (c : List Int) (a : Int) : Option ((Int) ⊕ (Int)):=
  (cond (decide (a > 0)) ((idx b.2 (w64 (a - 1))).bind fun d=>(idx c b.1).bind fun f=>some (decide (d > f))) (some false)).bind fun g=>cond g (some (.inl (w64 (a - 1)))) (some (.inr a))
noncomputable def q4a (d : List Int) (a : Int × List Int) : Option ((Int × List Int) ⊕ (List Int)):=
  cond (decide (a.1 < (d.length : Int))) (((loop (q4b a d) (a.2.length : Int)).bind fun c=>(cond (decide (c > 0)) ((idx a.2 (w64 (c - 1))).bind fun h=>(idx d a.1).bind fun j=>some (h == j)) (some false)).bind fun k=>cond k (some a.2) ((app 8 a.2 [0]).bind fun b=>(sub2 b.length (w64 (c + 1)) b.length).bind fun g=>(sub2 b.length c b.length).bind fun f=>(idx d a.1).bind fun l=>(idx (cpyw b g ((b.drop f.1).take f.2)) c).bind fun _=>some ((cpyw b g ((b.drop f.1).take f.2)).set c.toNat l))).bind fun m=>some (.inl (w64 (a.1 + 1),m))) (some (.inr a.2))
noncomputable def q65 (a : List Int) : Option (List Int):=
  (loop (q4a a) (0,[])).bind fun b=>some b
noncomputable def q3e (b : Int × List qj) (a : Int × Int × Int × List qj) : Option ((Int × Int × Int × List qj) ⊕ (Int × Int × List qj)):=
  cond (decide (a.1 < (b.2.length : Int))) (((idx b.2 a.1).bind fun d=>(cond (decide (d.Hi < a.2.1)) (some true) ((idx b.2 a.1).bind fun f=>some (decide (a.2.2.1 < f.Lo)))).bind fun g=>cond g ((idx b.2 a.1).bind fun h=>(app 16 a.2.2.2 [h]).bind fun j=>some (a.2.1,a.2.2.1,j)) ((idx b.2 a.1).bind fun k=>(idx b.2 a.1).bind fun l=>some (min a.2.1 k.Lo,max a.2.2.1 l.Hi,a.2.2.2))).bind fun c=>some (.inl (w64 (a.1 + 1),c.1,c.2.1,c.2.2))) (some (.inr (a.2.1,a.2.2.1,a.2.2.2)))
noncomputable def q3f (b : Int × Int × List qj) (a : Int) : Option ((Int) ⊕ (Int)):=
  (cond (decide (a < (b.2.2.length : Int))) ((idx b.2.2 a).bind fun c=>some (decide (c.Lo < b.1))) (some false)).bind fun d=>cond d (some (.inl (w64 (a + 1)))) (some (.inr a))
noncomputable def q4p (c : List qj) (b : Int × List qj) : Option ((Int × List qj) ⊕ (List qj)):=
  cond (decide (b.1 < (c.length : Int))) ((idx c b.1).bind fun d=>(loop (q3e b) (0,d.Lo,d.Hi,[])).bind fun a=>(loop (q3f a) 0).bind fun f=>(sub2 a.2.2.length 0 f).bind fun g=>(app 16 [] ((a.2.2.drop g.1).take g.2)).bind fun j=>(app 16 j [({Lo:=a.1,Hi:=a.2.1} : qj)]).bind fun k=>(sub2 a.2.2.length f a.2.2.length).bind fun h=>(app 16 k ((a.2.2.drop h.1).take h.2)).bind fun l=>some (.inl (w64 (b.1 + 1),l))) (some (.inr b.2))
noncomputable def q4o (a : List qj) : Option (List qj):=
  (loop (q4p a) (0,[])).bind fun b=>some b
def K6 (x : Kb) : List DV:=[.int .i64 x.At,.sl 2 (x.Spans.map Q8)]
noncomputable def q4h (b : List Q6) (c : Bool) (a : Int × List Int) : Option ((Int × List Int) ⊕ (List Int)):=
  cond (decide (a.1 < (b.length : Int))) (((idx b a.1).bind fun d=>(idx b a.1).bind fun f=>cond ((d.A.Y == f.B.Y) == c) (cond c ((idx b a.1).bind fun g=>(app 8 a.2 [g.A.Y]).bind fun h=>some h) ((idx b a.1).bind fun j=>(app 8 a.2 [j.A.X]).bind fun k=>some k)) (some a.2)).bind fun l=>some (.inl (w64 (a.1 + 1),l))) (some (.inr a.2))
noncomputable def q4j (b : List Q6) (f : Bool) (c : List Int) (d : Int × List Kb) (a : Int × List qj) : Option ((Int × List qj) ⊕ (List qj)):=
  cond (decide (a.1 < (b.length : Int))) (((cond f ((idx b a.1).bind fun g=>(idx c d.1).bind fun h=>some (g.A.Y == h)) (some false)).bind fun j=>(cond j ((idx b a.1).bind fun k=>(idx c d.1).bind fun l=>some (k.B.Y == l)) (some false)).bind fun m=>cond m ((idx b a.1).bind fun n=>(idx b a.1).bind fun o=>(idx b a.1).bind fun p=>(idx b a.1).bind fun q=>(app 16 a.2 [({Lo:=min n.A.X o.B.X,Hi:=max p.A.X q.B.X} : qj)]).bind fun r=>some r) ((cond (!f) ((idx b a.1).bind fun s=>(idx c d.1).bind fun t=>some (s.A.X == t)) (some false)).bind fun u=>(cond u ((idx b a.1).bind fun v=>(idx c d.1).bind fun w=>some (v.B.X == w)) (some false)).bind fun x=>cond x ((idx b a.1).bind fun y=>(idx b a.1).bind fun z=>(idx b a.1).bind fun aa=>(idx b a.1).bind fun ab=>(app 16 a.2 [({Lo:=min y.A.Y z.B.Y,Hi:=max aa.A.Y ab.B.Y} : qj)]).bind fun ac=>some ac) (some a.2))).bind fun ad=>some (.inl (w64 (a.1 + 1),ad))) (some (.inr a.2))
noncomputable def q4i (b : List Int) (c : List Q6) (d : Bool) (a : Int × List Kb) : Option ((Int × List Kb) ⊕ (List Kb)):=
  cond (decide (a.1 < (b.length : Int))) (((cond (decide (a.1 > 0)) ((idx b a.1).bind fun f=>(idx b (w64 (a.1 - 1))).bind fun g=>some (f == g)) (some false)).bind fun h=>cond h (some a.2) ((loop (q4j c d b a) (0,[])).bind fun j=>(q4o j).bind fun k=>(idx b a.1).bind fun l=>(app 32 a.2 [({At:=l,Spans:=k} : Kb)]).bind fun m=>some m)).bind fun n=>some (.inl (w64 (a.1 + 1),n))) (some (.inr a.2))
noncomputable def q6e (a : List Q6) (b : Bool) : Option (List Kb):=
  (loop (q4h a b) (0,[])).bind fun c=>(q65 c).bind fun d=>(loop (q4i d a b) (0,[])).bind fun f=>some f
noncomputable def q39 (b : List Kb) (c : Int) (d : Int) (a : Int) : Option ((Int) ⊕ ((Unit) ⊕ (Bool))):=
  (idx b c).bind fun f=>cond (decide (a < (f.Spans.length : Int))) ((idx b c).bind fun g=>(idx g.Spans a).bind fun h=>(cond (decide (h.Lo≤d)) ((idx b c).bind fun j=>(idx j.Spans a).bind fun k=>some (decide (d < k.Hi))) (some false)).bind fun l=>cond l (some (.inr (.inr true))) (some (.inl (w64 (a + 1))))) (some (.inr (.inl ())))
noncomputable def q38 (b : List Kb) (d : Int) (f : Int) (a : Int) : Option ((Int) ⊕ ((Unit) ⊕ (Bool))):=
  cond (decide (a < (b.length : Int))) (((idx b a).bind fun g=>cond (g.At != d) (some (.inl ())) ((loop (q39 b a f) 0 : Option ((Unit) ⊕ (Bool))).bind fun h=>(match h with | .inl j=>some (.inl j) | .inr c=>some (.inr c))) : Option ((Unit) ⊕ (Bool))).bind fun k=>(match k with | .inl _=>some (.inl (w64 (a + 1))) | .inr c=>some (.inr (.inr c)))) (some (.inr (.inl ())))
noncomputable def q37 (a : List Kb) (b : Int) (c : Int) : Option Bool:=
  (loop (q38 a b c) 0 : Option ((Unit) ⊕ (Bool))).bind fun d=>(match d with | .inl _=>some false | .inr f=>some f)
noncomputable def q67 (b : List Kb) (c : List Kb) (a : qc) : Option (Bool × Bool × Bool × Bool):=
  (q37 b a.Y a.X).bind fun d=>(q37 c a.X a.Y).bind fun f=>(q37 b a.Y (w64 (a.X - 1))).bind fun g=>(q37 c a.X (w64 (a.Y - 1))).bind fun h=>some (d,f,g,h)
noncomputable def q2h (b : List Kb) (c : List Kb) (d : qc) : Option Bool:=
  (q67 b c d).bind fun a=>(cond ((a.1 == true) && ((a.2.1 == false) && ((a.2.2.1 == true) && ((a.2.2.2 == false) && true)))) (some true) (some ((a.1 == false) && ((a.2.1 == true) && ((a.2.2.1 == false) && ((a.2.2.2 == true) && true)))))).bind fun f=>(cond (!f) ((cond a.1 (some true) (some a.2.1)).bind fun g=>(cond g (some true) (some a.2.2.1)).bind fun h=>(cond h (some true) (some a.2.2.2)).bind fun j=>some j) (some false)).bind fun k=>some k
noncomputable def q69 (a : qc) (b : qc) : Option Bool:=
  (cond (decide (a.X < b.X)) (some true) ((cond (a.X == b.X) (some (decide (a.Y < b.Y))) (some false)).bind fun c=>some c)).bind fun d=>some d
noncomputable def q3d (b : List qc) (c : qc) (a : Int) : Option ((Int) ⊕ (Int)):=
  (cond (decide (a < (b.length : Int))) ((idx b a).bind fun d=>(q69 d ({X:=(c).X,Y:=(c).Y} : qc)).bind fun f=>some f) (some false)).bind fun g=>cond g (some (.inl (w64 (a + 1)))) (some (.inr a))
noncomputable def q3c (c : List qc) (d : qc) : Option (List qc):=
  (loop (q3d c d) 0).bind fun b=>(cond (decide (b < (c.length : Int))) ((idx c b).bind fun g=>some ((g.X == ((d).X)) && ((g.Y == ((d).Y)) && true))) (some false)).bind fun j=>cond j (some c) ((app 16 c [({X:=0,Y:=0} : qc)]).bind fun a=>(sub2 a.length (w64 (b + 1)) a.length).bind fun h=>(sub2 a.length b a.length).bind fun f=>(idx (cpyw a h ((a.drop f.1).take f.2)) b).bind fun _=>some ((cpyw a h ((a.drop f.1).take f.2)).set b.toNat ({X:=(d).X,Y:=(d).Y} : qc)))
noncomputable def q4m (b : List Kb) (c : qj) (a : Int × List Int) : Option ((Int × List Int) ⊕ (List Int)):=
  cond (decide (a.1 < (b.length : Int))) (((idx b a.1).bind fun d=>(cond (decide (d.At > c.Lo)) ((idx b a.1).bind fun f=>some (decide (f.At < c.Hi))) (some false)).bind fun g=>cond g ((idx b a.1).bind fun h=>(app 8 a.2 [h.At]).bind fun j=>some j) (some a.2)).bind fun k=>some (.inl (w64 (a.1 + 1),k))) (some (.inr a.2))
noncomputable def q3a (b : List Int) (c : List Kb) (g : Int × List qc) (h : List Kb) (a : Int × List qc) : Option ((Int × List qc) ⊕ (List qc)):=
  (cond (decide (a.1 < (b.length : Int))) (some (decide ((a.2.length : Int)≤400))) (some false)).bind fun j=>cond j (((idx b a.1).bind fun d=>(idx c g.1).bind fun f=>(q2h c h ({X:=d,Y:=f.At} : qc)).bind fun k=>cond k ((q3c a.2 ({X:=d,Y:=f.At} : qc)).bind fun l=>some l) (some a.2)).bind fun m=>some (.inl (w64 (a.1 + 1),m))) (some (.inr a.2))
noncomputable def q4l (b : List Kb) (c : Int × List qc) (f : List Kb) (a : Int × List qc) : Option ((Int × List qc) ⊕ (List qc)):=
  (idx b c.1).bind fun g=>cond (decide (a.1 < (g.Spans.length : Int))) (((idx b c.1).bind fun h=>(idx h.Spans a.1).bind fun d=>(loop (q4m f d) (0,[d.Lo,d.Hi])).bind fun j=>(loop (q3a j b c f) (0,a.2)).bind fun k=>some k).bind fun l=>some (.inl (w64 (a.1 + 1),l))) (some (.inr a.2))
noncomputable def q4k (b : List Kb) (c : List Kb) (a : Int × List qc) : Option ((Int × List qc) ⊕ (List qc)):=
  cond (decide (a.1 < (b.length : Int))) (((loop (q4l b a c) (0,a.2)).bind fun d=>some d).bind fun f=>some (.inl (w64 (a.1 + 1),f))) (some (.inr a.2))
noncomputable def q3b (b : List Kb) (c : Int × List qc) (f : List Kb) (a : Int × List qc) : Option ((Int × List qc) ⊕ (List qc)):=
  (idx b c.1).bind fun k=>(cond (decide (a.1 < (k.Spans.length : Int))) (some (decide ((a.2.length : Int)≤400))) (some false)).bind fun l=>cond l (((idx b c.1).bind fun m=>(idx m.Spans a.1).bind fun d=>(idx b c.1).bind fun g=>(idx b c.1).bind fun h=>(q2h f b ({X:=g.At,Y:=d.Lo} : qc)).bind fun n=>(cond n ((q3c a.2 ({X:=g.At,Y:=d.Lo} : qc)).bind fun o=>some o) (some a.2)).bind fun j=>(q2h f b ({X:=h.At,Y:=d.Hi} : qc)).bind fun p=>cond p ((q3c j ({X:=h.At,Y:=d.Hi} : qc)).bind fun q=>some q) (some j)).bind fun r=>some (.inl (w64 (a.1 + 1),r))) (some (.inr a.2))
noncomputable def q4n (b : List Kb) (c : List Kb) (a : Int × List qc) : Option ((Int × List qc) ⊕ (List qc)):=
  cond (decide (a.1 < (b.length : Int))) (((loop (q3b b a c) (0,a.2)).bind fun d=>some d).bind fun f=>some (.inl (w64 (a.1 + 1),f))) (some (.inr a.2))
noncomputable def q95 (a : List Kb) (b : List Kb) : Option (List qc):=
  (loop (q4k a b) (0,[])).bind fun c=>(loop (q4n b a) (0,c)).bind fun d=>some d
noncomputable def q4g (b : List qc) (c : qc) (a : Int × Int × Int) : Option ((Int × Int × Int) ⊕ (Int × Int)):=
  cond (decide (a.2.2 < (b.length : Int))) (((idx b a.2.2).bind fun d=>(cond (d.X == c.X) (some (decide (a.1 < 0))) (some false)).bind fun h=>(cond h (some a.2.2) (some a.1)).bind fun f=>(cond (d.Y == c.Y) (some (decide (a.2.1 < 0))) (some false)).bind fun j=>cond j (some (f,a.2.2)) (some (f,a.2.1))).bind fun g=>some (.inl (g.1,g.2,w64 (a.2.2 + 1)))) (some (.inr (a.1,a.2.1)))
noncomputable def q4f (c : List qc) (h : List Kb) (j : List Kb) (a : Int × List qm) : Option ((Int × List qm) ⊕ (List qm)):=
  cond (decide (a.1 < (c.length : Int))) (((idx c a.1).bind fun d=>(q67 h j d).bind fun f=>(loop (q4g c d) ((-1),(-1),w64 (a.1 + 1))).bind fun b=>(cond f.2.1 (some (decide (b.1 ≥ 0))) (some false)).bind fun k=>(cond k ((app 16 a.2 [({A:=a.1,B:=b.1} : qm)]).bind fun l=>some l) (some a.2)).bind fun g=>(cond f.1 (some (decide (b.2 ≥ 0))) (some false)).bind fun m=>cond m ((app 16 g [({A:=a.1,B:=b.2} : qm)]).bind fun n=>some n) (some g)).bind fun o=>some (.inl (w64 (a.1 + 1),o))) (some (.inr a.2))
noncomputable def q4e (b : List Q6) : Option (K5 × Bool):=
  (q6e b true).bind fun c=>(q6e b false).bind fun d=>(q95 c d).bind fun a=>cond (decide ((a.length : Int) > 400)) (some (({Nodes:=[],Edges:=[]} : K5),false)) ((loop (q4f a c d) (0,[])).bind fun f=>some (({Nodes:=a,Edges:=f} : K5),decide ((f.length : Int)≤800)))
noncomputable def q6c (b : K5) (f : K5) (a : Int) : Option ((Int) ⊕ ((Unit) ⊕ (Bool))):=
  cond (decide (a < (b.Nodes.length : Int))) ((idx b.Nodes a).bind fun c=>(idx f.Nodes a).bind fun d=>cond (!((c.X == d.X) && ((c.Y == d.Y) && true))) (some (.inr (.inr false))) (some (.inl (w64 (a + 1))))) (some (.inr (.inl ())))
noncomputable def q6d (b : K5) (f : K5) (a : Int) : Option ((Int) ⊕ ((Unit) ⊕ (Bool))):=
  cond (decide (a < (b.Edges.length : Int))) ((idx b.Edges a).bind fun c=>(idx f.Edges a).bind fun d=>cond (!((c.A == d.A) && ((c.B == d.B) && true))) (some (.inr (.inr false))) (some (.inl (w64 (a + 1))))) (some (.inr (.inl ())))
noncomputable def q93 (a : K5) (b : K5) : Option Bool:=
  (cond ((a.Nodes.length : Int) != (b.Nodes.length : Int)) (some true) (some ((a.Edges.length : Int) != (b.Edges.length : Int)))).bind fun d=>cond d (some false) ((loop (q6c a b) 0 : Option ((Unit) ⊕ (Bool))).bind fun f=>(match f with | .inl _=>(loop (q6d a b) 0 : Option ((Unit) ⊕ (Bool))).bind fun g=>(match g with | .inl _=>some true | .inr c=>some c) | .inr c=>some c))
noncomputable def qno (a : Q6) (b : qc) : Option Bool:=
  (cond (decide ((min a.A.X a.B.X)≤b.X)) (some (decide (b.X≤(max a.A.X a.B.X)))) (some false)).bind fun c=>(cond c (some (decide ((min a.A.Y a.B.Y)≤b.Y))) (some false)).bind fun d=>(cond d (some (decide (b.Y≤(max a.A.Y a.B.Y)))) (some false)).bind fun f=>some f
noncomputable def q6b (a : Q6) (b : qc) : Option Bool:=
  (cond (decide (b.X ≥ (min a.A.X a.B.X))) (some (decide (b.X≤(max a.A.X a.B.X)))) (some false)).bind fun c=>(cond c (some (decide (b.Y ≥ (min a.A.Y a.B.Y)))) (some false)).bind fun d=>(cond d (some (decide (b.Y≤(max a.A.Y a.B.Y)))) (some false)).bind fun f=>some f
structure Qx where
  At : qc
  Kind : Int
  Weight : Int
  Reach : Int
  deriving DecidableEq
def Kh (x : Qx) : List DV:=[.int .i64 x.At.X,.int .i64 x.At.Y,.int .u8 x.Kind,.int .i64 x.Weight,.int .i64 x.Reach]
structure Y2 where
  At : qc
  Head : Int
  Steps : Int
  deriving DecidableEq
def Yx (x : Y2) : List DV:=[.int .i64 x.At.X,.int .i64 x.At.Y,.int .u8 x.Head,.int .i64 x.Steps]
noncomputable def q5q (b : List Y2) (a : Int) : Option ((Int) ⊕ ((Unit) ⊕ (Bool))):=
  cond (decide (a < (b.length : Int))) ((idx b a).bind fun c=>(cond (decide (c.Steps > 60)) ((idx b a).bind fun d=>some (decide (d.Steps≤500))) (some false)).bind fun f=>cond f (some (.inr (.inr true))) (some (.inl (w64 (a + 1))))) (some (.inr (.inl ())))
noncomputable def q89 (b : List Qx) (a : List Y2) : Option Bool:=
  (cond (decide ((b.length : Int) > 80)) (some true) ((cond (decide ((a.length : Int) > 8)) (some (decide ((a.length : Int)≤30))) (some false)).bind fun c=>some c)).bind fun d=>(cond d (some true) (some (decide ((a.length : Int) > 40)))).bind fun f=>cond f (some true) ((loop (q5q a) 0 : Option ((Unit) ⊕ (Bool))).bind fun g=>(match g with | .inl _=>some false | .inr h=>some h))
noncomputable def q2y (a : qc) : Option Bool:=
  (cond (decide ((max (max (max a.X (w64 (0 - a.X))) a.Y) (w64 (0 - a.Y)))≤1000000)) (some (decide ((min a.X a.Y) ≥ (-1000000)))) (some false)).bind fun b=>some b
noncomputable def q7z (c : List Qx) (b : Int) : Option ((Int) ⊕ ((Unit) ⊕ (Int))):=
  cond (decide (b < (c.length : Int))) ((idx c b).bind fun a=>(cond (decide (a.Kind < 1)) (some true) (some (decide (a.Kind > 4)))).bind fun d=>(cond d (some true) ((q2y a.At).bind fun f=>some (!f))).bind fun g=>(cond g (some true) (some (decide (a.Weight < 1)))).bind fun h=>(cond h (some true) (some (decide (a.Weight > 1000000)))).bind fun j=>(cond j (some true) (some (decide (a.Reach < 0)))).bind fun k=>(cond k (some true) (some (decide (a.Reach > 1000000)))).bind fun l=>cond l (some (.inr (.inr 8))) (some (.inl (w64 (b + 1))))) (some (.inr (.inl ())))
noncomputable def q3y (a : List Qx) : Option Int:=
  cond (decide ((a.length : Int) > 60)) (some 4) ((loop (q7z a) 0 : Option ((Unit) ⊕ (Int))).bind fun b=>(match b with | .inl _=>some 0 | .inr c=>some c))
noncomputable def q3z (d : List Qx) (b : qc) (c : Int × Int) : Option ((Int × Int) ⊕ (Int)):=
  cond (decide (c.1 < (d.length : Int))) (((idx d c.1).bind fun a=>cond (decide ((max (max (w64 (b.X - a.At.X)) (w64 (0 - (w64 (b.X - a.At.X))))) (max (w64 (b.Y - a.At.Y)) (w64 (0 - (w64 (b.Y - a.At.Y)))))) > a.Reach)) (some c.2) ((cond (a.Kind == 1) (some 1) (cond (a.Kind == 2) (some (-1)) ((cond ((a.Kind == 3) == (decide ((max (w64 (b.Y - a.At.Y)) (w64 (0 - (w64 (b.Y - a.At.Y))))) > (max (w64 (b.X - a.At.X)) (w64 (0 - (w64 (b.X - a.At.X)))))))) (some ((max (w64 (b.X - a.At.X)) (w64 (0 - (w64 (b.X - a.At.X))))) != (max (w64 (b.Y - a.At.Y)) (w64 (0 - (w64 (b.Y - a.At.Y))))))) (some false)).bind fun f=>cond f (some 1) (cond ((max (w64 (b.X - a.At.X)) (w64 (0 - (w64 (b.X - a.At.X))))) != (max (w64 (b.Y - a.At.Y)) (w64 (0 - (w64 (b.Y - a.At.Y)))))) (some (-1)) (some 0))))).bind fun g=>(some ()).bind fun _=>some (w64 (c.2 + (w64 ((w64 (g * a.Weight)) * (w64 ((w64 (a.Reach + 1)) - (max (max (w64 (b.X - a.At.X)) (w64 (0 - (w64 (b.X - a.At.X))))) (max (w64 (b.Y - a.At.Y)) (w64 (0 - (w64 (b.Y - a.At.Y)))))))))))))).bind fun h=>some (.inl (w64 (c.1 + 1),h))) (some (.inr c.2))
noncomputable def q80 (a : List Qx) (b : qc) : Option Int:=
  (some ()).bind fun _=>((loop (q3z a b) (0,0)).bind fun c=>some c).bind fun d=>some d
noncomputable def q5j (b : List Qx) (c : qc) : Option Int:=
  (q80 b c).bind fun a=>cond (decide (a > 0)) (some 0) (cond (decide (a < 0)) (some 1) (some 2))
noncomputable def q5i (g : Int) (h : List Qx) (a : Int × Int × Int × Int × List qc) : Option ((Int × Int × Int × Int × List qc) ⊕ ((List qc) ⊕ (List qc × Int))):=
  cond (decide (a.2.1 < g)) ((q5j h ({X:=a.2.2.1,Y:=a.2.2.2.1} : qc)).bind fun f=>(cond (decide (f < 2)) (some ((Int.tmod a.1 2) != f)) (some false)).bind fun j=>(cond j (some (Int.tmod (IntKind.wrap .u8 (a.1 + 1)) 4)) (some a.1)).bind fun b=>(idxA 4 [({X:=1,Y:=0} : qc),({X:=0,Y:=1} : qc),({X:=(-1),Y:=0} : qc),({X:=0,Y:=(-1)} : qc)] b).bind fun c=>(idxA 4 [({X:=1,Y:=0} : qc),({X:=0,Y:=1} : qc),({X:=(-1),Y:=0} : qc),({X:=0,Y:=(-1)} : qc)] b).bind fun d=>(q2y ({X:=w64 (a.2.2.1 + c.X),Y:=w64 (a.2.2.2.1 + d.Y)} : qc)).bind fun k=>cond (!k) (some (.inr (.inr ([],16)))) ((app 16 a.2.2.2.2 [({X:=w64 (a.2.2.1 + c.X),Y:=w64 (a.2.2.2.1 + d.Y)} : qc)]).bind fun l=>some (.inl (b,w64 (a.2.1 + 1),w64 (a.2.2.1 + c.X),w64 (a.2.2.2.1 + d.Y),l)))) (some (.inr (.inl a.2.2.2.2)))
noncomputable def q5h (c : List Qx) (a : qc) (d : Int) (b : Int) : Option (List qc × Int):=
  (q3y c).bind fun f=>cond (f != 0) (some ([],f)) ((q2y a).bind fun g=>(cond (!g) (some true) (some (decide (d > 3)))).bind fun h=>(cond h (some true) (some (decide (b < 0)))).bind fun j=>(cond j (some true) (some (decide (b > 500)))).bind fun k=>cond k (some ([],2)) ((loop (q5i b c) (d,0,a.X,a.Y,[a]) : Option ((List qc) ⊕ (List qc × Int))).bind fun l=>(match l with | .inl m=>some (m,0) | .inr n=>some n)))
noncomputable def q2k (b : List qc) (c : qc) (a : Int) : Option ((Int) ⊕ ((Unit) ⊕ (Int))):=
  cond (decide (a < (b.length : Int))) ((idx b a).bind fun d=>cond ((c.X == d.X) && ((c.Y == d.Y) && true)) (some (.inr (.inr a))) (some (.inl (w64 (a + 1))))) (some (.inr (.inl ())))
noncomputable def q99 (a : List qc) (b : qc) : Option Int:=
  (loop (q2k a b) 0 : Option ((Unit) ⊕ (Int))).bind fun c=>(match c with | .inl _=>some (-1) | .inr d=>some d)
noncomputable def q2r (c : Y2) (j : List Qx) (a : Int × Int × (List (qc × Bool)) × List Q6 × Int × Int) : Option ((Int × Int × (List (qc × Bool)) × List Q6 × Int × Int) ⊕ (((List (qc × Bool)) × List Q6) ⊕ (Int × (List (qc × Bool)) × List Q6))):=
  cond (decide (a.2.1 < ((c).Steps))) ((q5h j ({X:=a.2.2.2.2.1,Y:=a.2.2.2.2.2} : qc) a.1 1).bind fun d=>cond (d.2 != 0) (some (.inr (.inr (d.2,a.2.2.1,[])))) ((idx d.1 1).bind fun b=>(q99 [({X:=1,Y:=0} : qc),({X:=0,Y:=1} : qc),({X:=(-1),Y:=0} : qc),({X:=0,Y:=(-1)} : qc)] ({X:=w64 (b.X - a.2.2.2.2.1),Y:=w64 (b.Y - a.2.2.2.2.2)} : qc)).bind fun f=>(cond (decide (a.2.1 > 0)) (some ((IntKind.wrap .u8 f) == a.1)) (some false)).bind fun k=>(cond k ((idx a.2.2.2.1 (w64 ((a.2.2.2.1.length : Int) - 1))).bind fun l=>some (.inl (a.2.2.2.1.set (w64 ((a.2.2.2.1.length : Int) - 1)).toNat ({A:=l.A,B:=b} : Q6)))) ((app 32 a.2.2.2.1 [({A:=({X:=a.2.2.2.2.1,Y:=a.2.2.2.2.2} : qc),B:=b} : Q6)]).bind fun g=>cond (decide ((g.length : Int) > 400)) (some (.inr (4,a.2.2.1,[]))) (some (.inl g))) : Option ((List Q6) ⊕ (Int × (List (qc × Bool)) × List Q6))).bind fun m=>(match m with | .inl h=>(cond (K7 false b a.2.2.1) (some true) (some ((b.X == (((c).At).X)) && ((b.Y == (((c).At).Y)) && true)))).bind fun n=>cond n (some (.inr (.inl (Ke b true (Ke ({X:=a.2.2.2.2.1,Y:=a.2.2.2.2.2} : qc) true a.2.2.1),h)))) (some (.inl (IntKind.wrap .u8 f,w64 (a.2.1 + 1),Ke b true (Ke ({X:=a.2.2.2.2.1,Y:=a.2.2.2.2.2} : qc) true a.2.2.1),h,b.X,b.Y))) | .inr o=>some (.inr (.inr o))))) (some (.inr (.inl (a.2.2.1,a.2.2.2.1))))
noncomputable def qbr (c : List Qx) (a : Y2) (d : List Q6) (f : List (qc × Bool)) : Option (Int × (List (qc × Bool)) × List Q6):=
  (loop (q2r a c) ((a).Head,0,f,d,((a).At).X,((a).At).Y) : Option (((List (qc × Bool)) × List Q6) ⊕ (Int × (List (qc × Bool)) × List Q6))).bind fun g=>(match g with | .inl b=>some (0,b.1,b.2) | .inr h=>some h)
noncomputable def q7b (b : List Q6) (a : Int) : Option ((Int) ⊕ ((Unit) ⊕ (K5 × Int))):=
  cond (decide (a < (b.length : Int))) ((idx b a).bind fun c=>(qbq c).bind fun d=>cond (!d) (some (.inr (.inr (({Nodes:=[],Edges:=[]} : K5),8)))) (some (.inl (w64 (a + 1))))) (some (.inr (.inl ())))
noncomputable def Ux (a : List Q6) : Option (K5 × Int):=
  cond (decide ((a.length : Int) > 400)) (some (({Nodes:=[],Edges:=[]} : K5),4)) ((loop (q7b a) 0 : Option ((Unit) ⊕ (K5 × Int))).bind fun c=>(match c with | .inl _=>(q54 a).bind fun b=>cond (!b.2) (some (({Nodes:=[],Edges:=[]} : K5),4)) (some (b.1,0)) | .inr d=>some d))
noncomputable def q7a (c : List Y2) (b : Int) : Option ((Int) ⊕ ((Unit) ⊕ (K5 × Int))):=
  cond (decide (b < (c.length : Int))) ((idx c b).bind fun a=>(q53 a.At).bind fun d=>(cond (!d) (some true) (some (decide (a.Head > 3)))).bind fun f=>(cond f (some true) (some (decide (a.Steps < 0)))).bind fun g=>(cond g (some true) (some (decide (a.Steps > 500)))).bind fun h=>cond h (some (.inr (.inr (({Nodes:=[],Edges:=[]} : K5),8)))) (some (.inl (w64 (b + 1))))) (some (.inr (.inl ())))
noncomputable def q2o (c : List Y2) (d : List Qx) (a : Int × List Q6 × (List (qc × Bool))) : Option ((Int × List Q6 × (List (qc × Bool))) ⊕ ((List Q6) ⊕ (K5 × Int))):=
  cond (decide (a.1 < (c.length : Int))) ((idx c a.1).bind fun f=>(qbr d f a.2.1 a.2.2).bind fun b=>cond (b.1 != 0) (some (.inr (.inr (({Nodes:=[],Edges:=[]} : K5),b.1)))) (some (.inl (w64 (a.1 + 1),b.2.2,b.2.1)))) (some (.inr (.inl a.2.1)))
noncomputable def qbn (c : List Qx) (a : List Y2) : Option (K5 × Int):=
  (q3y c).bind fun d=>cond (d != 0) (some (({Nodes:=[],Edges:=[]} : K5),d)) (cond (decide ((a.length : Int) > 30)) (some (({Nodes:=[],Edges:=[]} : K5),4)) ((loop (q7a a) 0 : Option ((Unit) ⊕ (K5 × Int))).bind fun g=>(match g with | .inl _=>(loop (q2o a c) (0,[],[]) : Option ((List Q6) ⊕ (K5 × Int))).bind fun h=>(match h with | .inl j=>(Ux j).bind fun f=>some (f.1,f.2) | .inr b=>some b) | .inr b=>some b)))
noncomputable def q8w (b : List Qx) (a : Int) : Option ((Int) ⊕ ((Unit) ⊕ (Int))):=
  cond (decide (a < (b.length : Int))) ((idx b a).bind fun c=>(cond (decide (c.Kind < 1)) (some true) ((idx b a).bind fun d=>some (decide (d.Kind > 4)))).bind fun f=>(cond f (some true) ((idx b a).bind fun g=>(q1m g.At).bind fun h=>some (!h))).bind fun j=>(cond j (some true) ((idx b a).bind fun k=>some (decide (k.Weight < 1)))).bind fun l=>(cond l (some true) ((idx b a).bind fun m=>some (decide (m.Weight > 1000000)))).bind fun n=>(cond n (some true) ((idx b a).bind fun o=>some (decide (o.Reach < 0)))).bind fun p=>(cond p (some true) ((idx b a).bind fun q=>some (decide (q.Reach > 1000000)))).bind fun r=>cond r (some (.inr (.inr 8))) (some (.inl (w64 (a + 1))))) (some (.inr (.inl ())))
noncomputable def q66 (a : List Qx) : Option Int:=
  cond (decide ((a.length : Int) > 60)) (some 4) ((loop (q8w a) 0 : Option ((Unit) ⊕ (Int))).bind fun b=>(match b with | .inl _=>some 0 | .inr c=>some c))
noncomputable def q91 (a : Int) : Option Int:=
  some (max a (w64 (0 - a)))
noncomputable def q90 (a : Qx) (d : qc) : Option Int:=
  (q91 (w64 (d.X - a.At.X))).bind fun b=>(q91 (w64 (d.Y - a.At.Y))).bind fun c=>cond (decide ((max b c) > a.Reach)) (some 0) ((cond (decide (c > b)) (some 1) (some 0)).bind fun g=>(cond (decide (c < b)) (some (-1)) (some g)).bind fun f=>cond (a.Kind == 1) (some (w64 (a.Weight * (w64 ((w64 (a.Reach + 1)) - (max b c)))))) (cond (a.Kind == 2) (some (w64 (0 - (w64 (a.Weight * (w64 ((w64 (a.Reach + 1)) - (max b c)))))))) (cond (a.Kind == 3) (some (w64 ((w64 (a.Weight * (w64 ((w64 (a.Reach + 1)) - (max b c))))) * f))) (some (w64 ((w64 (0 - (w64 (a.Weight * (w64 ((w64 (a.Reach + 1)) - (max b c))))))) * f))))))
noncomputable def q4c (b : List Qx) (c : qc) (a : Int × Int) : Option ((Int × Int) ⊕ (Int)):=
  cond (decide (a.2 < (b.length : Int))) ((idx b a.2).bind fun d=>(q90 d c).bind fun f=>some (.inl (w64 (a.1 + f),w64 (a.2 + 1)))) (some (.inr a.1))
noncomputable def q8z (a : List Qx) (b : qc) : Option Int:=
  (loop (q4c a b) (0,0)).bind fun c=>some c
noncomputable def q8v (b : List Qx) (c : qc) : Option Int:=
  (q8z b c).bind fun a=>cond (decide (a > 0)) (some 0) (cond (decide (a < 0)) (some 1) (some 2))
noncomputable def q8x (c : List Qx) (d : qc) (a : Int) : Option Int:=
  (q8v c d).bind fun b=>(cond (decide (b < 2)) (some ((Int.tmod a 2) != b)) (some false)).bind fun f=>cond f (some (Int.tmod (IntKind.wrap .u8 (a + 1)) 4)) (some a)
noncomputable def q8u (a : qc) (b : Int) : Option qc:=
  (cond (b == 0) (some (w64 (a.X + 1),a.Y)) (cond (b == 1) (some (a.X,w64 (a.Y + 1))) (cond (b == 2) (some (w64 (a.X - 1),a.Y)) (some (a.X,w64 (a.Y - 1)))))).bind fun c=>some ({X:=c.1,Y:=c.2} : qc)
noncomputable def q4d (b : Int × List Q6) (c : qc) (a : Bool × Int) : Option ((Bool × Int) ⊕ (Bool)):=
  cond (decide (a.2 < (b.2.length : Int))) ((cond a.1 (some true) ((idx b.2 a.2).bind fun d=>(q6b d c).bind fun f=>some f)).bind fun g=>some (.inl (g,w64 (a.2 + 1)))) (some (.inr a.1))
noncomputable def qdl (b : Int × Int × Int × Int × List Q6) (c : qc) (a : Bool × Int) : Option ((Bool × Int) ⊕ (Bool)):=
  cond (decide (a.2 < (b.2.2.2.2.length : Int))) ((cond a.1 (some true) ((idx b.2.2.2.2 a.2).bind fun d=>(q6b d c).bind fun f=>some f)).bind fun g=>some (.inl (g,w64 (a.2 + 1)))) (some (.inr a.1))
noncomputable def q2g (g : List Y2) (c : Int × List Q6) (j : List Qx) (a : Int × Int × Int × Int × List Q6) : Option ((Int × Int × Int × Int × List Q6) ⊕ ((List Q6) ⊕ (List Q6 × Int))):=
  (idx g c.1).bind fun k=>cond (decide (a.2.1 < k.Steps)) ((q8x j ({X:=a.2.2.1,Y:=a.2.2.2.1} : qc) a.1).bind fun d=>(q8u ({X:=a.2.2.1,Y:=a.2.2.2.1} : qc) d).bind fun b=>(q1m b).bind fun l=>cond (!l) (some (.inr (.inr ([],16)))) ((idx g c.1).bind fun h=>(loop (q4d c b) ((b.X == h.At.X) && ((b.Y == h.At.Y) && true),0)).bind fun m=>(loop (qdl a b) (m,0)).bind fun n=>(cond (decide ((a.2.2.2.2.length : Int) > 0)) (some (d == a.1)) (some false)).bind fun o=>(cond o ((idx a.2.2.2.2 (w64 ((a.2.2.2.2.length : Int) - 1))).bind fun p=>some (a.2.2.2.2.set (w64 ((a.2.2.2.2.length : Int) - 1)).toNat ({A:=p.A,B:=b} : Q6))) ((app 32 a.2.2.2.2 [({A:=({X:=a.2.2.1,Y:=a.2.2.2.1} : qc),B:=b} : Q6)]).bind fun q=>some q)).bind fun f=>cond (decide ((w64 ((c.2.length : Int) + (f.length : Int))) > 400)) (some (.inr (.inr ([],4)))) (cond n (some (.inr (.inl f))) (some (.inl (d,w64 (a.2.1 + 1),b.X,b.Y,f)))))) (some (.inr (.inl a.2.2.2.2)))
noncomputable def q2f (b : List Y2) (d : List Qx) (a : Int × List Q6) : Option ((Int × List Q6) ⊕ ((List Q6) ⊕ (List Q6 × Int))):=
  cond (decide (a.1 < (b.length : Int))) ((idx b a.1).bind fun c=>(idx b a.1).bind fun f=>(loop (q2g b a d) (f.Head,0,c.At.X,c.At.Y,[]) : Option ((List Q6) ⊕ (List Q6 × Int))).bind fun g=>(match g with | .inl h=>(app 32 a.2 h).bind fun j=>some (.inl (w64 (a.1 + 1),j)) | .inr k=>some (.inr (.inr k)))) (some (.inr (.inl a.2)))
noncomputable def qdk (a : List Qx) (b : List Y2) : Option (List Q6 × Int):=
  (loop (q2f b a) (0,[]) : Option ((List Q6) ⊕ (List Q6 × Int))).bind fun c=>(match c with | .inl d=>some (d,0) | .inr f=>some f)
noncomputable def q6a (b : List Q6) (a : Int) : Option ((Int) ⊕ ((Unit) ⊕ (K5 × Int))):=
  cond (decide (a < (b.length : Int))) ((idx b a).bind fun c=>(q94 c).bind fun d=>cond (!d) (some (.inr (.inr (({Nodes:=[],Edges:=[]} : K5),8)))) (some (.inl (w64 (a + 1))))) (some (.inr (.inl ())))
noncomputable def Uu (a : List Q6) : Option (K5 × Int):=
  cond (decide ((a.length : Int) > 400)) (some (({Nodes:=[],Edges:=[]} : K5),4)) ((loop (q6a a) 0 : Option ((Unit) ⊕ (K5 × Int))).bind fun c=>(match c with | .inl _=>(q4e a).bind fun b=>cond (!b.2) (some (({Nodes:=[],Edges:=[]} : K5),4)) (some (b.1,0)) | .inr d=>some d))
noncomputable def q68 (b : List Y2) (a : Int) : Option ((Int) ⊕ ((Unit) ⊕ (K5 × Int))):=
  cond (decide (a < (b.length : Int))) ((idx b a).bind fun c=>(q1m c.At).bind fun d=>(cond (!d) (some true) ((idx b a).bind fun f=>some (decide (f.Head > 3)))).bind fun g=>(cond g (some true) ((idx b a).bind fun h=>some (decide (h.Steps < 0)))).bind fun j=>(cond j (some true) ((idx b a).bind fun k=>some (decide (k.Steps > 500)))).bind fun l=>cond l (some (.inr (.inr (({Nodes:=[],Edges:=[]} : K5),8)))) (some (.inl (w64 (a + 1))))) (some (.inr (.inl ())))
noncomputable def q92 (a : List Qx) (b : List Y2) : Option (K5 × Int):=
  (q66 a).bind fun f=>cond (f != 0) ((q66 a).bind fun g=>some (({Nodes:=[],Edges:=[]} : K5),g)) (cond (decide ((b.length : Int) > 30)) (some (({Nodes:=[],Edges:=[]} : K5),4)) ((loop (q68 b) 0 : Option ((Unit) ⊕ (K5 × Int))).bind fun h=>(match h with | .inl _=>(qdk a b).bind fun c=>cond (c.2 != 0) (some (({Nodes:=[],Edges:=[]} : K5),c.2)) ((Uu c.1).bind fun d=>some (d.1,d.2)) | .inr j=>some j)))
noncomputable def qcy (a : List Qx) (b : List Y2) : Option Bool:=
  (q89 a b).bind fun f=>cond f (some true) ((qbn a b).bind fun c=>(q92 a b).bind fun d=>(q93 c.1 d.1).bind fun g=>(cond g (some (c.2 == d.2)) (some false)).bind fun h=>some h)
noncomputable def q4y (b : List qj) (a : Int) : Option ((Int) ⊕ ((Unit) ⊕ (Int))):=
  cond (decide (a < (b.length : Int))) ((idx b a).bind fun c=>(q3i c).bind fun d=>(cond (!d) (some true) ((cond (decide (a > 0)) ((idx b (w64 (a - 1))).bind fun f=>some (decide (f.Hi ≥ c.Lo))) (some false)).bind fun g=>some g)).bind fun h=>cond h (some (.inr (.inr 8))) (some (.inl (w64 (a + 1))))) (some (.inr (.inl ())))
noncomputable def qdu (a : List qj) : Option Int:=
  cond (decide ((a.length : Int) > 400)) (some 4) ((loop (q4y a) 0 : Option ((Unit) ⊕ (Int))).bind fun b=>(match b with | .inl _=>some 0 | .inr c=>some c))
noncomputable def qm8 (a : qj) : Option Bool:=
  (cond (decide (a.Lo < a.Hi)) (some (decide (a.Lo ≥ (-1000000)))) (some false)).bind fun b=>(cond b (some (decide (a.Hi≤1000000))) (some false)).bind fun c=>some c
noncomputable def qge (b : List qj) (a : Int) : Option ((Int) ⊕ ((Unit) ⊕ (Int))):=
  cond (decide (a < (b.length : Int))) ((idx b a).bind fun c=>(qm8 c).bind fun d=>(cond (!d) (some true) ((cond (decide (a > 0)) ((idx b (w64 (a - 1))).bind fun f=>(idx b a).bind fun g=>some (decide (f.Hi ≥ g.Lo))) (some false)).bind fun h=>some h)).bind fun j=>cond j (some (.inr (.inr 8))) (some (.inl (w64 (a + 1))))) (some (.inr (.inl ())))
noncomputable def qdh (a : List qj) : Option Int:=
  cond (decide ((a.length : Int) > 400)) (some 4) ((loop (qge a) 0 : Option ((Unit) ⊕ (Int))).bind fun b=>(match b with | .inl _=>some 0 | .inr c=>some c))
noncomputable def q8q (b : List qj) (a : Int × List Int) : Option ((Int × List Int) ⊕ (List Int)):=
  cond (decide (a.1 < (b.length : Int))) ((idx b a.1).bind fun c=>(idx b a.1).bind fun d=>(app 8 a.2 [c.Lo,d.Hi]).bind fun f=>some (.inl (w64 (a.1 + 1),f))) (some (.inr a.2))
noncomputable def qm5 (b : List qj) (a : Int × List Int) : Option ((Int × List Int) ⊕ (List Int)):=
  cond (decide (a.1 < (b.length : Int))) ((idx b a.1).bind fun c=>(idx b a.1).bind fun d=>(app 8 a.2 [c.Lo,d.Hi]).bind fun f=>some (.inl (w64 (a.1 + 1),f))) (some (.inr a.2))
noncomputable def qgf (a : List qj) (b : List qj) : Option (List Int):=
  (loop (q8q a) (0,[])).bind fun c=>(loop (qm5 b) (0,c)).bind fun d=>(q65 d).bind fun f=>some f
noncomputable def q8r (b : List qj) (c : Int) (a : Int) : Option ((Int) ⊕ ((Unit) ⊕ (Bool))):=
  cond (decide (a < (b.length : Int))) ((idx b a).bind fun d=>(cond (decide (d.Lo≤c)) ((idx b a).bind fun f=>some (decide (c < f.Hi))) (some false)).bind fun g=>cond g (some (.inr (.inr true))) (some (.inl (w64 (a + 1))))) (some (.inr (.inl ())))
noncomputable def qdi (a : List qj) (b : Int) : Option Bool:=
  (loop (q8r a b) 0 : Option ((Unit) ⊕ (Bool))).bind fun c=>(match c with | .inl _=>some false | .inr d=>some d)
noncomputable def qgg (c : Int) (a : Bool) (b : Bool) : Option Bool:=
  cond (c == 1) ((cond a (some b) (some false)).bind fun d=>some d) (cond (c == 2) ((cond a (some true) (some b)).bind fun f=>some f) ((cond a (some (!b)) (some false)).bind fun g=>some g))
noncomputable def q8p (b : List Int) (c : List Bool) (a : Int × List qj) : Option ((Int × List qj) ⊕ (List qj)):=
  cond (decide ((w64 (a.1 + 1)) < (b.length : Int))) (((idx c a.1).bind fun d=>cond (!d) (some a.2) ((cond (decide ((a.2.length : Int) > 0)) ((idx a.2 (w64 ((a.2.length : Int) - 1))).bind fun f=>(idx b a.1).bind fun g=>some (f.Hi == g)) (some false)).bind fun h=>cond h ((idx b (w64 (a.1 + 1))).bind fun j=>(idx a.2 (w64 ((a.2.length : Int) - 1))).bind fun k=>some (a.2.set (w64 ((a.2.length : Int) - 1)).toNat ({Lo:=k.Lo,Hi:=j} : qj))) ((idx b a.1).bind fun l=>(idx b (w64 (a.1 + 1))).bind fun m=>(app 16 a.2 [({Lo:=l,Hi:=m} : qj)]).bind fun n=>some n))).bind fun o=>some (.inl (w64 (a.1 + 1),o))) (some (.inr a.2))
noncomputable def qgd (a : List Int) (b : List Bool) : Option (List qj):=
  (loop (q8p a b) (0,[])).bind fun c=>some c
noncomputable def q8s (b : List Int) (c : List qj) (d : List qj) (f : Int) (a : Int × List Bool) : Option ((Int × List Bool) ⊕ (List Bool)):=
  cond (decide (a.1 < (b.length : Int))) ((idx b a.1).bind fun g=>(qdi c g).bind fun h=>(idx b a.1).bind fun j=>(qdi d j).bind fun k=>(qgg f h k).bind fun l=>(app 1 a.2 [l]).bind fun m=>some (.inl (w64 (a.1 + 1),m))) (some (.inr a.2))
noncomputable def qdj (d : Int) (a : List qj) (b : List qj) : Option (List qj):=
  (qgf a b).bind fun c=>(loop (q8s c a b d) (0,[])).bind fun f=>(qgd c f).bind fun g=>some g
noncomputable def qbd (b : List qj) (a : Int × Int) : Option ((Int × Int) ⊕ (Int)):=
  cond (decide (a.2 < (b.length : Int))) ((idx b a.2).bind fun c=>some (.inl (w64 (a.1 + (w64 (c.Hi - c.Lo))),w64 (a.2 + 1)))) (some (.inr a.1))
noncomputable def qnj (a : List qj) : Option (Int × Int):=
  (qdu a).bind fun b=>cond (b != 0) (some (0,b)) ((loop (qbd a) (0,0)).bind fun c=>some (c,0))
noncomputable def q8t (b : List qj) (a : Int × Int) : Option ((Int × Int) ⊕ (Int)):=
  cond (decide (a.2 < (b.length : Int))) ((idx b a.2).bind fun c=>(idx b a.2).bind fun d=>some (.inl (w64 ((w64 (a.1 + c.Hi)) - d.Lo),w64 (a.2 + 1)))) (some (.inr a.1))
noncomputable def qm7 (a : List qj) : Option (Int × Int):=
  (qdh a).bind fun b=>cond (b != 0) ((qdh a).bind fun c=>some (0,c)) ((loop (q8t a) (0,0)).bind fun d=>some (d,0))
structure qc8 where
  X : Int
  Y : Int
  Z : Int
  deriving DecidableEq
structure qoj where
  Turn : Int
  At : qc8
  deriving DecidableEq
structure q137 where
  Frame : qoj
  Size : qc8
  deriving DecidableEq
structure q136 where
  t_ : Int
  at_ : qc8
  flat_ : qc8
  deriving DecidableEq
end Go.Sh
