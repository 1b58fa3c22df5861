/- PX -/
import Derived.Test.YtgkialgkmjnfbaaGreatK9
namespace Go.Sh
open Go Go.Am
structure qf where
  X : Int
  Y : Int
  deriving DecidableEq
structure qm where
  A : Int
  B : Int
  deriving DecidableEq
structure Qz where
  Nodes : List qf
  Edges : List qm
  deriving DecidableEq
def qq (x : qf) : List DV:=[.int .i64 x.X,.int .i64 x.Y]
def qy (x : qm) : List DV:=[.int .i64 x.A,.int .i64 x.B]
noncomputable def q5s (a : Qz) : Option Bool:=
  (cond (decide ((a.Nodes.length : Int) > 400)) (some true) (some (decide ((a.Edges.length : Int) > 800)))).bind fun b=>cond b ((cond (decide ((a.Nodes.length : Int) > 420)) (some true) (some (decide ((a.Edges.length : Int) > 820)))).bind fun c=>some c) ((cond (decide ((a.Nodes.length : Int) > 40)) (some true) (some (decide ((a.Edges.length : Int) > 60)))).bind fun d=>some d)
structure Qb where
  A : qf
  B : qf
  deriving DecidableEq
noncomputable def q70 (a : qf) : Option Bool:=
  (cond (decide ((min a.X a.Y) ≥ (-1000000))) (some (decide ((max a.X a.Y)≤1000000))) (some false)).bind fun b=>some b
noncomputable def qaz (a : Qb) : Option Bool:=
  (q70 a.A).bind fun b=>(cond b ((q70 a.B).bind fun c=>some c) (some false)).bind fun d=>(cond d (some (!((a.A.X == a.B.X) == (a.A.Y == a.B.Y)))) (some false)).bind fun f=>some f
def Kd (x : Qb) : List DV:=[.int .i64 x.A.X,.int .i64 x.A.Y,.int .i64 x.B.X,.int .i64 x.B.Y]
noncomputable def Uk (b : Qz) (c : Int × List Qb) : Option ((Int × List Qb) ⊕ ((List Qb) ⊕ (List Qb × Bool))):=
  cond (decide (c.1 < (b.Edges.length : Int))) ((idx b.Edges c.1).bind fun a=>(cond (decide ((min a.A a.B) < 0)) (some true) (some (decide ((max a.A a.B) ≥ (b.Nodes.length : Int))))).bind fun g=>cond g (some (.inr (.inr ([],false)))) ((idx b.Nodes a.A).bind fun d=>(idx b.Nodes a.B).bind fun f=>(qaz ({A:=d,B:=f} : Qb)).bind fun h=>cond (!h) (some (.inr (.inr ([],false)))) ((app 32 c.2 [({A:=d,B:=f} : Qb)]).bind fun j=>some (.inl (w64 (c.1 + 1),j))))) (some (.inr (.inl c.2)))
noncomputable def q4p (a : Qz) : Option (List Qb × Bool):=
  (loop (Uk a) (0,[]) : Option ((List Qb) ⊕ (List Qb × Bool))).bind fun b=>(match b with | .inl c=>some (c,true) | .inr d=>some d)
structure qi where
  Lo : Int
  Hi : Int
  deriving DecidableEq
structure Y9 where
  rows_ : List (Int × List qi)
  columns_ : List (Int × List qi)
  deriving DecidableEq
def Q8 (x : qi) : List DV:=[.int .i64 x.Lo,.int .i64 x.Hi]
noncomputable def q32 (b : List qi) (c : qi→Option Bool) (a : Int) : Option ((Int) ⊕ ((Unit) ⊕ (Int))):=
  cond (decide (a < (b.length : Int))) ((idx b a).bind fun d=>(c d).bind fun f=>cond f (some (.inr (.inr a))) (some (.inl (w64 (a + 1))))) (some (.inr (.inl ())))
noncomputable def q8h (a : List qi) (b : qi→Option Bool) : Option Int:=
  (loop (q32 a b) 0 : Option ((Unit) ⊕ (Int))).bind fun c=>(match c with | .inl _=>some (-1) | .inr d=>some d)
noncomputable def q66 (a : List qi) (b : qi→Option Bool) : Option Bool:=
  (q8h a b).bind fun c=>some (decide (c ≥ 0))
noncomputable def q33 (a : qi) : Option Bool:=
  (cond (decide (a.Lo < a.Hi)) (some (decide (a.Lo ≥ (-1000000)))) (some false)).bind fun b=>(cond b (some (decide (a.Hi≤1000000))) (some false)).bind fun c=>some c
noncomputable def qd8 (a : qi) : Option Bool:=
  (q33 a).bind fun b=>some (!b)
def q1k (x : List qi) : List DV:=[.sl 2 (x.map Q8)]
structure qn where
  at_ : Int
  list_ : Int
  by_ : Int
  deriving DecidableEq
def Qe (x : qn) : List DV:=[.int .i64 x.at_,.int .i64 x.list_,.int .i64 x.by_]
noncomputable def qan (a : qn) (b : qn) : Option Int:=
  some (w64 (a.at_ - b.at_))
def qau : ByteArray:=⟨#[0,1,2,2,3,3,3,3,4,4,4,4,4,4,4,4,5,5,5,5,5,5,5,5,5,5,5,5,5,5,5,5,6,6,6,6,6,6,6,6,6,6,6,6,6,6,6,6,6,6,6,6,6,6,6,6,6,6,6,6,6,6,6,6,7,7,7,7,7,7,7,7,7,7,7,7,7,7,7,7,7,7,7,7,7,7,7,7,7,7,7,7,7,7,7,7,7,7,7,7,7,7,7,7,7,7,7,7,7,7,7,7,7,7,7,7,7,7,7,7,7,7,7,7,7,7,7,7,8,8,8,8,8,8,8,8,8,8,8,8,8,8,8,8,8,8,8,8,8,8,8,8,8,8,8,8,8,8,8,8,8,8,8,8,8,8,8,8,8,8,8,8,8,8,8,8,8,8,8,8,8,8,8,8,8,8,8,8,8,8,8,8,8,8,8,8,8,8,8,8,8,8,8,8,8,8,8,8,8,8,8,8,8,8,8,8,8,8,8,8,8,8,8,8,8,8,8,8,8,8,8,8,8,8,8,8,8,8,8,8,8,8,8,8,8,8,8,8,8,8,8,8,8,8,8,8]⟩
noncomputable def q1v (c : Int) : Option Int:=
  (cond (decide (c ≥ 4294967296)) (some (Int.fdiv c (2 ^ 32),32)) (some (c,0))).bind fun a=>(cond (decide (a.1 ≥ 65536)) (some (Int.fdiv a.1 (2 ^ 16),w64 (a.2 + 16))) (some (a.1,a.2))).bind fun b=>(cond (decide (b.1 ≥ 256)) (some (Int.fdiv b.1 (2 ^ 8),w64 (b.2 + 8))) (some (b.1,b.2))).bind fun d=>(q4o qau (IntKind.wrap .u8 d.1)).bind fun f=>some (w64 (d.2 + (w64 f)))
noncomputable def Ju (a : Int) : Option Int:=
  (q1v a).bind fun b=>some b
noncomputable def q98 (c : Int) (d : qn→qn→Option Int) (a : Int × List qn) : Option ((Int × List qn) ⊕ (List qn)):=
  (cond (decide (a.1 > c)) ((idx a.2 a.1).bind fun f=>(idx a.2 (w64 (a.1 - 1))).bind fun g=>(d f g).bind fun h=>some (decide (h < 0))) (some false)).bind fun j=>cond j ((idx a.2 (w64 (a.1 - 1))).bind fun b=>(idx a.2 a.1).bind fun k=>(idx a.2 a.1).bind fun _=>(idx (a.2.set a.1.toNat b) (w64 (a.1 - 1))).bind fun _=>some (.inl (w64 (a.1 - 1),(a.2.set a.1.toNat b).set (w64 (a.1 - 1)).toNat k))) (some (.inr a.2))
noncomputable def q97 (b : Int) (c : Int) (d : qn→qn→Option Int) (a : Int × List qn) : Option ((Int × List qn) ⊕ (List qn)):=
  cond (decide (a.1 < b)) (((loop (q98 c d) (a.1,a.2)).bind fun f=>some f).bind fun g=>some (.inl (w64 (a.1 + 1),g))) (some (.inr a.2))
noncomputable def q96 (b : qn→qn→Option Int) (c : List qn) (a : Int) (d : Int) : Option (List qn):=
  (loop (q97 d a b) (w64 (a + 1),c)).bind fun f=>some f
noncomputable def qak (d : Int) (b : Int) (f : qn→qn→Option Int) (a : Int × List qn) : Option ((Int × List qn) ⊕ (List qn)):=
  cond (decide ((w64 ((w64 (2 * a.1)) + 1)) ≥ d)) (some (.inr a.2)) ((cond (decide ((w64 ((w64 ((w64 (2 * a.1)) + 1)) + 1)) < d)) ((idx a.2 (w64 (b + (w64 ((w64 (2 * a.1)) + 1))))).bind fun h=>(idx a.2 (w64 ((w64 (b + (w64 ((w64 (2 * a.1)) + 1)))) + 1))).bind fun j=>(f h j).bind fun k=>some (decide (k < 0))) (some false)).bind fun l=>(cond l (some (w64 ((w64 ((w64 (2 * a.1)) + 1)) + 1))) (some (w64 ((w64 (2 * a.1)) + 1)))).bind fun c=>(idx a.2 (w64 (b + a.1))).bind fun m=>(idx a.2 (w64 (b + c))).bind fun n=>(f m n).bind fun o=>cond (!(decide (o < 0))) (some (.inr a.2)) ((idx a.2 (w64 (b + c))).bind fun g=>(idx a.2 (w64 (b + a.1))).bind fun p=>(idx a.2 (w64 (b + a.1))).bind fun _=>(idx (a.2.set (w64 (b + a.1)).toNat g) (w64 (b + c))).bind fun _=>some (.inl (c,(a.2.set (w64 (b + a.1)).toNat g).set (w64 (b + c)).toNat p))))
noncomputable def q6v (a : qn→qn→Option Int) (b : List qn) (c : Int) (d : Int) (f : Int) : Option (List qn):=
  (loop (qak d f a) (c,b)).bind fun g=>some g
noncomputable def q8y (d : qn→qn→Option Int) (f : Int) (b : Int) (a : Int × List qn) : Option ((Int × List qn) ⊕ (List qn)):=
  cond (decide (a.1 ≥ 0)) ((q6v d a.2 a.1 (w64 (f - b)) b).bind fun c=>(K1 c.length a.2.length).bind fun _=>some (.inl (w64 (a.1 - 1),c))) (some (.inr a.2))
noncomputable def q8z (b : Int) (g : qn→qn→Option Int) (a : Int × List qn) : Option ((Int × List qn) ⊕ (List qn)):=
  cond (decide (a.1 ≥ 0)) ((idx a.2 (w64 (b + a.1))).bind fun c=>(idx a.2 b).bind fun d=>(idx a.2 b).bind fun _=>(idx (a.2.set b.toNat c) (w64 (b + a.1))).bind fun _=>(q6v g ((a.2.set b.toNat c).set (w64 (b + a.1)).toNat d) 0 a.1 b).bind fun f=>(K1 f.length ((a.2.set b.toNat c).set (w64 (b + a.1)).toNat d).length).bind fun _=>some (.inl (w64 (a.1 - 1),f))) (some (.inr a.2))
noncomputable def q8x (c : qn→qn→Option Int) (d : List qn) (a : Int) (b : Int) : Option (List qn):=
  (loop (q8y c b a) (w64 (Int.tdiv (w64 ((w64 (b - a)) - 1)) 2),d)).bind fun f=>(loop (q8z a c) (w64 ((w64 (b - a)) - 1),f)).bind fun g=>some g
noncomputable def q4k (f : qn→qn→Option Int) (c : List qn) (a : Int) (b : Int) (d : Int) : Option (Int × Int × Int):=
  (idx c b).bind fun g=>(idx c a).bind fun h=>(f g h).bind fun j=>cond (decide (j < 0)) (some (b,a,w64 (d + 1))) (some (a,b,d))
noncomputable def q6d (a : qn→qn→Option Int) (b : List qn) (g : Int) (h : Int) (j : Int) (k : Int) : Option (Int × Int):=
  (q4k a b g h k).bind fun c=>(q4k a b c.2.1 j c.2.2).bind fun d=>(q4k a b c.1 d.1 d.2.2).bind fun f=>some (f.2.1,f.2.2)
noncomputable def q4h (c : qn→qn→Option Int) (d : List qn) (a : Int) (f : Int) : Option (Int × Int):=
  (q6d c d (w64 (a - 1)) a (w64 (a + 1)) f).bind fun b=>some (b.1,b.2)
noncomputable def q8q (d : List qn) (a : Int) (b : Int) (f : qn→qn→Option Int) : Option (Int × Int):=
  (cond (decide ((w64 (b - a)) ≥ 8)) ((cond (decide ((w64 (b - a)) ≥ 50)) ((q4h f d (w64 (a + (w64 ((w64 (Int.tdiv (w64 (b - a)) 4)) * 1)))) 0).bind fun h=>(q4h f d (w64 (a + (w64 ((w64 (Int.tdiv (w64 (b - a)) 4)) * 2)))) h.2).bind fun j=>(q4h f d (w64 (a + (w64 ((w64 (Int.tdiv (w64 (b - a)) 4)) * 3)))) j.2).bind fun k=>some (h.1,j.1,k.1,k.2)) (some (w64 (a + (w64 ((w64 (Int.tdiv (w64 (b - a)) 4)) * 1))),w64 (a + (w64 ((w64 (Int.tdiv (w64 (b - a)) 4)) * 2))),w64 (a + (w64 ((w64 (Int.tdiv (w64 (b - a)) 4)) * 3))),0))).bind fun g=>(q6d f d g.1 g.2.1 g.2.2.1 g.2.2.2).bind fun l=>some (l.1,l.2)) (some (w64 (a + (w64 ((w64 (Int.tdiv (w64 (b - a)) 4)) * 2))),0))).bind fun c=>cond (c.2 == 0) (some (c.1,1)) (cond (c.2 == 12) (some (c.1,2)) (some (c.1,0)))
noncomputable def qah (a : Int × Int × List qn) : Option ((Int × Int × List qn) ⊕ (List qn)):=
  cond (decide (a.1 < a.2.1)) ((idx a.2.2 a.2.1).bind fun b=>(idx a.2.2 a.1).bind fun c=>(idx a.2.2 a.1).bind fun _=>(idx (a.2.2.set a.1.toNat b) a.2.1).bind fun _=>some (.inl (w64 (a.1 + 1),w64 (a.2.1 - 1),(a.2.2.set a.1.toNat b).set a.2.1.toNat c))) (some (.inr a.2.2))
noncomputable def qag (f : qn→qn→Option Int) (a : List qn) (b : Int) (c : Int) : Option (List qn):=
  (loop qah (b,w64 (c - 1),a)).bind fun d=>some d
noncomputable def q9f (c : Int) (b : Int × Int × List qn) (d : qn→qn→Option Int) (a : Int) : Option ((Int) ⊕ (Int)):=
  (cond (decide (a < c)) ((idx b.2.2 a).bind fun f=>(idx b.2.2 (w64 (a - 1))).bind fun g=>(d f g).bind fun h=>some (!(decide (h < 0)))) (some false)).bind fun j=>cond j (some (.inl (w64 (a + 1)))) (some (.inr a))
noncomputable def q9g (c : qn→qn→Option Int) (a : Int × List qn) : Option ((Int × List qn) ⊕ (List qn)):=
  cond (decide (a.1 ≥ 1)) ((idx a.2 a.1).bind fun d=>(idx a.2 (w64 (a.1 - 1))).bind fun f=>(c d f).bind fun g=>cond (!(decide (g < 0))) (some (.inr a.2)) ((idx a.2 (w64 (a.1 - 1))).bind fun b=>(idx a.2 a.1).bind fun h=>(idx a.2 a.1).bind fun _=>(idx (a.2.set a.1.toNat b) (w64 (a.1 - 1))).bind fun _=>some (.inl (w64 (a.1 - 1),(a.2.set a.1.toNat b).set (w64 (a.1 - 1)).toNat h)))) (some (.inr a.2))
noncomputable def q9h (d : Int) (f : qn→qn→Option Int) (b : Int) (a : Int × List qn) : Option ((Int × List qn) ⊕ (Int × List qn)):=
  cond (decide (a.1 < d)) ((idx a.2 a.1).bind fun g=>(idx a.2 (w64 (a.1 - 1))).bind fun h=>(f g h).bind fun j=>cond (!(decide (j < 0))) (some (.inr (b,a.2))) ((idx a.2 (w64 (a.1 - 1))).bind fun c=>(idx a.2 a.1).bind fun k=>(idx a.2 a.1).bind fun _=>(idx (a.2.set a.1.toNat c) (w64 (a.1 - 1))).bind fun _=>some (.inl (w64 (a.1 + 1),(a.2.set a.1.toNat c).set (w64 (a.1 - 1)).toNat k)))) (some (.inr (b,a.2)))
noncomputable def q6j (c : Int) (d : qn→qn→Option Int) (h : Int) (b : Int × Int × List qn) : Option ((Int × Int × List qn) ⊕ ((List qn) ⊕ (Bool × List qn))):=
  cond (decide (b.2.1 < 5)) (((loop (q9f c b d) b.1).bind fun a=>cond (a == c) (some (.inr (true,b.2.2))) (cond (decide ((w64 (c - h)) < 50)) (some (.inr (false,b.2.2))) ((idx b.2.2 (w64 (a - 1))).bind fun f=>(idx b.2.2 a).bind fun j=>(idx b.2.2 a).bind fun _=>(idx (b.2.2.set a.toNat f) (w64 (a - 1))).bind fun _=>(cond (decide ((w64 (a - h)) ≥ 2)) ((loop (q9g d) (w64 (a - 1),(b.2.2.set a.toNat f).set (w64 (a - 1)).toNat j)).bind fun g=>some g) (some ((b.2.2.set a.toNat f).set (w64 (a - 1)).toNat j))).bind fun k=>cond (decide ((w64 (c - a)) ≥ 2)) ((loop (q9h c d a) (w64 (a + 1),k)).bind fun g=>some (.inl g)) (some (.inl (a,k))))) : Option ((Int × List qn) ⊕ (Bool × List qn))).bind fun m=>(match m with | .inl l=>some (.inl (l.1,w64 (b.2.1 + 1),l.2)) | .inr n=>some (.inr (.inr n)))) (some (.inr (.inl b.2.2)))
noncomputable def q6i (b : qn→qn→Option Int) (c : List qn) (a : Int) (d : Int) : Option (Bool × List qn):=
  (loop (q6j d b a) (w64 (a + 1),0,c) : Option ((List qn) ⊕ (Bool × List qn))).bind fun f=>(match f with | .inl g=>some (false,g) | .inr h=>some h)
noncomputable def qaa (b : Int × Int × List qn) (c : Int) (d : qn→qn→Option Int) (a : Int) : Option ((Int) ⊕ (Int)):=
  (cond (decide (a≤b.2.1)) ((idx b.2.2 c).bind fun f=>(idx b.2.2 a).bind fun g=>(d f g).bind fun h=>some (!(decide (h < 0)))) (some false)).bind fun j=>cond j (some (.inl (w64 (a + 1)))) (some (.inr a))
noncomputable def qab (c : Int) (b : Int × Int × List qn) (d : Int) (f : qn→qn→Option Int) (a : Int) : Option ((Int) ⊕ (Int)):=
  (cond (decide (c≤a)) ((idx b.2.2 d).bind fun g=>(idx b.2.2 a).bind fun h=>(f g h).bind fun j=>some (decide (j < 0))) (some false)).bind fun k=>cond k (some (.inl (w64 (a - 1)))) (some (.inr a))
noncomputable def qa9 (d : Int) (f : qn→qn→Option Int) (a : Int × Int × List qn) : Option ((Int × Int × List qn) ⊕ (Int × List qn)):=
  (loop (qaa a d f) a.1).bind fun b=>(loop (qab b a d f) a.2.1).bind fun c=>cond (decide (b > c)) (some (.inr (b,a.2.2))) ((idx a.2.2 c).bind fun g=>(idx a.2.2 b).bind fun h=>(idx a.2.2 b).bind fun _=>(idx (a.2.2.set b.toNat g) c).bind fun _=>some (.inl (w64 (b + 1),w64 (c - 1),(a.2.2.set b.toNat g).set c.toNat h)))
noncomputable def qa8 (g : qn→qn→Option Int) (b : List qn) (a : Int) (h : Int) (c : Int) : Option (Int × List qn):=
  (idx b c).bind fun d=>(idx b a).bind fun j=>(idx b a).bind fun _=>(idx (b.set a.toNat d) c).bind fun _=>(loop (qa9 a g) (w64 (a + 1),w64 (h - 1),(b.set a.toNat d).set c.toNat j)).bind fun f=>some (f.1,f.2)
noncomputable def q9v (h : Int) (c : List qn) (b : Int) (d : qn) (f : Int) (g : qn) (j : qn→qn→Option Int) (a : Int) : Option ((Int) ⊕ (Int)):=
  (cond (decide (a≤(w64 (h - 1)))) ((idx ((c.set b.toNat d).set f.toNat g) a).bind fun k=>(idx ((c.set b.toNat d).set f.toNat g) b).bind fun l=>(j k l).bind fun m=>some (decide (m < 0))) (some false)).bind fun n=>cond n (some (.inl (w64 (a + 1)))) (some (.inr a))
noncomputable def q9w (h : Int) (c : List qn) (b : Int) (d : qn) (f : Int) (g : qn) (j : qn→qn→Option Int) (a : Int) : Option ((Int) ⊕ (Int)):=
  (cond (decide (h≤a)) ((idx ((c.set b.toNat d).set f.toNat g) a).bind fun k=>(idx ((c.set b.toNat d).set f.toNat g) b).bind fun l=>(j k l).bind fun m=>some (!(decide (m < 0)))) (some false)).bind fun n=>cond n (some (.inl (w64 (a - 1)))) (some (.inr a))
noncomputable def q9y (b : Int × Int × List qn) (c : Int) (d : qn→qn→Option Int) (a : Int) : Option ((Int) ⊕ (Int)):=
  (cond (decide (a≤b.2.1)) ((idx b.2.2 a).bind fun f=>(idx b.2.2 c).bind fun g=>(d f g).bind fun h=>some (decide (h < 0))) (some false)).bind fun j=>cond j (some (.inl (w64 (a + 1)))) (some (.inr a))
noncomputable def q9z (c : Int) (b : Int × Int × List qn) (d : Int) (f : qn→qn→Option Int) (a : Int) : Option ((Int) ⊕ (Int)):=
  (cond (decide (c≤a)) ((idx b.2.2 a).bind fun g=>(idx b.2.2 d).bind fun h=>(f g h).bind fun j=>some (!(decide (j < 0)))) (some false)).bind fun k=>cond k (some (.inl (w64 (a - 1)))) (some (.inr a))
noncomputable def q9x (d : Int) (f : qn→qn→Option Int) (a : Int × Int × List qn) : Option ((Int × Int × List qn) ⊕ (Int × List qn)):=
  (loop (q9y a d f) a.1).bind fun b=>(loop (q9z b a d f) a.2.1).bind fun c=>cond (decide (b > c)) (some (.inr (c,a.2.2))) ((idx a.2.2 c).bind fun g=>(idx a.2.2 b).bind fun h=>(idx a.2.2 b).bind fun _=>(idx (a.2.2.set b.toNat g) c).bind fun _=>some (.inl (w64 (b + 1),w64 (c - 1),(a.2.2.set b.toNat g).set c.toNat h)))
noncomputable def q9u (k : qn→qn→Option Int) (b : List qn) (a : Int) (l : Int) (c : Int) : Option (Int × Bool × List qn):=
  (idx b c).bind fun d=>(idx b a).bind fun f=>(idx b a).bind fun _=>(idx (b.set a.toNat d) c).bind fun _=>(loop (q9v l b a d c f k) (w64 (a + 1))).bind fun j=>(loop (q9w j b a d c f k) (w64 (l - 1))).bind fun g=>cond (decide (j > g)) ((idx ((b.set a.toNat d).set c.toNat f) a).bind fun m=>(idx ((b.set a.toNat d).set c.toNat f) g).bind fun p=>(idx ((b.set a.toNat d).set c.toNat f) g).bind fun _=>(idx (((b.set a.toNat d).set c.toNat f).set g.toNat m) a).bind fun _=>some (g,true,(((b.set a.toNat d).set c.toNat f).set g.toNat m).set a.toNat p)) ((idx ((b.set a.toNat d).set c.toNat f) g).bind fun n=>(idx ((b.set a.toNat d).set c.toNat f) j).bind fun q=>(idx ((b.set a.toNat d).set c.toNat f) j).bind fun _=>(idx (((b.set a.toNat d).set c.toNat f).set j.toNat n) g).bind fun _=>(loop (q9x a k) (w64 (j + 1),w64 (g - 1),(((b.set a.toNat d).set c.toNat f).set j.toNat n).set g.toNat q)).bind fun h=>(idx h.2 a).bind fun o=>(idx h.2 h.1).bind fun r=>(idx h.2 h.1).bind fun _=>(idx (h.2.set h.1.toNat o) a).bind fun _=>some (h.1,false,(h.2.set h.1.toNat o).set a.toNat r))
noncomputable def Uh (a : Int) : Option Int:=
  (Ju (IntKind.wrap .u64 a)).bind fun b=>(shlK .u64 1 b).bind fun c=>some c
noncomputable def Ui (a : Int) : Option Int:=
  some (xorI .u64 (xorI .u64 (xorI .u64 a (IntKind.wrap .u64 (a * (2 ^ 13)))) (Int.fdiv (xorI .u64 a (IntKind.wrap .u64 (a * (2 ^ 13)))) (2 ^ 7))) (IntKind.wrap .u64 ((xorI .u64 (xorI .u64 a (IntKind.wrap .u64 (a * (2 ^ 13)))) (Int.fdiv (xorI .u64 a (IntKind.wrap .u64 (a * (2 ^ 13)))) (2 ^ 7))) * (2 ^ 17))))
noncomputable def q8n (b : Int) (d : Int) (f : Int) (a : Int × List qn × Int) : Option ((Int × List qn × Int) ⊕ (List qn)):=
  cond (decide (a.1≤(w64 ((w64 (b + (w64 ((w64 (Int.tdiv (w64 (d - b)) 4)) * 2)))) + 1)))) ((Ui a.2.2).bind fun c=>(cond (decide ((w64 (andI .u64 c (IntKind.wrap .u64 (f - 1)))) ≥ (w64 (d - b)))) (some (w64 ((w64 (andI .u64 c (IntKind.wrap .u64 (f - 1)))) - (w64 (d - b))))) (some (w64 (andI .u64 c (IntKind.wrap .u64 (f - 1)))))).bind fun g=>(idx a.2.1 (w64 (b + g))).bind fun h=>(idx a.2.1 a.1).bind fun j=>(idx a.2.1 a.1).bind fun _=>(idx (a.2.1.set a.1.toNat h) (w64 (b + g))).bind fun _=>some (.inl (w64 (a.1 + 1),(a.2.1.set a.1.toNat h).set (w64 (b + g)).toNat j,c))) (some (.inr a.2.1))
noncomputable def q8m (g : qn→qn→Option Int) (c : List qn) (a : Int) (b : Int) : Option (List qn):=
  cond (decide ((w64 (b - a)) ≥ 8)) ((Uh (w64 (b - a))).bind fun d=>(loop (q8n a b d) (w64 ((w64 (a + (w64 ((w64 (Int.tdiv (w64 (b - a)) 4)) * 2)))) - 1),c,IntKind.wrap .u64 (w64 (b - a)))).bind fun f=>some f) (some c)
noncomputable def q6r (c : qn→qn→Option Int) (rec : List qn→Int→Int→Int→Option (List qn)) (a : Int × Int × Int × Bool × Bool × List qn) : Option ((Int × Int × Int × Bool × Bool × List qn) ⊕ (List qn)):=
  cond (decide ((w64 (a.2.1 - a.1))≤12)) ((q96 c a.2.2.2.2.2 a.1 a.2.1).bind fun l=>(K1 l.length a.2.2.2.2.2.length).bind fun _=>some (.inr l)) (cond (a.2.2.1 == 0) ((q8x c a.2.2.2.2.2 a.1 a.2.1).bind fun m=>(K1 m.length a.2.2.2.2.2.length).bind fun _=>some (.inr m)) ((cond (!a.2.2.2.1) ((q8m c a.2.2.2.2.2 a.1 a.2.1).bind fun n=>(K1 n.length a.2.2.2.2.2.length).bind fun _=>some (w64 (a.2.2.1 - 1),n)) (some (a.2.2.1,a.2.2.2.2.2))).bind fun d=>(q8q d.2 a.1 a.2.1 c).bind fun h=>(cond (h.2 == 2) ((qag c d.2 a.1 a.2.1).bind fun o=>(K1 o.length d.2.length).bind fun _=>some (w64 ((w64 (a.2.1 - 1)) - (w64 (h.1 - a.1))),1,o)) (some (h.1,h.2,d.2))).bind fun f=>(cond a.2.2.2.1 (some a.2.2.2.2.1) (some false)).bind fun r=>(cond r (some (f.2.1 == 1)) (some false)).bind fun s=>(cond s ((q6i c f.2.2 a.1 a.2.1).bind fun j=>(K1 j.2.length f.2.2.length).bind fun _=>cond j.1 (some (.inr j.2)) (some (.inl j.2))) (some (.inl f.2.2)) : Option ((List qn) ⊕ (List qn))).bind fun t=>(match t with | .inl g=>(cond (decide (a.1 > 0)) ((idx g (w64 (a.1 - 1))).bind fun u=>(idx g f.1).bind fun v=>(c u v).bind fun w=>some (!(decide (w < 0)))) (some false)).bind fun x=>cond x ((qa8 c g a.1 a.2.1 f.1).bind fun k=>(K1 k.2.length g.length).bind fun _=>some (.inl (k.1,a.2.1,d.1,a.2.2.2.1,a.2.2.2.2.1,k.2))) ((q9u c g a.1 a.2.1 f.1).bind fun b=>(K1 b.2.2.length g.length).bind fun _=>cond (decide ((w64 (b.1 - a.1)) < (w64 (a.2.1 - b.1)))) ((rec b.2.2 a.1 b.1 d.1).bind fun p=>(K1 p.length b.2.2.length).bind fun _=>some (.inl (w64 (b.1 + 1),a.2.1,d.1,decide ((w64 (b.1 - a.1)) ≥ (w64 (Int.tdiv (w64 (a.2.1 - a.1)) 8))),b.2.1,p))) ((rec b.2.2 (w64 (b.1 + 1)) a.2.1 d.1).bind fun q=>(K1 q.length b.2.2.length).bind fun _=>some (.inl (a.1,b.1,d.1,decide ((w64 (a.2.1 - b.1)) ≥ (w64 (Int.tdiv (w64 (a.2.1 - a.1)) 8))),b.2.1,q)))) | .inr y=>some (.inr y))))
noncomputable def q6s (rec : List qn→Int→Int→Int→Option (List qn)) (a : qn→qn→Option Int) (b : List qn) (c : Int) (d : Int) (f : Int) : Option (List qn):=
  (loop (q6r a rec) (c,d,f,true,true,b)).bind fun g=>some g
noncomputable def q6q : Nat→(qn→qn→Option Int)→List qn→Int→Int→Int→Option (List qn)
  | 0,_,_,_,_,_=>none
  | n + 1,a,b,c,d,f=>q6s (q6q n a) a b c d f
noncomputable def q6a (c : qn→qn→Option Int) (a : List qn) : Option (List qn):=
  (Ju (IntKind.wrap .u64 (a.length : Int))).bind fun d=>(lim (fun n=>q6q n c a 0 (a.length : Int) d)).bind fun b=>(K1 b.length a.length).bind fun _=>some b
noncomputable def qd4 (a : List qn) : Option (List qn):=
  some a
noncomputable def q4m (b : List qi) (c : Int × List qn) (a : Int × List qn) : Option ((Int × List qn) ⊕ (List qn)):=
  cond (decide (a.1 < (b.length : Int))) ((idx b a.1).bind fun d=>(app 24 a.2 [({at_:=d.Lo,list_:=c.1,by_:=1} : qn),({at_:=d.Hi,list_:=c.1,by_:=(-1)} : qn)]).bind fun f=>some (.inl (w64 (a.1 + 1),f))) (some (.inr a.2))
noncomputable def q1d (b : List (List qi)) (a : Int × List qn) : Option ((Int × List qn) ⊕ (List qn)):=
  cond (decide (a.1 < (b.length : Int))) (((idx b a.1).bind fun c=>(loop (q4m c a) (0,a.2)).bind fun d=>some d).bind fun f=>some (.inl (w64 (a.1 + 1),f))) (some (.inr a.2))
noncomputable def qao (b : List (List qi)) : Option (List (List qi) × List qn):=
  (loop (q1d b) (0,[])).bind fun c=>(q6a (fun f g=>qan f g) c).bind fun a=>(K1 a.length c.length).bind fun _=>(qd4 a).bind fun d=>(K1 d.length a.length).bind fun _=>some (b,d)
noncomputable def qap (b : Int) (d : Bool) (c : Int) (a : List qi) : Option (List qi):=
  (cond (!d) (some true) (some (c == b))).bind fun f=>cond f (some a) ((cond (decide ((a.length : Int) > 0)) ((idx a (w64 ((a.length : Int) - 1))).bind fun g=>some (g.Hi == c)) (some false)).bind fun h=>cond h ((idx a (w64 ((a.length : Int) - 1))).bind fun j=>some (a.set (w64 ((a.length : Int) - 1)).toNat ({Lo:=j.Lo,Hi:=b} : qi))) ((app 16 a [({Lo:=c,Hi:=b} : qi)]).bind fun k=>some k))
noncomputable def q4n (f : List (List qi) × List qn) (g : Bool→Bool→Option Bool) (a : Int × List Int × Int × Bool × List qi) : Option ((Int × List Int × Int × Bool × List qi) ⊕ (List qi)):=
  cond (decide (a.1 < (f.2.length : Int))) ((idx f.2 a.1).bind fun b=>((qap b.at_ a.2.2.2.1 a.2.2.1 a.2.2.2.2).bind fun h=>(idxA 2 a.2.1 b.list_).bind fun c=>(idxA 2 a.2.1 b.list_).bind fun _=>(idxA 2 (a.2.1.set b.list_.toNat (w64 (c + b.by_))) 0).bind fun j=>(idxA 2 (a.2.1.set b.list_.toNat (w64 (c + b.by_))) 1).bind fun k=>(g (decide (j > 0)) (decide (k > 0))).bind fun l=>some (a.2.1.set b.list_.toNat (w64 (c + b.by_)),l,h)).bind fun d=>some (.inl (w64 (a.1 + 1),d.1,b.at_,d.2.1,d.2.2))) (some (.inr a.2.2.2.2))
noncomputable def q6x (a : List qi) (b : List qi) (d : Bool→Bool→Option Bool) : Option (List qi):=
  (qao [a,b]).bind fun c=>(K1 c.1.length [a,b].length).bind fun _=>((loop (q4n c d) (0,[0,0],0,false,[])).bind fun f=>some f).bind fun g=>some g
noncomputable def qam (a : Bool) (b : Bool) : Option Bool:=
  some a
noncomputable def q24 (a : List qi) : Option (List qi × Int):=
  cond (decide ((a.length : Int) > 400)) (some ([],4)) ((q66 a (fun b=>qd8 b)).bind fun c=>cond c (some ([],8)) ((q6x a [] (fun b d=>qam b d)).bind fun f=>some (f,0)))
noncomputable def Ut (r : Y9) (s : Qb) : Option Y9:=
  cond (s.A.Y == s.B.Y) ((app 16 (K9 [] s.A.Y r.rows_) [({Lo:=min s.A.X s.B.X,Hi:=max s.A.X s.B.X} : qi)]).bind fun l=>some {rows_:=Ko s.A.Y l r.rows_,columns_:=r.columns_})
    ((app 16 (K9 [] s.A.X r.columns_) [({Lo:=min s.A.Y s.B.Y,Hi:=max s.A.Y s.B.Y} : qi)]).bind fun l=>some {rows_:=r.rows_,columns_:=Ko s.A.X l r.columns_})
noncomputable def q1h : List Qb→Y9→Option Y9
  | [],r=>some r
  | s::l,r=>(Ut r s).bind (q1h l)
noncomputable def Jl : List (Int × List qi)→Option (List (Int × List qi))
  | []=>some []
  | e::l=>(q24 e.2).bind fun x=>(Jl l).bind fun y=>some ((e.1,x.1)::y)
noncomputable def q6z (c : List Qb) : Option Y9:=
  cond (decide (c.length≤1000000)) ((q1h c {rows_:=[],columns_:=[]}).bind fun r=>(Jl r.rows_).bind fun a=>(Jl r.columns_).bind fun b=>some {rows_:=a,columns_:=b}) none
noncomputable def qd7 (a : qi) (b : Int) : Option Bool:=
  (cond (decide (a.Lo≤b)) (some (decide (b < a.Hi))) (some false)).bind fun c=>some c
noncomputable def q1c (a : List qi) (b : Int) : Option Bool:=
  (q66 a (fun c=>qd7 c b)).bind fun d=>some d
noncomputable def q4r (b : Y9) (a : qf) : Option (Bool × Bool × Bool × Bool):=
  (q1c (K9 [] a.Y b.rows_) a.X).bind fun c=>(q1c (K9 [] a.X b.columns_) a.Y).bind fun d=>(q1c (K9 [] a.Y b.rows_) (w64 (a.X - 1))).bind fun f=>(q1c (K9 [] a.X b.columns_) (w64 (a.Y - 1))).bind fun g=>some (c,d,f,g)
noncomputable def qay (b : Y9) (c : qf) : Option Bool:=
  (q4r b c).bind fun a=>(cond ((a.1 == false) && ((a.2.1 == false) && ((a.2.2.1 == false) && ((a.2.2.2 == false) && true)))) (some ((a.1 == false) && ((a.2.1 == false) && ((a.2.2.1 == false) && ((a.2.2.2 == false) && true))))) (cond ((a.1 == true) && ((a.2.1 == false) && ((a.2.2.1 == true) && ((a.2.2.2 == false) && true)))) (some ((a.1 == true) && ((a.2.1 == false) && ((a.2.2.1 == true) && ((a.2.2.2 == false) && true))))) (some ((a.1 == false) && ((a.2.1 == true) && ((a.2.2.1 == false) && ((a.2.2.2 == true) && true))))))).bind fun d=>cond d (some false) (some true)
noncomputable def q37 (a : qf) (c : List (Int × List qi)) (d : List (Int × List qi)) (b : List (qf × Bool)) : Option (List (qf × Bool)):=
  (qay ({rows_:=c,columns_:=d} : Y9) ({X:=(a).X,Y:=(a).Y} : qf)).bind fun f=>cond f (some (Ko ({X:=(a).X,Y:=(a).Y} : qf) true b)) (some b)
noncomputable def q1f (a : qf) (b : qf) : Option Int:=
  cond (a.X != b.X) (some (w64 (a.X - b.X))) (some (w64 (a.Y - b.Y)))
noncomputable def q95 (c : Int) (d : qf→qf→Option Int) (a : Int × List qf) : Option ((Int × List qf) ⊕ (List qf)):=
  (cond (decide (a.1 > c)) ((idx a.2 a.1).bind fun f=>(idx a.2 (w64 (a.1 - 1))).bind fun g=>(d f g).bind fun h=>some (decide (h < 0))) (some false)).bind fun j=>cond j ((idx a.2 (w64 (a.1 - 1))).bind fun b=>(idx a.2 a.1).bind fun k=>(idx a.2 a.1).bind fun _=>(idx (a.2.set a.1.toNat b) (w64 (a.1 - 1))).bind fun _=>some (.inl (w64 (a.1 - 1),(a.2.set a.1.toNat b).set (w64 (a.1 - 1)).toNat k))) (some (.inr a.2))
noncomputable def q94 (b : Int) (c : Int) (d : qf→qf→Option Int) (a : Int × List qf) : Option ((Int × List qf) ⊕ (List qf)):=
  cond (decide (a.1 < b)) (((loop (q95 c d) (a.1,a.2)).bind fun f=>some f).bind fun g=>some (.inl (w64 (a.1 + 1),g))) (some (.inr a.2))
noncomputable def q93 (b : qf→qf→Option Int) (c : List qf) (a : Int) (d : Int) : Option (List qf):=
  (loop (q94 d a b) (w64 (a + 1),c)).bind fun f=>some f
noncomputable def qaj (d : Int) (b : Int) (f : qf→qf→Option Int) (a : Int × List qf) : Option ((Int × List qf) ⊕ (List qf)):=
  cond (decide ((w64 ((w64 (2 * a.1)) + 1)) ≥ d)) (some (.inr a.2)) ((cond (decide ((w64 ((w64 ((w64 (2 * a.1)) + 1)) + 1)) < d)) ((idx a.2 (w64 (b + (w64 ((w64 (2 * a.1)) + 1))))).bind fun h=>(idx a.2 (w64 ((w64 (b + (w64 ((w64 (2 * a.1)) + 1)))) + 1))).bind fun j=>(f h j).bind fun k=>some (decide (k < 0))) (some false)).bind fun l=>(cond l (some (w64 ((w64 ((w64 (2 * a.1)) + 1)) + 1))) (some (w64 ((w64 (2 * a.1)) + 1)))).bind fun c=>(idx a.2 (w64 (b + a.1))).bind fun m=>(idx a.2 (w64 (b + c))).bind fun n=>(f m n).bind fun o=>cond (!(decide (o < 0))) (some (.inr a.2)) ((idx a.2 (w64 (b + c))).bind fun g=>(idx a.2 (w64 (b + a.1))).bind fun p=>(idx a.2 (w64 (b + a.1))).bind fun _=>(idx (a.2.set (w64 (b + a.1)).toNat g) (w64 (b + c))).bind fun _=>some (.inl (c,(a.2.set (w64 (b + a.1)).toNat g).set (w64 (b + c)).toNat p))))
noncomputable def q6u (a : qf→qf→Option Int) (b : List qf) (c : Int) (d : Int) (f : Int) : Option (List qf):=
  (loop (qaj d f a) (c,b)).bind fun g=>some g
noncomputable def q8v (d : qf→qf→Option Int) (f : Int) (b : Int) (a : Int × List qf) : Option ((Int × List qf) ⊕ (List qf)):=
  cond (decide (a.1 ≥ 0)) ((q6u d a.2 a.1 (w64 (f - b)) b).bind fun c=>(K1 c.length a.2.length).bind fun _=>some (.inl (w64 (a.1 - 1),c))) (some (.inr a.2))
noncomputable def q8w (b : Int) (g : qf→qf→Option Int) (a : Int × List qf) : Option ((Int × List qf) ⊕ (List qf)):=
  cond (decide (a.1 ≥ 0)) ((idx a.2 (w64 (b + a.1))).bind fun c=>(idx a.2 b).bind fun d=>(idx a.2 b).bind fun _=>(idx (a.2.set b.toNat c) (w64 (b + a.1))).bind fun _=>(q6u g ((a.2.set b.toNat c).set (w64 (b + a.1)).toNat d) 0 a.1 b).bind fun f=>(K1 f.length ((a.2.set b.toNat c).set (w64 (b + a.1)).toNat d).length).bind fun _=>some (.inl (w64 (a.1 - 1),f))) (some (.inr a.2))
noncomputable def q8u (c : qf→qf→Option Int) (d : List qf) (a : Int) (b : Int) : Option (List qf):=
  (loop (q8v c b a) (w64 (Int.tdiv (w64 ((w64 (b - a)) - 1)) 2),d)).bind fun f=>(loop (q8w a c) (w64 ((w64 (b - a)) - 1),f)).bind fun g=>some g
noncomputable def q4j (f : qf→qf→Option Int) (c : List qf) (a : Int) (b : Int) (d : Int) : Option (Int × Int × Int):=
  (idx c b).bind fun g=>(idx c a).bind fun h=>(f g h).bind fun j=>cond (decide (j < 0)) (some (b,a,w64 (d + 1))) (some (a,b,d))
noncomputable def q6c (a : qf→qf→Option Int) (b : List qf) (g : Int) (h : Int) (j : Int) (k : Int) : Option (Int × Int):=
  (q4j a b g h k).bind fun c=>(q4j a b c.2.1 j c.2.2).bind fun d=>(q4j a b c.1 d.1 d.2.2).bind fun f=>some (f.2.1,f.2.2)
noncomputable def q4g (c : qf→qf→Option Int) (d : List qf) (a : Int) (f : Int) : Option (Int × Int):=
  (q6c c d (w64 (a - 1)) a (w64 (a + 1)) f).bind fun b=>some (b.1,b.2)
noncomputable def q8p (d : List qf) (a : Int) (b : Int) (f : qf→qf→Option Int) : Option (Int × Int):=
  (cond (decide ((w64 (b - a)) ≥ 8)) ((cond (decide ((w64 (b - a)) ≥ 50)) ((q4g f d (w64 (a + (w64 ((w64 (Int.tdiv (w64 (b - a)) 4)) * 1)))) 0).bind fun h=>(q4g f d (w64 (a + (w64 ((w64 (Int.tdiv (w64 (b - a)) 4)) * 2)))) h.2).bind fun j=>(q4g f d (w64 (a + (w64 ((w64 (Int.tdiv (w64 (b - a)) 4)) * 3)))) j.2).bind fun k=>some (h.1,j.1,k.1,k.2)) (some (w64 (a + (w64 ((w64 (Int.tdiv (w64 (b - a)) 4)) * 1))),w64 (a + (w64 ((w64 (Int.tdiv (w64 (b - a)) 4)) * 2))),w64 (a + (w64 ((w64 (Int.tdiv (w64 (b - a)) 4)) * 3))),0))).bind fun g=>(q6c f d g.1 g.2.1 g.2.2.1 g.2.2.2).bind fun l=>some (l.1,l.2)) (some (w64 (a + (w64 ((w64 (Int.tdiv (w64 (b - a)) 4)) * 2))),0))).bind fun c=>cond (c.2 == 0) (some (c.1,1)) (cond (c.2 == 12) (some (c.1,2)) (some (c.1,0)))
noncomputable def qaf (a : Int × Int × List qf) : Option ((Int × Int × List qf) ⊕ (List qf)):=
  cond (decide (a.1 < a.2.1)) ((idx a.2.2 a.2.1).bind fun b=>(idx a.2.2 a.1).bind fun c=>(idx a.2.2 a.1).bind fun _=>(idx (a.2.2.set a.1.toNat b) a.2.1).bind fun _=>some (.inl (w64 (a.1 + 1),w64 (a.2.1 - 1),(a.2.2.set a.1.toNat b).set a.2.1.toNat c))) (some (.inr a.2.2))
noncomputable def qae (f : qf→qf→Option Int) (a : List qf) (b : Int) (c : Int) : Option (List qf):=
  (loop qaf (b,w64 (c - 1),a)).bind fun d=>some d
noncomputable def q9c (c : Int) (b : Int × Int × List qf) (d : qf→qf→Option Int) (a : Int) : Option ((Int) ⊕ (Int)):=
  (cond (decide (a < c)) ((idx b.2.2 a).bind fun f=>(idx b.2.2 (w64 (a - 1))).bind fun g=>(d f g).bind fun h=>some (!(decide (h < 0)))) (some false)).bind fun j=>cond j (some (.inl (w64 (a + 1)))) (some (.inr a))
noncomputable def q9d (c : qf→qf→Option Int) (a : Int × List qf) : Option ((Int × List qf) ⊕ (List qf)):=
  cond (decide (a.1 ≥ 1)) ((idx a.2 a.1).bind fun d=>(idx a.2 (w64 (a.1 - 1))).bind fun f=>(c d f).bind fun g=>cond (!(decide (g < 0))) (some (.inr a.2)) ((idx a.2 (w64 (a.1 - 1))).bind fun b=>(idx a.2 a.1).bind fun h=>(idx a.2 a.1).bind fun _=>(idx (a.2.set a.1.toNat b) (w64 (a.1 - 1))).bind fun _=>some (.inl (w64 (a.1 - 1),(a.2.set a.1.toNat b).set (w64 (a.1 - 1)).toNat h)))) (some (.inr a.2))
noncomputable def q9e (d : Int) (f : qf→qf→Option Int) (b : Int) (a : Int × List qf) : Option ((Int × List qf) ⊕ (Int × List qf)):=
  cond (decide (a.1 < d)) ((idx a.2 a.1).bind fun g=>(idx a.2 (w64 (a.1 - 1))).bind fun h=>(f g h).bind fun j=>cond (!(decide (j < 0))) (some (.inr (b,a.2))) ((idx a.2 (w64 (a.1 - 1))).bind fun c=>(idx a.2 a.1).bind fun k=>(idx a.2 a.1).bind fun _=>(idx (a.2.set a.1.toNat c) (w64 (a.1 - 1))).bind fun _=>some (.inl (w64 (a.1 + 1),(a.2.set a.1.toNat c).set (w64 (a.1 - 1)).toNat k)))) (some (.inr (b,a.2)))
noncomputable def q6h (c : Int) (d : qf→qf→Option Int) (h : Int) (b : Int × Int × List qf) : Option ((Int × Int × List qf) ⊕ ((List qf) ⊕ (Bool × List qf))):=
  cond (decide (b.2.1 < 5)) (((loop (q9c c b d) b.1).bind fun a=>cond (a == c) (some (.inr (true,b.2.2))) (cond (decide ((w64 (c - h)) < 50)) (some (.inr (false,b.2.2))) ((idx b.2.2 (w64 (a - 1))).bind fun f=>(idx b.2.2 a).bind fun j=>(idx b.2.2 a).bind fun _=>(idx (b.2.2.set a.toNat f) (w64 (a - 1))).bind fun _=>(cond (decide ((w64 (a - h)) ≥ 2)) ((loop (q9d d) (w64 (a - 1),(b.2.2.set a.toNat f).set (w64 (a - 1)).toNat j)).bind fun g=>some g) (some ((b.2.2.set a.toNat f).set (w64 (a - 1)).toNat j))).bind fun k=>cond (decide ((w64 (c - a)) ≥ 2)) ((loop (q9e c d a) (w64 (a + 1),k)).bind fun g=>some (.inl g)) (some (.inl (a,k))))) : Option ((Int × List qf) ⊕ (Bool × List qf))).bind fun m=>(match m with | .inl l=>some (.inl (l.1,w64 (b.2.1 + 1),l.2)) | .inr n=>some (.inr (.inr n)))) (some (.inr (.inl b.2.2)))
noncomputable def q6g (b : qf→qf→Option Int) (c : List qf) (a : Int) (d : Int) : Option (Bool × List qf):=
  (loop (q6h d b a) (w64 (a + 1),0,c) : Option ((List qf) ⊕ (Bool × List qf))).bind fun f=>(match f with | .inl g=>some (false,g) | .inr h=>some h)
noncomputable def qa6 (b : Int × Int × List qf) (c : Int) (d : qf→qf→Option Int) (a : Int) : Option ((Int) ⊕ (Int)):=
  (cond (decide (a≤b.2.1)) ((idx b.2.2 c).bind fun f=>(idx b.2.2 a).bind fun g=>(d f g).bind fun h=>some (!(decide (h < 0)))) (some false)).bind fun j=>cond j (some (.inl (w64 (a + 1)))) (some (.inr a))
noncomputable def qa7 (c : Int) (b : Int × Int × List qf) (d : Int) (f : qf→qf→Option Int) (a : Int) : Option ((Int) ⊕ (Int)):=
  (cond (decide (c≤a)) ((idx b.2.2 d).bind fun g=>(idx b.2.2 a).bind fun h=>(f g h).bind fun j=>some (decide (j < 0))) (some false)).bind fun k=>cond k (some (.inl (w64 (a - 1)))) (some (.inr a))
noncomputable def qa5 (d : Int) (f : qf→qf→Option Int) (a : Int × Int × List qf) : Option ((Int × Int × List qf) ⊕ (Int × List qf)):=
  (loop (qa6 a d f) a.1).bind fun b=>(loop (qa7 b a d f) a.2.1).bind fun c=>cond (decide (b > c)) (some (.inr (b,a.2.2))) ((idx a.2.2 c).bind fun g=>(idx a.2.2 b).bind fun h=>(idx a.2.2 b).bind fun _=>(idx (a.2.2.set b.toNat g) c).bind fun _=>some (.inl (w64 (b + 1),w64 (c - 1),(a.2.2.set b.toNat g).set c.toNat h)))
noncomputable def qa4 (g : qf→qf→Option Int) (b : List qf) (a : Int) (h : Int) (c : Int) : Option (Int × List qf):=
  (idx b c).bind fun d=>(idx b a).bind fun j=>(idx b a).bind fun _=>(idx (b.set a.toNat d) c).bind fun _=>(loop (qa5 a g) (w64 (a + 1),w64 (h - 1),(b.set a.toNat d).set c.toNat j)).bind fun f=>some (f.1,f.2)
noncomputable def q9p (h : Int) (c : List qf) (b : Int) (d : qf) (f : Int) (g : qf) (j : qf→qf→Option Int) (a : Int) : Option ((Int) ⊕ (Int)):=
  (cond (decide (a≤(w64 (h - 1)))) ((idx ((c.set b.toNat d).set f.toNat g) a).bind fun k=>(idx ((c.set b.toNat d).set f.toNat g) b).bind fun l=>(j k l).bind fun m=>some (decide (m < 0))) (some false)).bind fun n=>cond n (some (.inl (w64 (a + 1)))) (some (.inr a))
noncomputable def q9q (h : Int) (c : List qf) (b : Int) (d : qf) (f : Int) (g : qf) (j : qf→qf→Option Int) (a : Int) : Option ((Int) ⊕ (Int)):=
  (cond (decide (h≤a)) ((idx ((c.set b.toNat d).set f.toNat g) a).bind fun k=>(idx ((c.set b.toNat d).set f.toNat g) b).bind fun l=>(j k l).bind fun m=>some (!(decide (m < 0)))) (some false)).bind fun n=>cond n (some (.inl (w64 (a - 1)))) (some (.inr a))
noncomputable def q9s (b : Int × Int × List qf) (c : Int) (d : qf→qf→Option Int) (a : Int) : Option ((Int) ⊕ (Int)):=
  (cond (decide (a≤b.2.1)) ((idx b.2.2 a).bind fun f=>(idx b.2.2 c).bind fun g=>(d f g).bind fun h=>some (decide (h < 0))) (some false)).bind fun j=>cond j (some (.inl (w64 (a + 1)))) (some (.inr a))
noncomputable def q9t (c : Int) (b : Int × Int × List qf) (d : Int) (f : qf→qf→Option Int) (a : Int) : Option ((Int) ⊕ (Int)):=
  (cond (decide (c≤a)) ((idx b.2.2 a).bind fun g=>(idx b.2.2 d).bind fun h=>(f g h).bind fun j=>some (!(decide (j < 0)))) (some false)).bind fun k=>cond k (some (.inl (w64 (a - 1)))) (some (.inr a))
noncomputable def q9r (d : Int) (f : qf→qf→Option Int) (a : Int × Int × List qf) : Option ((Int × Int × List qf) ⊕ (Int × List qf)):=
  (loop (q9s a d f) a.1).bind fun b=>(loop (q9t b a d f) a.2.1).bind fun c=>cond (decide (b > c)) (some (.inr (c,a.2.2))) ((idx a.2.2 c).bind fun g=>(idx a.2.2 b).bind fun h=>(idx a.2.2 b).bind fun _=>(idx (a.2.2.set b.toNat g) c).bind fun _=>some (.inl (w64 (b + 1),w64 (c - 1),(a.2.2.set b.toNat g).set c.toNat h)))
noncomputable def q9o (k : qf→qf→Option Int) (b : List qf) (a : Int) (l : Int) (c : Int) : Option (Int × Bool × List qf):=
  (idx b c).bind fun d=>(idx b a).bind fun f=>(idx b a).bind fun _=>(idx (b.set a.toNat d) c).bind fun _=>(loop (q9p l b a d c f k) (w64 (a + 1))).bind fun j=>(loop (q9q j b a d c f k) (w64 (l - 1))).bind fun g=>cond (decide (j > g)) ((idx ((b.set a.toNat d).set c.toNat f) a).bind fun m=>(idx ((b.set a.toNat d).set c.toNat f) g).bind fun p=>(idx ((b.set a.toNat d).set c.toNat f) g).bind fun _=>(idx (((b.set a.toNat d).set c.toNat f).set g.toNat m) a).bind fun _=>some (g,true,(((b.set a.toNat d).set c.toNat f).set g.toNat m).set a.toNat p)) ((idx ((b.set a.toNat d).set c.toNat f) g).bind fun n=>(idx ((b.set a.toNat d).set c.toNat f) j).bind fun q=>(idx ((b.set a.toNat d).set c.toNat f) j).bind fun _=>(idx (((b.set a.toNat d).set c.toNat f).set j.toNat n) g).bind fun _=>(loop (q9r a k) (w64 (j + 1),w64 (g - 1),(((b.set a.toNat d).set c.toNat f).set j.toNat n).set g.toNat q)).bind fun h=>(idx h.2 a).bind fun o=>(idx h.2 h.1).bind fun r=>(idx h.2 h.1).bind fun _=>(idx (h.2.set h.1.toNat o) a).bind fun _=>some (h.1,false,(h.2.set h.1.toNat o).set a.toNat r))
noncomputable def q8l (b : Int) (d : Int) (f : Int) (a : Int × List qf × Int) : Option ((Int × List qf × Int) ⊕ (List qf)):=
  cond (decide (a.1≤(w64 ((w64 (b + (w64 ((w64 (Int.tdiv (w64 (d - b)) 4)) * 2)))) + 1)))) ((Ui a.2.2).bind fun c=>(cond (decide ((w64 (andI .u64 c (IntKind.wrap .u64 (f - 1)))) ≥ (w64 (d - b)))) (some (w64 ((w64 (andI .u64 c (IntKind.wrap .u64 (f - 1)))) - (w64 (d - b))))) (some (w64 (andI .u64 c (IntKind.wrap .u64 (f - 1)))))).bind fun g=>(idx a.2.1 (w64 (b + g))).bind fun h=>(idx a.2.1 a.1).bind fun j=>(idx a.2.1 a.1).bind fun _=>(idx (a.2.1.set a.1.toNat h) (w64 (b + g))).bind fun _=>some (.inl (w64 (a.1 + 1),(a.2.1.set a.1.toNat h).set (w64 (b + g)).toNat j,c))) (some (.inr a.2.1))
noncomputable def q8k (g : qf→qf→Option Int) (c : List qf) (a : Int) (b : Int) : Option (List qf):=
  cond (decide ((w64 (b - a)) ≥ 8)) ((Uh (w64 (b - a))).bind fun d=>(loop (q8l a b d) (w64 ((w64 (a + (w64 ((w64 (Int.tdiv (w64 (b - a)) 4)) * 2)))) - 1),c,IntKind.wrap .u64 (w64 (b - a)))).bind fun f=>some f) (some c)
noncomputable def q6o (c : qf→qf→Option Int) (rec : List qf→Int→Int→Int→Option (List qf)) (a : Int × Int × Int × Bool × Bool × List qf) : Option ((Int × Int × Int × Bool × Bool × List qf) ⊕ (List qf)):=
  cond (decide ((w64 (a.2.1 - a.1))≤12)) ((q93 c a.2.2.2.2.2 a.1 a.2.1).bind fun l=>(K1 l.length a.2.2.2.2.2.length).bind fun _=>some (.inr l)) (cond (a.2.2.1 == 0) ((q8u c a.2.2.2.2.2 a.1 a.2.1).bind fun m=>(K1 m.length a.2.2.2.2.2.length).bind fun _=>some (.inr m)) ((cond (!a.2.2.2.1) ((q8k c a.2.2.2.2.2 a.1 a.2.1).bind fun n=>(K1 n.length a.2.2.2.2.2.length).bind fun _=>some (w64 (a.2.2.1 - 1),n)) (some (a.2.2.1,a.2.2.2.2.2))).bind fun d=>(q8p d.2 a.1 a.2.1 c).bind fun h=>(cond (h.2 == 2) ((qae c d.2 a.1 a.2.1).bind fun o=>(K1 o.length d.2.length).bind fun _=>some (w64 ((w64 (a.2.1 - 1)) - (w64 (h.1 - a.1))),1,o)) (some (h.1,h.2,d.2))).bind fun f=>(cond a.2.2.2.1 (some a.2.2.2.2.1) (some false)).bind fun r=>(cond r (some (f.2.1 == 1)) (some false)).bind fun s=>(cond s ((q6g c f.2.2 a.1 a.2.1).bind fun j=>(K1 j.2.length f.2.2.length).bind fun _=>cond j.1 (some (.inr j.2)) (some (.inl j.2))) (some (.inl f.2.2)) : Option ((List qf) ⊕ (List qf))).bind fun t=>(match t with | .inl g=>(cond (decide (a.1 > 0)) ((idx g (w64 (a.1 - 1))).bind fun u=>(idx g f.1).bind fun v=>(c u v).bind fun w=>some (!(decide (w < 0)))) (some false)).bind fun x=>cond x ((qa4 c g a.1 a.2.1 f.1).bind fun k=>(K1 k.2.length g.length).bind fun _=>some (.inl (k.1,a.2.1,d.1,a.2.2.2.1,a.2.2.2.2.1,k.2))) ((q9o c g a.1 a.2.1 f.1).bind fun b=>(K1 b.2.2.length g.length).bind fun _=>cond (decide ((w64 (b.1 - a.1)) < (w64 (a.2.1 - b.1)))) ((rec b.2.2 a.1 b.1 d.1).bind fun p=>(K1 p.length b.2.2.length).bind fun _=>some (.inl (w64 (b.1 + 1),a.2.1,d.1,decide ((w64 (b.1 - a.1)) ≥ (w64 (Int.tdiv (w64 (a.2.1 - a.1)) 8))),b.2.1,p))) ((rec b.2.2 (w64 (b.1 + 1)) a.2.1 d.1).bind fun q=>(K1 q.length b.2.2.length).bind fun _=>some (.inl (a.1,b.1,d.1,decide ((w64 (a.2.1 - b.1)) ≥ (w64 (Int.tdiv (w64 (a.2.1 - a.1)) 8))),b.2.1,q)))) | .inr y=>some (.inr y))))
noncomputable def q6p (rec : List qf→Int→Int→Int→Option (List qf)) (a : qf→qf→Option Int) (b : List qf) (c : Int) (d : Int) (f : Int) : Option (List qf):=
  (loop (q6o a rec) (c,d,f,true,true,b)).bind fun g=>some g
noncomputable def q6n : Nat→(qf→qf→Option Int)→List qf→Int→Int→Int→Option (List qf)
  | 0,_,_,_,_,_=>none
  | n + 1,a,b,c,d,f=>q6p (q6n n a) a b c d f
noncomputable def q69 (c : qf→qf→Option Int) (a : List qf) : Option (List qf):=
  (Ju (IntKind.wrap .u64 (a.length : Int))).bind fun d=>(lim (fun n=>q6n n c a 0 (a.length : Int) d)).bind fun b=>(K1 b.length a.length).bind fun _=>some b
noncomputable def q39 (c : qi) (b : Int × List qi) (d : (List (qf × Bool))) (a : Int × List qi) : Option (((List (qf × Bool))) ⊕ (Empty)):=
  (cond (decide (a.1 > c.Lo)) (some (decide (a.1 < c.Hi))) (some false)).bind fun f=>(cond f ((q1c a.2 b.1).bind fun g=>(cond g (some true) ((q1c a.2 (w64 (b.1 - 1))).bind fun h=>some h)).bind fun j=>some j) (some false)).bind fun k=>cond k (some (.inl (Ko ({X:=a.1,Y:=b.1} : qf) true d))) (some (.inl d))
noncomputable def q38 (a : Int × List qi) (b : Y9) (c : Int × (List (qf × Bool))) : Option ((Int × (List (qf × Bool))) ⊕ (((List (qf × Bool))) ⊕ (List qf × Bool))):=
  cond (decide (c.1 < (a.2.length : Int))) ((idx a.2 c.1).bind fun d=>(q37 ({X:=d.Lo,Y:=a.1} : qf) b.rows_ b.columns_ c.2).bind fun h=>(q37 ({X:=d.Hi,Y:=a.1} : qf) b.rows_ b.columns_ h).bind fun f=>(Ue (fun (x y : (List (qf × Bool)))=>List.Perm x y) (q39 d a) b.columns_ (f : (List (qf × Bool)))).bind fun _=>(Kn (q39 d a) b.columns_ (f : (List (qf × Bool)))).bind fun j=>(match j with | .inl g=>cond (decide ((g.length : Int) > 400)) (some (.inr (.inr ([],false)))) (some (.inl (w64 (c.1 + 1),g))) | .inr k=>k.elim)) (some (.inr (.inl c.2)))
noncomputable def Ul (a : Y9) (b : (List (qf × Bool))) (c : Int × List qi) : Option (((List (qf × Bool))) ⊕ (List qf × Bool)):=
  (loop (q38 c a) (0,b) : Option (((List (qf × Bool))) ⊕ (List qf × Bool))).bind fun d=>(match d with | .inl f=>some (.inl f) | .inr g=>some (.inr g))
noncomputable def q4s (b : Int × List qi) (c : Y9) (a : Int × (List (qf × Bool))) : Option ((Int × (List (qf × Bool))) ⊕ ((List (qf × Bool)))):=
  cond (decide (a.1 < (b.2.length : Int))) ((idx b.2 a.1).bind fun d=>(q37 ({X:=b.1,Y:=d.Lo} : qf) c.rows_ c.columns_ a.2).bind fun f=>(q37 ({X:=b.1,Y:=d.Hi} : qf) c.rows_ c.columns_ f).bind fun g=>some (.inl (w64 (a.1 + 1),g))) (some (.inr a.2))
noncomputable def q3a (a : Y9) (b : (List (qf × Bool))) (c : Int × List qi) : Option (((List (qf × Bool))) ⊕ (Empty)):=
  (loop (q4s c a) (0,b)).bind fun d=>some (.inl d)
noncomputable def q2a (a : List qf) (b : qf × Bool) : Option ((List qf) ⊕ Empty):=
  (app 16 a [b.1]).bind fun c=>some (.inl c)
noncomputable def q3b (a : List qf) : Option (List qf × Bool):=
  (q69 (fun c d=>q1f c d) a).bind fun b=>(K1 b.length a.length).bind fun _=>some (b,decide ((a.length : Int)≤400))
noncomputable def q72 (a : Y9) : Option (List qf × Bool):=
  (Ue (fun (x y : (List (qf × Bool)))=>List.Perm x y) (Ul a) a.rows_ (([] : List (qf × Bool)) : (List (qf × Bool)))).bind fun _=>(Kn (Ul a) a.rows_ (([] : List (qf × Bool)) : (List (qf × Bool)))).bind fun f=>(match f with | .inl c=>(Ue (fun (x y : (List (qf × Bool)))=>List.Perm x y) (q3a a) a.columns_ (c : (List (qf × Bool)))).bind fun _=>(Kn (q3a a) a.columns_ (c : (List (qf × Bool)))).bind fun g=>(match g with | .inl d=>(q4d (fun l=>(Kn (q2a) l (([] : List qf) : List qf)).bind (q73 (q3b))) d).bind fun _=>(Kn (q2a) d (([] : List qf) : List qf)).bind (q73 (q3b)) | .inr b=>b.elim) | .inr b=>some b)
noncomputable def q29 (a : qm) (b : qm) : Option Int:=
  (q1f ({X:=a.A,Y:=a.B} : qf) ({X:=b.A,Y:=b.B} : qf)).bind fun c=>some c
noncomputable def q92 (c : Int) (d : qm→qm→Option Int) (a : Int × List qm) : Option ((Int × List qm) ⊕ (List qm)):=
  (cond (decide (a.1 > c)) ((idx a.2 a.1).bind fun f=>(idx a.2 (w64 (a.1 - 1))).bind fun g=>(d f g).bind fun h=>some (decide (h < 0))) (some false)).bind fun j=>cond j ((idx a.2 (w64 (a.1 - 1))).bind fun b=>(idx a.2 a.1).bind fun k=>(idx a.2 a.1).bind fun _=>(idx (a.2.set a.1.toNat b) (w64 (a.1 - 1))).bind fun _=>some (.inl (w64 (a.1 - 1),(a.2.set a.1.toNat b).set (w64 (a.1 - 1)).toNat k))) (some (.inr a.2))
noncomputable def q91 (b : Int) (c : Int) (d : qm→qm→Option Int) (a : Int × List qm) : Option ((Int × List qm) ⊕ (List qm)):=
  cond (decide (a.1 < b)) (((loop (q92 c d) (a.1,a.2)).bind fun f=>some f).bind fun g=>some (.inl (w64 (a.1 + 1),g))) (some (.inr a.2))
noncomputable def q90 (b : qm→qm→Option Int) (c : List qm) (a : Int) (d : Int) : Option (List qm):=
  (loop (q91 d a b) (w64 (a + 1),c)).bind fun f=>some f
noncomputable def qai (d : Int) (b : Int) (f : qm→qm→Option Int) (a : Int × List qm) : Option ((Int × List qm) ⊕ (List qm)):=
  cond (decide ((w64 ((w64 (2 * a.1)) + 1)) ≥ d)) (some (.inr a.2)) ((cond (decide ((w64 ((w64 ((w64 (2 * a.1)) + 1)) + 1)) < d)) ((idx a.2 (w64 (b + (w64 ((w64 (2 * a.1)) + 1))))).bind fun h=>(idx a.2 (w64 ((w64 (b + (w64 ((w64 (2 * a.1)) + 1)))) + 1))).bind fun j=>(f h j).bind fun k=>some (decide (k < 0))) (some false)).bind fun l=>(cond l (some (w64 ((w64 ((w64 (2 * a.1)) + 1)) + 1))) (some (w64 ((w64 (2 * a.1)) + 1)))).bind fun c=>(idx a.2 (w64 (b + a.1))).bind fun m=>(idx a.2 (w64 (b + c))).bind fun n=>(f m n).bind fun o=>cond (!(decide (o < 0))) (some (.inr a.2)) ((idx a.2 (w64 (b + c))).bind fun g=>(idx a.2 (w64 (b + a.1))).bind fun p=>(idx a.2 (w64 (b + a.1))).bind fun _=>(idx (a.2.set (w64 (b + a.1)).toNat g) (w64 (b + c))).bind fun _=>some (.inl (c,(a.2.set (w64 (b + a.1)).toNat g).set (w64 (b + c)).toNat p))))
noncomputable def q6t (a : qm→qm→Option Int) (b : List qm) (c : Int) (d : Int) (f : Int) : Option (List qm):=
  (loop (qai d f a) (c,b)).bind fun g=>some g
noncomputable def q8s (d : qm→qm→Option Int) (f : Int) (b : Int) (a : Int × List qm) : Option ((Int × List qm) ⊕ (List qm)):=
  cond (decide (a.1 ≥ 0)) ((q6t d a.2 a.1 (w64 (f - b)) b).bind fun c=>(K1 c.length a.2.length).bind fun _=>some (.inl (w64 (a.1 - 1),c))) (some (.inr a.2))
noncomputable def q8t (b : Int) (g : qm→qm→Option Int) (a : Int × List qm) : Option ((Int × List qm) ⊕ (List qm)):=
  cond (decide (a.1 ≥ 0)) ((idx a.2 (w64 (b + a.1))).bind fun c=>(idx a.2 b).bind fun d=>(idx a.2 b).bind fun _=>(idx (a.2.set b.toNat c) (w64 (b + a.1))).bind fun _=>(q6t g ((a.2.set b.toNat c).set (w64 (b + a.1)).toNat d) 0 a.1 b).bind fun f=>(K1 f.length ((a.2.set b.toNat c).set (w64 (b + a.1)).toNat d).length).bind fun _=>some (.inl (w64 (a.1 - 1),f))) (some (.inr a.2))
noncomputable def q8r (c : qm→qm→Option Int) (d : List qm) (a : Int) (b : Int) : Option (List qm):=
  (loop (q8s c b a) (w64 (Int.tdiv (w64 ((w64 (b - a)) - 1)) 2),d)).bind fun f=>(loop (q8t a c) (w64 ((w64 (b - a)) - 1),f)).bind fun g=>some g
noncomputable def q4i (f : qm→qm→Option Int) (c : List qm) (a : Int) (b : Int) (d : Int) : Option (Int × Int × Int):=
  (idx c b).bind fun g=>(idx c a).bind fun h=>(f g h).bind fun j=>cond (decide (j < 0)) (some (b,a,w64 (d + 1))) (some (a,b,d))
noncomputable def q6b (a : qm→qm→Option Int) (b : List qm) (g : Int) (h : Int) (j : Int) (k : Int) : Option (Int × Int):=
  (q4i a b g h k).bind fun c=>(q4i a b c.2.1 j c.2.2).bind fun d=>(q4i a b c.1 d.1 d.2.2).bind fun f=>some (f.2.1,f.2.2)
noncomputable def q4f (c : qm→qm→Option Int) (d : List qm) (a : Int) (f : Int) : Option (Int × Int):=
  (q6b c d (w64 (a - 1)) a (w64 (a + 1)) f).bind fun b=>some (b.1,b.2)
noncomputable def q8o (d : List qm) (a : Int) (b : Int) (f : qm→qm→Option Int) : Option (Int × Int):=
  (cond (decide ((w64 (b - a)) ≥ 8)) ((cond (decide ((w64 (b - a)) ≥ 50)) ((q4f f d (w64 (a + (w64 ((w64 (Int.tdiv (w64 (b - a)) 4)) * 1)))) 0).bind fun h=>(q4f f d (w64 (a + (w64 ((w64 (Int.tdiv (w64 (b - a)) 4)) * 2)))) h.2).bind fun j=>(q4f f d (w64 (a + (w64 ((w64 (Int.tdiv (w64 (b - a)) 4)) * 3)))) j.2).bind fun k=>some (h.1,j.1,k.1,k.2)) (some (w64 (a + (w64 ((w64 (Int.tdiv (w64 (b - a)) 4)) * 1))),w64 (a + (w64 ((w64 (Int.tdiv (w64 (b - a)) 4)) * 2))),w64 (a + (w64 ((w64 (Int.tdiv (w64 (b - a)) 4)) * 3))),0))).bind fun g=>(q6b f d g.1 g.2.1 g.2.2.1 g.2.2.2).bind fun l=>some (l.1,l.2)) (some (w64 (a + (w64 ((w64 (Int.tdiv (w64 (b - a)) 4)) * 2))),0))).bind fun c=>cond (c.2 == 0) (some (c.1,1)) (cond (c.2 == 12) (some (c.1,2)) (some (c.1,0)))
noncomputable def qad (a : Int × Int × List qm) : Option ((Int × Int × List qm) ⊕ (List qm)):=
  cond (decide (a.1 < a.2.1)) ((idx a.2.2 a.2.1).bind fun b=>(idx a.2.2 a.1).bind fun c=>(idx a.2.2 a.1).bind fun _=>(idx (a.2.2.set a.1.toNat b) a.2.1).bind fun _=>some (.inl (w64 (a.1 + 1),w64 (a.2.1 - 1),(a.2.2.set a.1.toNat b).set a.2.1.toNat c))) (some (.inr a.2.2))
noncomputable def qac (f : qm→qm→Option Int) (a : List qm) (b : Int) (c : Int) : Option (List qm):=
  (loop qad (b,w64 (c - 1),a)).bind fun d=>some d
noncomputable def q99 (c : Int) (b : Int × Int × List qm) (d : qm→qm→Option Int) (a : Int) : Option ((Int) ⊕ (Int)):=
  (cond (decide (a < c)) ((idx b.2.2 a).bind fun f=>(idx b.2.2 (w64 (a - 1))).bind fun g=>(d f g).bind fun h=>some (!(decide (h < 0)))) (some false)).bind fun j=>cond j (some (.inl (w64 (a + 1)))) (some (.inr a))
noncomputable def q9a (c : qm→qm→Option Int) (a : Int × List qm) : Option ((Int × List qm) ⊕ (List qm)):=
  cond (decide (a.1 ≥ 1)) ((idx a.2 a.1).bind fun d=>(idx a.2 (w64 (a.1 - 1))).bind fun f=>(c d f).bind fun g=>cond (!(decide (g < 0))) (some (.inr a.2)) ((idx a.2 (w64 (a.1 - 1))).bind fun b=>(idx a.2 a.1).bind fun h=>(idx a.2 a.1).bind fun _=>(idx (a.2.set a.1.toNat b) (w64 (a.1 - 1))).bind fun _=>some (.inl (w64 (a.1 - 1),(a.2.set a.1.toNat b).set (w64 (a.1 - 1)).toNat h)))) (some (.inr a.2))
noncomputable def q9b (d : Int) (f : qm→qm→Option Int) (b : Int) (a : Int × List qm) : Option ((Int × List qm) ⊕ (Int × List qm)):=
  cond (decide (a.1 < d)) ((idx a.2 a.1).bind fun g=>(idx a.2 (w64 (a.1 - 1))).bind fun h=>(f g h).bind fun j=>cond (!(decide (j < 0))) (some (.inr (b,a.2))) ((idx a.2 (w64 (a.1 - 1))).bind fun c=>(idx a.2 a.1).bind fun k=>(idx a.2 a.1).bind fun _=>(idx (a.2.set a.1.toNat c) (w64 (a.1 - 1))).bind fun _=>some (.inl (w64 (a.1 + 1),(a.2.set a.1.toNat c).set (w64 (a.1 - 1)).toNat k)))) (some (.inr (b,a.2)))
noncomputable def q6f (c : Int) (d : qm→qm→Option Int) (h : Int) (b : Int × Int × List qm) : Option ((Int × Int × List qm) ⊕ ((List qm) ⊕ (Bool × List qm))):=
  cond (decide (b.2.1 < 5)) (((loop (q99 c b d) b.1).bind fun a=>cond (a == c) (some (.inr (true,b.2.2))) (cond (decide ((w64 (c - h)) < 50)) (some (.inr (false,b.2.2))) ((idx b.2.2 (w64 (a - 1))).bind fun f=>(idx b.2.2 a).bind fun j=>(idx b.2.2 a).bind fun _=>(idx (b.2.2.set a.toNat f) (w64 (a - 1))).bind fun _=>(cond (decide ((w64 (a - h)) ≥ 2)) ((loop (q9a d) (w64 (a - 1),(b.2.2.set a.toNat f).set (w64 (a - 1)).toNat j)).bind fun g=>some g) (some ((b.2.2.set a.toNat f).set (w64 (a - 1)).toNat j))).bind fun k=>cond (decide ((w64 (c - a)) ≥ 2)) ((loop (q9b c d a) (w64 (a + 1),k)).bind fun g=>some (.inl g)) (some (.inl (a,k))))) : Option ((Int × List qm) ⊕ (Bool × List qm))).bind fun m=>(match m with | .inl l=>some (.inl (l.1,w64 (b.2.1 + 1),l.2)) | .inr n=>some (.inr (.inr n)))) (some (.inr (.inl b.2.2)))
noncomputable def q6e (b : qm→qm→Option Int) (c : List qm) (a : Int) (d : Int) : Option (Bool × List qm):=
  (loop (q6f d b a) (w64 (a + 1),0,c) : Option ((List qm) ⊕ (Bool × List qm))).bind fun f=>(match f with | .inl g=>some (false,g) | .inr h=>some h)
noncomputable def qa2 (b : Int × Int × List qm) (c : Int) (d : qm→qm→Option Int) (a : Int) : Option ((Int) ⊕ (Int)):=
  (cond (decide (a≤b.2.1)) ((idx b.2.2 c).bind fun f=>(idx b.2.2 a).bind fun g=>(d f g).bind fun h=>some (!(decide (h < 0)))) (some false)).bind fun j=>cond j (some (.inl (w64 (a + 1)))) (some (.inr a))
noncomputable def qa3 (c : Int) (b : Int × Int × List qm) (d : Int) (f : qm→qm→Option Int) (a : Int) : Option ((Int) ⊕ (Int)):=
  (cond (decide (c≤a)) ((idx b.2.2 d).bind fun g=>(idx b.2.2 a).bind fun h=>(f g h).bind fun j=>some (decide (j < 0))) (some false)).bind fun k=>cond k (some (.inl (w64 (a - 1)))) (some (.inr a))
noncomputable def qa1 (d : Int) (f : qm→qm→Option Int) (a : Int × Int × List qm) : Option ((Int × Int × List qm) ⊕ (Int × List qm)):=
  (loop (qa2 a d f) a.1).bind fun b=>(loop (qa3 b a d f) a.2.1).bind fun c=>cond (decide (b > c)) (some (.inr (b,a.2.2))) ((idx a.2.2 c).bind fun g=>(idx a.2.2 b).bind fun h=>(idx a.2.2 b).bind fun _=>(idx (a.2.2.set b.toNat g) c).bind fun _=>some (.inl (w64 (b + 1),w64 (c - 1),(a.2.2.set b.toNat g).set c.toNat h)))
noncomputable def qa0 (g : qm→qm→Option Int) (b : List qm) (a : Int) (h : Int) (c : Int) : Option (Int × List qm):=
  (idx b c).bind fun d=>(idx b a).bind fun j=>(idx b a).bind fun _=>(idx (b.set a.toNat d) c).bind fun _=>(loop (qa1 a g) (w64 (a + 1),w64 (h - 1),(b.set a.toNat d).set c.toNat j)).bind fun f=>some (f.1,f.2)
noncomputable def q9j (h : Int) (c : List qm) (b : Int) (d : qm) (f : Int) (g : qm) (j : qm→qm→Option Int) (a : Int) : Option ((Int) ⊕ (Int)):=
  (cond (decide (a≤(w64 (h - 1)))) ((idx ((c.set b.toNat d).set f.toNat g) a).bind fun k=>(idx ((c.set b.toNat d).set f.toNat g) b).bind fun l=>(j k l).bind fun m=>some (decide (m < 0))) (some false)).bind fun n=>cond n (some (.inl (w64 (a + 1)))) (some (.inr a))
noncomputable def q9k (h : Int) (c : List qm) (b : Int) (d : qm) (f : Int) (g : qm) (j : qm→qm→Option Int) (a : Int) : Option ((Int) ⊕ (Int)):=
  (cond (decide (h≤a)) ((idx ((c.set b.toNat d).set f.toNat g) a).bind fun k=>(idx ((c.set b.toNat d).set f.toNat g) b).bind fun l=>(j k l).bind fun m=>some (!(decide (m < 0)))) (some false)).bind fun n=>cond n (some (.inl (w64 (a - 1)))) (some (.inr a))
noncomputable def q9m (b : Int × Int × List qm) (c : Int) (d : qm→qm→Option Int) (a : Int) : Option ((Int) ⊕ (Int)):=
  (cond (decide (a≤b.2.1)) ((idx b.2.2 a).bind fun f=>(idx b.2.2 c).bind fun g=>(d f g).bind fun h=>some (decide (h < 0))) (some false)).bind fun j=>cond j (some (.inl (w64 (a + 1)))) (some (.inr a))
noncomputable def q9n (c : Int) (b : Int × Int × List qm) (d : Int) (f : qm→qm→Option Int) (a : Int) : Option ((Int) ⊕ (Int)):=
  (cond (decide (c≤a)) ((idx b.2.2 a).bind fun g=>(idx b.2.2 d).bind fun h=>(f g h).bind fun j=>some (!(decide (j < 0)))) (some false)).bind fun k=>cond k (some (.inl (w64 (a - 1)))) (some (.inr a))
noncomputable def q9l (d : Int) (f : qm→qm→Option Int) (a : Int × Int × List qm) : Option ((Int × Int × List qm) ⊕ (Int × List qm)):=
  (loop (q9m a d f) a.1).bind fun b=>(loop (q9n b a d f) a.2.1).bind fun c=>cond (decide (b > c)) (some (.inr (c,a.2.2))) ((idx a.2.2 c).bind fun g=>(idx a.2.2 b).bind fun h=>(idx a.2.2 b).bind fun _=>(idx (a.2.2.set b.toNat g) c).bind fun _=>some (.inl (w64 (b + 1),w64 (c - 1),(a.2.2.set b.toNat g).set c.toNat h)))
noncomputable def q9i (k : qm→qm→Option Int) (b : List qm) (a : Int) (l : Int) (c : Int) : Option (Int × Bool × List qm):=
  (idx b c).bind fun d=>(idx b a).bind fun f=>(idx b a).bind fun _=>(idx (b.set a.toNat d) c).bind fun _=>(loop (q9j l b a d c f k) (w64 (a + 1))).bind fun j=>(loop (q9k j b a d c f k) (w64 (l - 1))).bind fun g=>cond (decide (j > g)) ((idx ((b.set a.toNat d).set c.toNat f) a).bind fun m=>(idx ((b.set a.toNat d).set c.toNat f) g).bind fun p=>(idx ((b.set a.toNat d).set c.toNat f) g).bind fun _=>(idx (((b.set a.toNat d).set c.toNat f).set g.toNat m) a).bind fun _=>some (g,true,(((b.set a.toNat d).set c.toNat f).set g.toNat m).set a.toNat p)) ((idx ((b.set a.toNat d).set c.toNat f) g).bind fun n=>(idx ((b.set a.toNat d).set c.toNat f) j).bind fun q=>(idx ((b.set a.toNat d).set c.toNat f) j).bind fun _=>(idx (((b.set a.toNat d).set c.toNat f).set j.toNat n) g).bind fun _=>(loop (q9l a k) (w64 (j + 1),w64 (g - 1),(((b.set a.toNat d).set c.toNat f).set j.toNat n).set g.toNat q)).bind fun h=>(idx h.2 a).bind fun o=>(idx h.2 h.1).bind fun r=>(idx h.2 h.1).bind fun _=>(idx (h.2.set h.1.toNat o) a).bind fun _=>some (h.1,false,(h.2.set h.1.toNat o).set a.toNat r))
noncomputable def q8j (b : Int) (d : Int) (f : Int) (a : Int × List qm × Int) : Option ((Int × List qm × Int) ⊕ (List qm)):=
  cond (decide (a.1≤(w64 ((w64 (b + (w64 ((w64 (Int.tdiv (w64 (d - b)) 4)) * 2)))) + 1)))) ((Ui a.2.2).bind fun c=>(cond (decide ((w64 (andI .u64 c (IntKind.wrap .u64 (f - 1)))) ≥ (w64 (d - b)))) (some (w64 ((w64 (andI .u64 c (IntKind.wrap .u64 (f - 1)))) - (w64 (d - b))))) (some (w64 (andI .u64 c (IntKind.wrap .u64 (f - 1)))))).bind fun g=>(idx a.2.1 (w64 (b + g))).bind fun h=>(idx a.2.1 a.1).bind fun j=>(idx a.2.1 a.1).bind fun _=>(idx (a.2.1.set a.1.toNat h) (w64 (b + g))).bind fun _=>some (.inl (w64 (a.1 + 1),(a.2.1.set a.1.toNat h).set (w64 (b + g)).toNat j,c))) (some (.inr a.2.1))
noncomputable def q8i (g : qm→qm→Option Int) (c : List qm) (a : Int) (b : Int) : Option (List qm):=
  cond (decide ((w64 (b - a)) ≥ 8)) ((Uh (w64 (b - a))).bind fun d=>(loop (q8j a b d) (w64 ((w64 (a + (w64 ((w64 (Int.tdiv (w64 (b - a)) 4)) * 2)))) - 1),c,IntKind.wrap .u64 (w64 (b - a)))).bind fun f=>some f) (some c)
noncomputable def q6l (c : qm→qm→Option Int) (rec : List qm→Int→Int→Int→Option (List qm)) (a : Int × Int × Int × Bool × Bool × List qm) : Option ((Int × Int × Int × Bool × Bool × List qm) ⊕ (List qm)):=
  cond (decide ((w64 (a.2.1 - a.1))≤12)) ((q90 c a.2.2.2.2.2 a.1 a.2.1).bind fun l=>(K1 l.length a.2.2.2.2.2.length).bind fun _=>some (.inr l)) (cond (a.2.2.1 == 0) ((q8r c a.2.2.2.2.2 a.1 a.2.1).bind fun m=>(K1 m.length a.2.2.2.2.2.length).bind fun _=>some (.inr m)) ((cond (!a.2.2.2.1) ((q8i c a.2.2.2.2.2 a.1 a.2.1).bind fun n=>(K1 n.length a.2.2.2.2.2.length).bind fun _=>some (w64 (a.2.2.1 - 1),n)) (some (a.2.2.1,a.2.2.2.2.2))).bind fun d=>(q8o d.2 a.1 a.2.1 c).bind fun h=>(cond (h.2 == 2) ((qac c d.2 a.1 a.2.1).bind fun o=>(K1 o.length d.2.length).bind fun _=>some (w64 ((w64 (a.2.1 - 1)) - (w64 (h.1 - a.1))),1,o)) (some (h.1,h.2,d.2))).bind fun f=>(cond a.2.2.2.1 (some a.2.2.2.2.1) (some false)).bind fun r=>(cond r (some (f.2.1 == 1)) (some false)).bind fun s=>(cond s ((q6e c f.2.2 a.1 a.2.1).bind fun j=>(K1 j.2.length f.2.2.length).bind fun _=>cond j.1 (some (.inr j.2)) (some (.inl j.2))) (some (.inl f.2.2)) : Option ((List qm) ⊕ (List qm))).bind fun t=>(match t with | .inl g=>(cond (decide (a.1 > 0)) ((idx g (w64 (a.1 - 1))).bind fun u=>(idx g f.1).bind fun v=>(c u v).bind fun w=>some (!(decide (w < 0)))) (some false)).bind fun x=>cond x ((qa0 c g a.1 a.2.1 f.1).bind fun k=>(K1 k.2.length g.length).bind fun _=>some (.inl (k.1,a.2.1,d.1,a.2.2.2.1,a.2.2.2.2.1,k.2))) ((q9i c g a.1 a.2.1 f.1).bind fun b=>(K1 b.2.2.length g.length).bind fun _=>cond (decide ((w64 (b.1 - a.1)) < (w64 (a.2.1 - b.1)))) ((rec b.2.2 a.1 b.1 d.1).bind fun p=>(K1 p.length b.2.2.length).bind fun _=>some (.inl (w64 (b.1 + 1),a.2.1,d.1,decide ((w64 (b.1 - a.1)) ≥ (w64 (Int.tdiv (w64 (a.2.1 - a.1)) 8))),b.2.1,p))) ((rec b.2.2 (w64 (b.1 + 1)) a.2.1 d.1).bind fun q=>(K1 q.length b.2.2.length).bind fun _=>some (.inl (a.1,b.1,d.1,decide ((w64 (a.2.1 - b.1)) ≥ (w64 (Int.tdiv (w64 (a.2.1 - a.1)) 8))),b.2.1,q)))) | .inr y=>some (.inr y))))
noncomputable def q6m (rec : List qm→Int→Int→Int→Option (List qm)) (a : qm→qm→Option Int) (b : List qm) (c : Int) (d : Int) (f : Int) : Option (List qm):=
  (loop (q6l a rec) (c,d,f,true,true,b)).bind fun g=>some g
noncomputable def q6k : Nat→(qm→qm→Option Int)→List qm→Int→Int→Int→Option (List qm)
  | 0,_,_,_,_,_=>none
  | n + 1,a,b,c,d,f=>q6m (q6k n a) a b c d f
noncomputable def q4e (c : qm→qm→Option Int) (a : List qm) : Option (List qm):=
  (Ju (IntKind.wrap .u64 (a.length : Int))).bind fun d=>(lim (fun n=>q6k n c a 0 (a.length : Int) d)).bind fun b=>(K1 b.length a.length).bind fun _=>some b
noncomputable def q36 (c : List qf × Bool) (g : Y9) (a : Int × (List (Int × Int)) × (List (Int × Int)) × List qm) : Option ((Int × (List (Int × Int)) × (List (Int × Int)) × List qm) ⊕ (List qm)):=
  cond (decide (a.1 < (c.1.length : Int))) ((idx c.1 a.1).bind fun b=>(q4r g b).bind fun d=>(cond d.2.2.1 ((app 16 a.2.2.2 [({A:=K9 0 b.Y a.2.1,B:=a.1} : qm)]).bind fun h=>some h) (some a.2.2.2)).bind fun f=>(cond d.2.2.2 ((app 16 f [({A:=K9 0 b.X a.2.2.1,B:=a.1} : qm)]).bind fun j=>some j) (some f)).bind fun k=>some (.inl (w64 (a.1 + 1),Ko b.Y a.1 a.2.1,Ko b.X a.1 a.2.2.1,k))) (some (.inr a.2.2.2))
noncomputable def q4q (f : List Qb) : Option (Qz × Bool):=
  (q6z f).bind fun c=>(q72 c).bind fun a=>cond (!a.2) (some (({Nodes:=[],Edges:=[]} : Qz),false)) ((loop (q36 a c) (0,[],[],[])).bind fun b=>(q4e (fun g h=>q29 g h) b).bind fun d=>(K1 d.length b.length).bind fun _=>some (({Nodes:=a.1,Edges:=d} : Qz),decide ((b.length : Int)≤800)))
noncomputable def q68 (b : List qf) (f : List qf) (a : Int) : Option ((Int) ⊕ ((Unit) ⊕ (Bool))):=
  cond (decide (a < (b.length : Int))) ((idx b a).bind fun c=>(idx f a).bind fun d=>cond (!((c.X == d.X) && ((c.Y == d.Y) && true))) (some (.inr (.inr false))) (some (.inl (w64 (a + 1))))) (some (.inr (.inl ())))
noncomputable def q8g (a : List qf) (b : List qf) : Option Bool:=
  cond ((a.length : Int) != (b.length : Int)) (some false) ((loop (q68 a b) 0 : Option ((Unit) ⊕ (Bool))).bind fun c=>(match c with | .inl _=>some true | .inr d=>some d))
noncomputable def q67 (b : List qm) (f : List qm) (a : Int) : Option ((Int) ⊕ ((Unit) ⊕ (Bool))):=
  cond (decide (a < (b.length : Int))) ((idx b a).bind fun c=>(idx f a).bind fun d=>cond (!((c.A == d.A) && ((c.B == d.B) && true))) (some (.inr (.inr false))) (some (.inl (w64 (a + 1))))) (some (.inr (.inl ())))
noncomputable def q8f (a : List qm) (b : List qm) : Option Bool:=
  cond ((a.length : Int) != (b.length : Int)) (some false) ((loop (q67 a b) 0 : Option ((Unit) ⊕ (Bool))).bind fun c=>(match c with | .inl _=>some true | .inr d=>some d))
noncomputable def q6y (a : Qz) (b : Qz) : Option Bool:=
  (q8g a.Nodes b.Nodes).bind fun c=>(cond c ((q8f a.Edges b.Edges).bind fun d=>some d) (some false)).bind fun f=>some f
noncomputable def Uj (a : Qz) : Option Int:=
  (cond (decide ((a.Nodes.length : Int) > 400)) (some true) (some (decide ((a.Edges.length : Int) > 800)))).bind fun d=>cond d (some 4) ((q4p a).bind fun b=>cond (!b.2) (some 8) ((q4q b.1).bind fun c=>(cond (!c.2) (some true) ((q6y c.1 a).bind fun f=>some (!f))).bind fun g=>cond g (some 8) (some 0)))
noncomputable def q28 (a : Qz) : Option (List Qb × Int):=
  (Uj a).bind fun b=>cond (b != 0) (some ([],b)) ((q4p a).bind fun c=>some (c.1,0))
noncomputable def q5q (a : qf) : Option Bool:=
  (cond (decide (a.X ≥ (-1000000))) (some (decide (a.X≤1000000))) (some false)).bind fun b=>(cond b (some (decide (a.Y ≥ (-1000000)))) (some false)).bind fun c=>(cond c (some (decide (a.Y≤1000000))) (some false)).bind fun d=>some d
noncomputable def q8a (a : Qb) : Option Bool:=
  (cond (!((a.A.X == a.B.X) && ((a.A.Y == a.B.Y) && true))) ((cond (a.A.X == a.B.X) (some true) (some (a.A.Y == a.B.Y))).bind fun b=>some b) (some false)).bind fun c=>(cond c ((q5q a.A).bind fun d=>some d) (some false)).bind fun f=>(cond f ((q5q a.B).bind fun g=>some g) (some false)).bind fun h=>some h
noncomputable def q8b (a : Qz) (c : Int × List Qb) : Option ((Int × List Qb) ⊕ ((List Qb) ⊕ (List Qb × Bool))):=
  cond (decide (c.1 < (a.Edges.length : Int))) ((idx a.Edges c.1).bind fun b=>(cond (decide (b.A < 0)) (some true) (some (decide (b.A ≥ (a.Nodes.length : Int))))).bind fun g=>(cond g (some true) (some (decide (b.B < 0)))).bind fun h=>(cond h (some true) (some (decide (b.B ≥ (a.Nodes.length : Int))))).bind fun j=>cond j (some (.inr (.inr ([],false)))) ((idx a.Nodes b.A).bind fun d=>(idx a.Nodes b.B).bind fun f=>(q8a ({A:=d,B:=f} : Qb)).bind fun k=>cond (!k) (some (.inr (.inr ([],false)))) ((app 32 c.2 [({A:=d,B:=f} : Qb)]).bind fun l=>some (.inl (w64 (c.1 + 1),l))))) (some (.inr (.inl c.2)))
noncomputable def q5y (a : Qz) : Option (List Qb × Bool):=
  (loop (q8b a) (0,[]) : Option ((List Qb) ⊕ (List Qb × Bool))).bind fun b=>(match b with | .inl c=>some (c,true) | .inr d=>some d)
structure Ka where
  At : Int
  Spans : List qi
  deriving DecidableEq
noncomputable def q3z (b : Int × List Int) (c : List Int) (a : Int) : Option ((Int) ⊕ (Int)):=
  (cond (decide (a > 0)) ((idx b.2 (w64 (a - 1))).bind fun d=>(idx c b.1).bind fun f=>some (decide (d > f))) (some false)).bind fun g=>cond g (some (.inl (w64 (a - 1)))) (some (.inr a))
noncomputable def q3y (d : List Int) (a : Int × List Int) : Option ((Int × List Int) ⊕ (List Int)):=
  cond (decide (a.1 < (d.length : Int))) (((loop (q3z a d) (a.2.length : Int)).bind fun c=>(cond (decide (c > 0)) ((idx a.2 (w64 (c - 1))).bind fun h=>(idx d a.1).bind fun j=>some (h == j)) (some false)).bind fun k=>cond k (some a.2) ((app 8 a.2 [0]).bind fun b=>(sub2 b.length (w64 (c + 1)) b.length).bind fun g=>(sub2 b.length c b.length).bind fun f=>(idx d a.1).bind fun l=>(idx (cpyw b g ((b.drop f.1).take f.2)) c).bind fun _=>some ((cpyw b g ((b.drop f.1).take f.2)).set c.toNat l))).bind fun m=>some (.inl (w64 (a.1 + 1),m))) (some (.inr a.2))
noncomputable def q5p (a : List Int) : Option (List Int):=
  (loop (q3y a) (0,[])).bind fun b=>some b
noncomputable def q2y (b : Int × List qi) (a : Int × Int × Int × List qi) : Option ((Int × Int × Int × List qi) ⊕ (Int × Int × List qi)):=
  cond (decide (a.1 < (b.2.length : Int))) (((idx b.2 a.1).bind fun d=>(cond (decide (d.Hi < a.2.1)) (some true) ((idx b.2 a.1).bind fun f=>some (decide (a.2.2.1 < f.Lo)))).bind fun g=>cond g ((idx b.2 a.1).bind fun h=>(app 16 a.2.2.2 [h]).bind fun j=>some (a.2.1,a.2.2.1,j)) ((idx b.2 a.1).bind fun k=>(idx b.2 a.1).bind fun l=>some (min a.2.1 k.Lo,max a.2.2.1 l.Hi,a.2.2.2))).bind fun c=>some (.inl (w64 (a.1 + 1),c.1,c.2.1,c.2.2))) (some (.inr (a.2.1,a.2.2.1,a.2.2.2)))
noncomputable def q2z (b : Int × Int × List qi) (a : Int) : Option ((Int) ⊕ (Int)):=
  (cond (decide (a < (b.2.2.length : Int))) ((idx b.2.2 a).bind fun c=>some (decide (c.Lo < b.1))) (some false)).bind fun d=>cond d (some (.inl (w64 (a + 1)))) (some (.inr a))
noncomputable def q4c (c : List qi) (b : Int × List qi) : Option ((Int × List qi) ⊕ (List qi)):=
  cond (decide (b.1 < (c.length : Int))) ((idx c b.1).bind fun d=>(loop (q2y b) (0,d.Lo,d.Hi,[])).bind fun a=>(loop (q2z a) 0).bind fun f=>(sub2 a.2.2.length 0 f).bind fun g=>(app 16 [] ((a.2.2.drop g.1).take g.2)).bind fun j=>(app 16 j [({Lo:=a.1,Hi:=a.2.1} : qi)]).bind fun k=>(sub2 a.2.2.length f a.2.2.length).bind fun h=>(app 16 k ((a.2.2.drop h.1).take h.2)).bind fun l=>some (.inl (w64 (b.1 + 1),l))) (some (.inr b.2))
noncomputable def q4b (a : List qi) : Option (List qi):=
  (loop (q4c a) (0,[])).bind fun b=>some b
def K4 (x : Ka) : List DV:=[.int .i64 x.At,.sl 2 (x.Spans.map Q8)]
noncomputable def q44 (b : List Qb) (c : Bool) (a : Int × List Int) : Option ((Int × List Int) ⊕ (List Int)):=
  cond (decide (a.1 < (b.length : Int))) (((idx b a.1).bind fun d=>(idx b a.1).bind fun f=>cond ((d.A.Y == f.B.Y) == c) (cond c ((idx b a.1).bind fun g=>(app 8 a.2 [g.A.Y]).bind fun h=>some h) ((idx b a.1).bind fun j=>(app 8 a.2 [j.A.X]).bind fun k=>some k)) (some a.2)).bind fun l=>some (.inl (w64 (a.1 + 1),l))) (some (.inr a.2))
noncomputable def q46 (b : List Qb) (f : Bool) (c : List Int) (d : Int × List Ka) (a : Int × List qi) : Option ((Int × List qi) ⊕ (List qi)):=
  cond (decide (a.1 < (b.length : Int))) (((cond f ((idx b a.1).bind fun g=>(idx c d.1).bind fun h=>some (g.A.Y == h)) (some false)).bind fun j=>(cond j ((idx b a.1).bind fun k=>(idx c d.1).bind fun l=>some (k.B.Y == l)) (some false)).bind fun m=>cond m ((idx b a.1).bind fun n=>(idx b a.1).bind fun o=>(idx b a.1).bind fun p=>(idx b a.1).bind fun q=>(app 16 a.2 [({Lo:=min n.A.X o.B.X,Hi:=max p.A.X q.B.X} : qi)]).bind fun r=>some r) ((cond (!f) ((idx b a.1).bind fun s=>(idx c d.1).bind fun t=>some (s.A.X == t)) (some false)).bind fun u=>(cond u ((idx b a.1).bind fun v=>(idx c d.1).bind fun w=>some (v.B.X == w)) (some false)).bind fun x=>cond x ((idx b a.1).bind fun y=>(idx b a.1).bind fun z=>(idx b a.1).bind fun aa=>(idx b a.1).bind fun ab=>(app 16 a.2 [({Lo:=min y.A.Y z.B.Y,Hi:=max aa.A.Y ab.B.Y} : qi)]).bind fun ac=>some ac) (some a.2))).bind fun ad=>some (.inl (w64 (a.1 + 1),ad))) (some (.inr a.2))
noncomputable def q45 (b : List Int) (c : List Qb) (d : Bool) (a : Int × List Ka) : Option ((Int × List Ka) ⊕ (List Ka)):=
  cond (decide (a.1 < (b.length : Int))) (((cond (decide (a.1 > 0)) ((idx b a.1).bind fun f=>(idx b (w64 (a.1 - 1))).bind fun g=>some (f == g)) (some false)).bind fun h=>cond h (some a.2) ((loop (q46 c d b a) (0,[])).bind fun j=>(q4b j).bind fun k=>(idx b a.1).bind fun l=>(app 32 a.2 [({At:=l,Spans:=k} : Ka)]).bind fun m=>some m)).bind fun n=>some (.inl (w64 (a.1 + 1),n))) (some (.inr a.2))
noncomputable def q5z (a : List Qb) (b : Bool) : Option (List Ka):=
  (loop (q44 a b) (0,[])).bind fun c=>(q5p c).bind fun d=>(loop (q45 d a b) (0,[])).bind fun f=>some f
noncomputable def q2t (b : List Ka) (c : Int) (d : Int) (a : Int) : Option ((Int) ⊕ ((Unit) ⊕ (Bool))):=
  (idx b c).bind fun f=>cond (decide (a < (f.Spans.length : Int))) ((idx b c).bind fun g=>(idx g.Spans a).bind fun h=>(cond (decide (h.Lo≤d)) ((idx b c).bind fun j=>(idx j.Spans a).bind fun k=>some (decide (d < k.Hi))) (some false)).bind fun l=>cond l (some (.inr (.inr true))) (some (.inl (w64 (a + 1))))) (some (.inr (.inl ())))
noncomputable def q2s (b : List Ka) (d : Int) (f : Int) (a : Int) : Option ((Int) ⊕ ((Unit) ⊕ (Bool))):=
  cond (decide (a < (b.length : Int))) (((idx b a).bind fun g=>cond (g.At != d) (some (.inl ())) ((loop (q2t b a f) 0 : Option ((Unit) ⊕ (Bool))).bind fun h=>(match h with | .inl j=>some (.inl j) | .inr c=>some (.inr c))) : Option ((Unit) ⊕ (Bool))).bind fun k=>(match k with | .inl _=>some (.inl (w64 (a + 1))) | .inr c=>some (.inr (.inr c)))) (some (.inr (.inl ())))
noncomputable def q2r (a : List Ka) (b : Int) (c : Int) : Option Bool:=
  (loop (q2s a b c) 0 : Option ((Unit) ⊕ (Bool))).bind fun d=>(match d with | .inl _=>some false | .inr f=>some f)
noncomputable def q5r (b : List Ka) (c : List Ka) (a : qf) : Option (Bool × Bool × Bool × Bool):=
  (q2r b a.Y a.X).bind fun d=>(q2r c a.X a.Y).bind fun f=>(q2r b a.Y (w64 (a.X - 1))).bind fun g=>(q2r c a.X (w64 (a.Y - 1))).bind fun h=>some (d,f,g,h)
noncomputable def q20 (b : List Ka) (c : List Ka) (d : qf) : Option Bool:=
  (q5r b c d).bind fun a=>(cond ((a.1 == true) && ((a.2.1 == false) && ((a.2.2.1 == true) && ((a.2.2.2 == false) && true)))) (some true) (some ((a.1 == false) && ((a.2.1 == true) && ((a.2.2.1 == false) && ((a.2.2.2 == true) && true)))))).bind fun f=>(cond (!f) ((cond a.1 (some true) (some a.2.1)).bind fun g=>(cond g (some true) (some a.2.2.1)).bind fun h=>(cond h (some true) (some a.2.2.2)).bind fun j=>some j) (some false)).bind fun k=>some k
noncomputable def q5u (a : qf) (b : qf) : Option Bool:=
  (cond (decide (a.X < b.X)) (some true) ((cond (a.X == b.X) (some (decide (a.Y < b.Y))) (some false)).bind fun c=>some c)).bind fun d=>some d
noncomputable def q2x (b : List qf) (c : qf) (a : Int) : Option ((Int) ⊕ (Int)):=
  (cond (decide (a < (b.length : Int))) ((idx b a).bind fun d=>(q5u d ({X:=(c).X,Y:=(c).Y} : qf)).bind fun f=>some f) (some false)).bind fun g=>cond g (some (.inl (w64 (a + 1)))) (some (.inr a))
noncomputable def q2w (c : List qf) (d : qf) : Option (List qf):=
  (loop (q2x c d) 0).bind fun b=>(cond (decide (b < (c.length : Int))) ((idx c b).bind fun g=>some ((g.X == ((d).X)) && ((g.Y == ((d).Y)) && true))) (some false)).bind fun j=>cond j (some c) ((app 16 c [({X:=0,Y:=0} : qf)]).bind fun a=>(sub2 a.length (w64 (b + 1)) a.length).bind fun h=>(sub2 a.length b a.length).bind fun f=>(idx (cpyw a h ((a.drop f.1).take f.2)) b).bind fun _=>some ((cpyw a h ((a.drop f.1).take f.2)).set b.toNat ({X:=(d).X,Y:=(d).Y} : qf)))
noncomputable def q49 (b : List Ka) (c : qi) (a : Int × List Int) : Option ((Int × List Int) ⊕ (List Int)):=
  cond (decide (a.1 < (b.length : Int))) (((idx b a.1).bind fun d=>(cond (decide (d.At > c.Lo)) ((idx b a.1).bind fun f=>some (decide (f.At < c.Hi))) (some false)).bind fun g=>cond g ((idx b a.1).bind fun h=>(app 8 a.2 [h.At]).bind fun j=>some j) (some a.2)).bind fun k=>some (.inl (w64 (a.1 + 1),k))) (some (.inr a.2))
noncomputable def q2u (b : List Int) (c : List Ka) (g : Int × List qf) (h : List Ka) (a : Int × List qf) : Option ((Int × List qf) ⊕ (List qf)):=
  (cond (decide (a.1 < (b.length : Int))) (some (decide ((a.2.length : Int)≤400))) (some false)).bind fun j=>cond j (((idx b a.1).bind fun d=>(idx c g.1).bind fun f=>(q20 c h ({X:=d,Y:=f.At} : qf)).bind fun k=>cond k ((q2w a.2 ({X:=d,Y:=f.At} : qf)).bind fun l=>some l) (some a.2)).bind fun m=>some (.inl (w64 (a.1 + 1),m))) (some (.inr a.2))
noncomputable def q48 (b : List Ka) (c : Int × List qf) (f : List Ka) (a : Int × List qf) : Option ((Int × List qf) ⊕ (List qf)):=
  (idx b c.1).bind fun g=>cond (decide (a.1 < (g.Spans.length : Int))) (((idx b c.1).bind fun h=>(idx h.Spans a.1).bind fun d=>(loop (q49 f d) (0,[d.Lo,d.Hi])).bind fun j=>(loop (q2u j b c f) (0,a.2)).bind fun k=>some k).bind fun l=>some (.inl (w64 (a.1 + 1),l))) (some (.inr a.2))
noncomputable def q47 (b : List Ka) (c : List Ka) (a : Int × List qf) : Option ((Int × List qf) ⊕ (List qf)):=
  cond (decide (a.1 < (b.length : Int))) (((loop (q48 b a c) (0,a.2)).bind fun d=>some d).bind fun f=>some (.inl (w64 (a.1 + 1),f))) (some (.inr a.2))
noncomputable def q2v (b : List Ka) (c : Int × List qf) (f : List Ka) (a : Int × List qf) : Option ((Int × List qf) ⊕ (List qf)):=
  (idx b c.1).bind fun k=>(cond (decide (a.1 < (k.Spans.length : Int))) (some (decide ((a.2.length : Int)≤400))) (some false)).bind fun l=>cond l (((idx b c.1).bind fun m=>(idx m.Spans a.1).bind fun d=>(idx b c.1).bind fun g=>(idx b c.1).bind fun h=>(q20 f b ({X:=g.At,Y:=d.Lo} : qf)).bind fun n=>(cond n ((q2w a.2 ({X:=g.At,Y:=d.Lo} : qf)).bind fun o=>some o) (some a.2)).bind fun j=>(q20 f b ({X:=h.At,Y:=d.Hi} : qf)).bind fun p=>cond p ((q2w j ({X:=h.At,Y:=d.Hi} : qf)).bind fun q=>some q) (some j)).bind fun r=>some (.inl (w64 (a.1 + 1),r))) (some (.inr a.2))
noncomputable def q4a (b : List Ka) (c : List Ka) (a : Int × List qf) : Option ((Int × List qf) ⊕ (List qf)):=
  cond (decide (a.1 < (b.length : Int))) (((loop (q2v b a c) (0,a.2)).bind fun d=>some d).bind fun f=>some (.inl (w64 (a.1 + 1),f))) (some (.inr a.2))
noncomputable def q8c (a : List Ka) (b : List Ka) : Option (List qf):=
  (loop (q47 a b) (0,[])).bind fun c=>(loop (q4a b a) (0,c)).bind fun d=>some d
noncomputable def q43 (b : List qf) (c : qf) (a : Int × Int × Int) : Option ((Int × Int × Int) ⊕ (Int × Int)):=
  cond (decide (a.2.2 < (b.length : Int))) (((idx b a.2.2).bind fun d=>(cond (d.X == c.X) (some (decide (a.1 < 0))) (some false)).bind fun h=>(cond h (some a.2.2) (some a.1)).bind fun f=>(cond (d.Y == c.Y) (some (decide (a.2.1 < 0))) (some false)).bind fun j=>cond j (some (f,a.2.2)) (some (f,a.2.1))).bind fun g=>some (.inl (g.1,g.2,w64 (a.2.2 + 1)))) (some (.inr (a.1,a.2.1)))
noncomputable def q42 (c : List qf) (h : List Ka) (j : List Ka) (a : Int × List qm) : Option ((Int × List qm) ⊕ (List qm)):=
  cond (decide (a.1 < (c.length : Int))) (((idx c a.1).bind fun d=>(q5r h j d).bind fun f=>(loop (q43 c d) ((-1),(-1),w64 (a.1 + 1))).bind fun b=>(cond f.2.1 (some (decide (b.1 ≥ 0))) (some false)).bind fun k=>(cond k ((app 16 a.2 [({A:=a.1,B:=b.1} : qm)]).bind fun l=>some l) (some a.2)).bind fun g=>(cond f.1 (some (decide (b.2 ≥ 0))) (some false)).bind fun m=>cond m ((app 16 g [({A:=a.1,B:=b.2} : qm)]).bind fun n=>some n) (some g)).bind fun o=>some (.inl (w64 (a.1 + 1),o))) (some (.inr a.2))
noncomputable def q41 (b : List Qb) : Option (Qz × Bool):=
  (q5z b true).bind fun c=>(q5z b false).bind fun d=>(q8c c d).bind fun a=>cond (decide ((a.length : Int) > 400)) (some (({Nodes:=[],Edges:=[]} : Qz),false)) ((loop (q42 a c d) (0,[])).bind fun f=>some (({Nodes:=a,Edges:=f} : Qz),decide ((f.length : Int)≤800)))
noncomputable def q5w (b : Qz) (f : Qz) (a : Int) : Option ((Int) ⊕ ((Unit) ⊕ (Bool))):=
  cond (decide (a < (b.Nodes.length : Int))) ((idx b.Nodes a).bind fun c=>(idx f.Nodes a).bind fun d=>cond (!((c.X == d.X) && ((c.Y == d.Y) && true))) (some (.inr (.inr false))) (some (.inl (w64 (a + 1))))) (some (.inr (.inl ())))
noncomputable def q5x (b : Qz) (f : Qz) (a : Int) : Option ((Int) ⊕ ((Unit) ⊕ (Bool))):=
  cond (decide (a < (b.Edges.length : Int))) ((idx b.Edges a).bind fun c=>(idx f.Edges a).bind fun d=>cond (!((c.A == d.A) && ((c.B == d.B) && true))) (some (.inr (.inr false))) (some (.inl (w64 (a + 1))))) (some (.inr (.inl ())))
noncomputable def q5v (a : Qz) (b : Qz) : Option Bool:=
  (cond ((a.Nodes.length : Int) != (b.Nodes.length : Int)) (some true) (some ((a.Edges.length : Int) != (b.Edges.length : Int)))).bind fun d=>cond d (some false) ((loop (q5w a b) 0 : Option ((Unit) ⊕ (Bool))).bind fun f=>(match f with | .inl _=>(loop (q5x a b) 0 : Option ((Unit) ⊕ (Bool))).bind fun g=>(match g with | .inl _=>some true | .inr c=>some c) | .inr c=>some c))
noncomputable def Uf (a : Qz) : Option Int:=
  (cond (decide ((a.Nodes.length : Int) > 400)) (some true) (some (decide ((a.Edges.length : Int) > 800)))).bind fun d=>cond d (some 4) ((q5y a).bind fun b=>cond (!b.2) (some 8) ((q41 b.1).bind fun c=>(cond (!c.2) (some true) ((q5v c.1 a).bind fun f=>some (!f))).bind fun g=>cond g (some 8) (some 0)))
noncomputable def q2q (a : Qz) : Option (List Qb × Int):=
  (Uf a).bind fun b=>cond (b != 0) ((Uf a).bind fun c=>some ([],c)) ((q5y a).bind fun d=>some (d.1,0))
noncomputable def q31 (b : List Qb) (c : Qb→Option Bool) (a : Int) : Option ((Int) ⊕ ((Unit) ⊕ (Int))):=
  cond (decide (a < (b.length : Int))) ((idx b a).bind fun d=>(c d).bind fun f=>cond f (some (.inr (.inr a))) (some (.inl (w64 (a + 1))))) (some (.inr (.inl ())))
noncomputable def qd3 (a : List Qb) (b : Qb→Option Bool) : Option Int:=
  (loop (q31 a b) 0 : Option ((Unit) ⊕ (Int))).bind fun c=>(match c with | .inl _=>some (-1) | .inr d=>some d)
noncomputable def q65 (a : List Qb) (b : Qb→Option Bool) : Option Bool:=
  (qd3 a b).bind fun c=>some (decide (c ≥ 0))
noncomputable def q71 (a : Qb) (b : qf) : Option Bool:=
  (cond (decide ((min a.A.X a.B.X)≤b.X)) (some (decide (b.X≤(max a.A.X a.B.X)))) (some false)).bind fun c=>(cond c (some (decide ((min a.A.Y a.B.Y)≤b.Y))) (some false)).bind fun d=>(cond d (some (decide (b.Y≤(max a.A.Y a.B.Y)))) (some false)).bind fun f=>some f
noncomputable def qaw (a : Qb) (b : qf) : Option Bool:=
  (q71 a b).bind fun c=>some c
noncomputable def qav (b : Qz) (c : qf) : Option (Bool × Int):=
  (q28 b).bind fun a=>cond (a.2 != 0) (some (false,a.2)) ((q65 a.1 (fun d=>qaw d c)).bind fun f=>some (f,0))
noncomputable def qcv (a : Qb) (b : qf) : Option Bool:=
  (cond (decide (b.X ≥ (min a.A.X a.B.X))) (some (decide (b.X≤(max a.A.X a.B.X)))) (some false)).bind fun c=>(cond c (some (decide (b.Y ≥ (min a.A.Y a.B.Y)))) (some false)).bind fun d=>(cond d (some (decide (b.Y≤(max a.A.Y a.B.Y)))) (some false)).bind fun f=>some f
noncomputable def q1z (b : List Qb × Int) (c : qf) (a : Int) : Option ((Int) ⊕ ((Unit) ⊕ (Bool × Int))):=
  cond (decide (a < (b.1.length : Int))) ((idx b.1 a).bind fun d=>(qcv d c).bind fun f=>cond f (some (.inr (.inr (true,0)))) (some (.inl (w64 (a + 1))))) (some (.inr (.inl ())))
noncomputable def q88 (b : Qz) (c : qf) : Option (Bool × Int):=
  (q2q b).bind fun a=>cond (a.2 != 0) (some (false,a.2)) ((loop (q1z a c) 0 : Option ((Unit) ⊕ (Bool × Int))).bind fun d=>(match d with | .inl _=>some (false,0) | .inr f=>some f))
noncomputable def q35 (b : (Bool × Bool × Bool × Bool)) (a : Int × Int) : Option ((Int × Int) ⊕ (Int)):=
  cond (decide (a.2 < 4)) (((idxA 4 [b.1,b.2.1,b.2.2.1,b.2.2.2] a.2).bind fun c=>cond c (some (w64 (a.1 + 1))) (some a.1)).bind fun d=>some (.inl (d,w64 (a.2 + 1)))) (some (.inr a.1))
noncomputable def q34 (a : Qz) (b : Int) : Option (Int × Int):=
  (q28 a).bind fun c=>cond (c.2 != 0) (some (0,c.2)) ((cond (decide (b < 0)) (some true) (some (decide (b ≥ (a.Nodes.length : Int))))).bind fun d=>cond d (some (0,6)) ((q6z c.1).bind fun f=>(idx a.Nodes b).bind fun g=>(q4r f g).bind fun h=>(loop (q35 h) (0,0)).bind fun j=>some (j,0)))
noncomputable def q40 (b : Qz) (c : Int) (a : Int × Int) : Option ((Int × Int) ⊕ (Int)):=
  cond (decide (a.2 < (b.Edges.length : Int))) (((idx b.Edges a.2).bind fun d=>(cond (d.A == c) (some true) ((idx b.Edges a.2).bind fun f=>some (f.B == c))).bind fun g=>cond g (some (w64 (a.1 + 1))) (some a.1)).bind fun h=>some (.inl (h,w64 (a.2 + 1)))) (some (.inr a.1))
noncomputable def q2p (a : Qz) (b : Int) : Option (Int × Int):=
  (Uf a).bind fun c=>cond (c != 0) ((Uf a).bind fun d=>some (0,d)) ((cond (decide (b < 0)) (some true) (some (decide (b ≥ (a.Nodes.length : Int))))).bind fun f=>cond f (some (0,6)) ((loop (q40 a b) (0,0)).bind fun g=>some (g,0)))
noncomputable def q1e (c : List Qb × Int) (b : Int × Int) : Option ((Int × Int) ⊕ (Int)):=
  cond (decide (b.2 < (c.1.length : Int))) ((idx c.1 b.2).bind fun a=>some (.inl (w64 (b.1 + (w64 ((w64 ((w64 ((max a.A.X a.B.X) - (min a.A.X a.B.X))) + (max a.A.Y a.B.Y))) - (min a.A.Y a.B.Y)))),w64 (b.2 + 1)))) (some (.inr b.1))
noncomputable def qax (b : Qz) : Option (Int × Int):=
  (q28 b).bind fun a=>cond (a.2 != 0) (some (0,a.2)) ((loop (q1e a) (0,0)).bind fun c=>some (c,0))
noncomputable def qcu (a : Qb) : Option Int:=
  some (w64 ((max (w64 (a.A.X - a.B.X)) (w64 (a.B.X - a.A.X))) + (max (w64 (a.A.Y - a.B.Y)) (w64 (a.B.Y - a.A.Y)))))
noncomputable def q5t (b : List Qb × Int) (a : Int × Int) : Option ((Int × Int) ⊕ (Int)):=
  cond (decide (a.2 < (b.1.length : Int))) ((idx b.1 a.2).bind fun c=>(qcu c).bind fun d=>some (.inl (w64 (a.1 + d),w64 (a.2 + 1)))) (some (.inr a.1))
noncomputable def q89 (b : Qz) : Option (Int × Int):=
  (q2q b).bind fun a=>cond (a.2 != 0) (some (0,a.2)) ((loop (q5t a) (0,0)).bind fun c=>some (c,0))
noncomputable def q3q (d : List Qb × Int) (f : List Qb × Int) (a : Int) : Option ((Int) ⊕ ((Unit) ⊕ (Bool))):=
  cond (decide (a < (d.1.length : Int))) ((idx d.1 a).bind fun b=>(idx f.1 a).bind fun c=>cond (!((b.A.X == c.A.X) && ((b.A.Y == c.A.Y) && ((b.B.X == c.B.X) && ((b.B.Y == c.B.Y) && true))))) (some (.inr (.inr false))) (some (.inl (w64 (a + 1))))) (some (.inr (.inl ())))
noncomputable def qc8 (a : Qz) (b : Qz) (f : qf) (g : Int) : Option Bool:=
  (q5s a).bind fun o=>(cond o (some true) ((q5s b).bind fun p=>some p)).bind fun q=>cond q (some true) ((q28 a).bind fun c=>(q2q a).bind fun d=>(qav a f).bind fun h=>(q88 a f).bind fun j=>(q34 a g).bind fun k=>(q2p a g).bind fun l=>(qax a).bind fun m=>(q89 a).bind fun n=>(Uj a).bind fun r=>(Uf a).bind fun s=>(cond (r != s) (some true) ((q6y a b).bind fun t=>(q5v a b).bind fun u=>some (!(t == u)))).bind fun v=>(cond v (some true) (some ((c.1.length : Int) != (d.1.length : Int)))).bind fun w=>(cond w (some true) (some (c.2 != d.2))).bind fun x=>(cond x (some true) (some (!(h.1 == j.1)))).bind fun y=>(cond y (some true) (some (h.2 != j.2))).bind fun z=>(cond z (some true) (some (k.1 != l.1))).bind fun aa=>(cond aa (some true) (some (k.2 != l.2))).bind fun ab=>(cond ab (some true) (some (m.1 != n.1))).bind fun ac=>(cond ac (some true) (some (m.2 != n.2))).bind fun ad=>cond ad (some false) ((loop (q3q c d) 0 : Option ((Unit) ⊕ (Bool))).bind fun ae=>(match ae with | .inl _=>some true | .inr x1=>some x1)))
structure q11i where
  At : qf
  Kind : Int
  Weight : Int
  Reach : Int
  deriving DecidableEq
structure q11k where
  At : qf
  Head : Int
  Steps : Int
  deriving DecidableEq
noncomputable def q4l (b : List qi) (a : Int) : Option ((Int) ⊕ ((Unit) ⊕ (Int))):=
  cond (decide (a < (b.length : Int))) ((idx b a).bind fun c=>(q33 c).bind fun d=>(cond (!d) (some true) ((cond (decide (a > 0)) ((idx b (w64 (a - 1))).bind fun f=>some (decide (f.Hi ≥ c.Lo))) (some false)).bind fun g=>some g)).bind fun h=>cond h (some (.inr (.inr 8))) (some (.inl (w64 (a + 1))))) (some (.inr (.inl ())))
noncomputable def qd6 (a : List qi) : Option Int:=
  cond (decide ((a.length : Int) > 400)) (some 4) ((loop (q4l a) 0 : Option ((Unit) ⊕ (Int))).bind fun b=>(match b with | .inl _=>some 0 | .inr c=>some c))
noncomputable def ql8 (a : qi) : Option Bool:=
  (cond (decide (a.Lo < a.Hi)) (some (decide (a.Lo ≥ (-1000000)))) (some false)).bind fun b=>(cond b (some (decide (a.Hi≤1000000))) (some false)).bind fun c=>some c
noncomputable def qfq (b : List qi) (a : Int) : Option ((Int) ⊕ ((Unit) ⊕ (Int))):=
  cond (decide (a < (b.length : Int))) ((idx b a).bind fun c=>(ql8 c).bind fun d=>(cond (!d) (some true) ((cond (decide (a > 0)) ((idx b (w64 (a - 1))).bind fun f=>(idx b a).bind fun g=>some (decide (f.Hi ≥ g.Lo))) (some false)).bind fun h=>some h)).bind fun j=>cond j (some (.inr (.inr 8))) (some (.inl (w64 (a + 1))))) (some (.inr (.inl ())))
noncomputable def qcr (a : List qi) : Option Int:=
  cond (decide ((a.length : Int) > 400)) (some 4) ((loop (qfq a) 0 : Option ((Unit) ⊕ (Int))).bind fun b=>(match b with | .inl _=>some 0 | .inr c=>some c))
noncomputable def q83 (b : List qi) (a : Int × List Int) : Option ((Int × List Int) ⊕ (List Int)):=
  cond (decide (a.1 < (b.length : Int))) ((idx b a.1).bind fun c=>(idx b a.1).bind fun d=>(app 8 a.2 [c.Lo,d.Hi]).bind fun f=>some (.inl (w64 (a.1 + 1),f))) (some (.inr a.2))
noncomputable def ql5 (b : List qi) (a : Int × List Int) : Option ((Int × List Int) ⊕ (List Int)):=
  cond (decide (a.1 < (b.length : Int))) ((idx b a.1).bind fun c=>(idx b a.1).bind fun d=>(app 8 a.2 [c.Lo,d.Hi]).bind fun f=>some (.inl (w64 (a.1 + 1),f))) (some (.inr a.2))
noncomputable def qfr (a : List qi) (b : List qi) : Option (List Int):=
  (loop (q83 a) (0,[])).bind fun c=>(loop (ql5 b) (0,c)).bind fun d=>(q5p d).bind fun f=>some f
noncomputable def q84 (b : List qi) (c : Int) (a : Int) : Option ((Int) ⊕ ((Unit) ⊕ (Bool))):=
  cond (decide (a < (b.length : Int))) ((idx b a).bind fun d=>(cond (decide (d.Lo≤c)) ((idx b a).bind fun f=>some (decide (c < f.Hi))) (some false)).bind fun g=>cond g (some (.inr (.inr true))) (some (.inl (w64 (a + 1))))) (some (.inr (.inl ())))
noncomputable def qcs (a : List qi) (b : Int) : Option Bool:=
  (loop (q84 a b) 0 : Option ((Unit) ⊕ (Bool))).bind fun c=>(match c with | .inl _=>some false | .inr d=>some d)
noncomputable def qfs (c : Int) (a : Bool) (b : Bool) : Option Bool:=
  cond (c == 1) ((cond a (some b) (some false)).bind fun d=>some d) (cond (c == 2) ((cond a (some true) (some b)).bind fun f=>some f) ((cond a (some (!b)) (some false)).bind fun g=>some g))
noncomputable def q82 (b : List Int) (c : List Bool) (a : Int × List qi) : Option ((Int × List qi) ⊕ (List qi)):=
  cond (decide ((w64 (a.1 + 1)) < (b.length : Int))) (((idx c a.1).bind fun d=>cond (!d) (some a.2) ((cond (decide ((a.2.length : Int) > 0)) ((idx a.2 (w64 ((a.2.length : Int) - 1))).bind fun f=>(idx b a.1).bind fun g=>some (f.Hi == g)) (some false)).bind fun h=>cond h ((idx b (w64 (a.1 + 1))).bind fun j=>(idx a.2 (w64 ((a.2.length : Int) - 1))).bind fun k=>some (a.2.set (w64 ((a.2.length : Int) - 1)).toNat ({Lo:=k.Lo,Hi:=j} : qi))) ((idx b a.1).bind fun l=>(idx b (w64 (a.1 + 1))).bind fun m=>(app 16 a.2 [({Lo:=l,Hi:=m} : qi)]).bind fun n=>some n))).bind fun o=>some (.inl (w64 (a.1 + 1),o))) (some (.inr a.2))
noncomputable def qfp (a : List Int) (b : List Bool) : Option (List qi):=
  (loop (q82 a b) (0,[])).bind fun c=>some c
noncomputable def q85 (b : List Int) (c : List qi) (d : List qi) (f : Int) (a : Int × List Bool) : Option ((Int × List Bool) ⊕ (List Bool)):=
  cond (decide (a.1 < (b.length : Int))) ((idx b a.1).bind fun g=>(qcs c g).bind fun h=>(idx b a.1).bind fun j=>(qcs d j).bind fun k=>(qfs f h k).bind fun l=>(app 1 a.2 [l]).bind fun m=>some (.inl (w64 (a.1 + 1),m))) (some (.inr a.2))
noncomputable def qct (d : Int) (a : List qi) (b : List qi) : Option (List qi):=
  (qfr a b).bind fun c=>(loop (q85 c a b d) (0,[])).bind fun f=>(qfp c f).bind fun g=>some g
noncomputable def qal (b : List qi) (a : Int × Int) : Option ((Int × Int) ⊕ (Int)):=
  cond (decide (a.2 < (b.length : Int))) ((idx b a.2).bind fun c=>some (.inl (w64 (a.1 + (w64 (c.Hi - c.Lo))),w64 (a.2 + 1)))) (some (.inr a.1))
noncomputable def qmg (a : List qi) : Option (Int × Int):=
  (qd6 a).bind fun b=>cond (b != 0) (some (0,b)) ((loop (qal a) (0,0)).bind fun c=>some (c,0))
noncomputable def q86 (b : List qi) (a : Int × Int) : Option ((Int × Int) ⊕ (Int)):=
  cond (decide (a.2 < (b.length : Int))) ((idx b a.2).bind fun c=>(idx b a.2).bind fun d=>some (.inl (w64 ((w64 (a.1 + c.Hi)) - d.Lo),w64 (a.2 + 1)))) (some (.inr a.1))
noncomputable def ql7 (a : List qi) : Option (Int × Int):=
  (qcr a).bind fun b=>cond (b != 0) ((qcr a).bind fun c=>some (0,c)) ((loop (q86 a) (0,0)).bind fun d=>some (d,0))
structure qbf where
  X : Int
  Y : Int
  Z : Int
  deriving DecidableEq
structure qnh where
  Turn : Int
  At : qbf
  deriving DecidableEq
structure q11j where
  Frame : qnh
  Size : qbf
  deriving DecidableEq
structure q11h where
  t_ : Int
  at_ : qbf
  flat_ : qbf
  deriving DecidableEq
end Go.Sh
