/- PX -/
import Derived.Test.YtgkialgkmjnfbaaGreatK9
namespace Go.Sh
open Go Go.Am
structure qa where
  X : Int
  Y : Int
  deriving DecidableEq
structure qg where
  A : Int
  B : Int
  deriving DecidableEq
structure Qd where
  Nodes : List qa
  Edges : List qg
  deriving DecidableEq
def qp (x : qa) : List DV:=[.int .i64 x.X,.int .i64 x.Y]
def Q2 (x : qg) : List DV:=[.int .i64 x.A,.int .i64 x.B]
structure qt where
  A : qa
  B : qa
  deriving DecidableEq
noncomputable def q51 (a : qa) : Option Bool:=
  (cond (decide ((min a.X a.Y) ≥ (-1000000))) (some (decide ((max a.X a.Y)≤1000000))) (some false)).bind fun b=>some b
noncomputable def q7f (a : qt) : Option Bool:=
  (q51 a.A).bind fun b=>(cond b ((q51 a.B).bind fun c=>some c) (some false)).bind fun d=>(cond d (some (!((a.A.X == a.B.X) == (a.A.Y == a.B.Y)))) (some false)).bind fun f=>some f
def Kw (x : qt) : List DV:=[.int .i64 x.A.X,.int .i64 x.A.Y,.int .i64 x.B.X,.int .i64 x.B.Y]
noncomputable def q37 (b : Qd) (c : Int × List qt) : Option ((Int × List qt) ⊕ ((List qt) ⊕ (List qt × Bool))):=
  cond (decide (c.1 < (b.Edges.length : Int))) ((idx b.Edges c.1).bind fun a=>(cond (decide ((min a.A a.B) < 0)) (some true) (some (decide ((max a.A a.B) ≥ (b.Nodes.length : Int))))).bind fun g=>cond g (some (.inr (.inr ([],false)))) ((idx b.Nodes a.A).bind fun d=>(idx b.Nodes a.B).bind fun f=>(q7f ({A:=d,B:=f} : qt)).bind fun h=>cond (!h) (some (.inr (.inr ([],false)))) ((app 32 c.2 [({A:=d,B:=f} : qt)]).bind fun j=>some (.inl (w64 (c.1 + 1),j))))) (some (.inr (.inl c.2)))
noncomputable def q7c (a : Qd) : Option (List qt × Bool):=
  (loop (q37 a) (0,[]) : Option ((List qt) ⊕ (List qt × Bool))).bind fun b=>(match b with | .inl c=>some (c,true) | .inr d=>some d)
structure ql where
  Lo : Int
  Hi : Int
  deriving DecidableEq
structure Yc where
  rows_ : List (Int × List ql)
  columns_ : List (Int × List ql)
  deriving DecidableEq
def Qc (x : ql) : List DV:=[.int .i64 x.Lo,.int .i64 x.Hi]
noncomputable def q3u (b : List ql) (c : ql→Option Bool) (a : Int) : Option ((Int) ⊕ ((Unit) ⊕ (Int))):=
  cond (decide (a < (b.length : Int))) ((idx b a).bind fun d=>(c d).bind fun f=>cond f (some (.inr (.inr a))) (some (.inl (w64 (a + 1))))) (some (.inr (.inl ())))
noncomputable def q94 (a : List ql) (b : ql→Option Bool) : Option Int:=
  (loop (q3u a b) 0 : Option ((Unit) ⊕ (Int))).bind fun c=>(match c with | .inl _=>some (-1) | .inr d=>some d)
noncomputable def q6h (a : List ql) (b : ql→Option Bool) : Option Bool:=
  (q94 a b).bind fun c=>some (decide (c ≥ 0))
noncomputable def q3v (a : ql) : Option Bool:=
  (cond (decide (a.Lo < a.Hi)) (some (decide (a.Lo ≥ (-1000000)))) (some false)).bind fun b=>(cond b (some (decide (a.Hi≤1000000))) (some false)).bind fun c=>some c
noncomputable def qdl (a : ql) : Option Bool:=
  (q3v a).bind fun b=>some (!b)
def q2i (x : List ql) : List DV:=[.sl 2 (x.map Qc)]
structure qn where
  at_ : Int
  list_ : Int
  by_ : Int
  deriving DecidableEq
def Qe (x : qn) : List DV:=[.int .i64 x.at_,.int .i64 x.list_,.int .i64 x.by_]
noncomputable def qbb (a : qn) (b : qn) : Option Int:=
  some (w64 (a.at_ - b.at_))
def qbh : ByteArray:=⟨#[0,1,2,2,3,3,3,3,4,4,4,4,4,4,4,4,5,5,5,5,5,5,5,5,5,5,5,5,5,5,5,5,6,6,6,6,6,6,6,6,6,6,6,6,6,6,6,6,6,6,6,6,6,6,6,6,6,6,6,6,6,6,6,6,7,7,7,7,7,7,7,7,7,7,7,7,7,7,7,7,7,7,7,7,7,7,7,7,7,7,7,7,7,7,7,7,7,7,7,7,7,7,7,7,7,7,7,7,7,7,7,7,7,7,7,7,7,7,7,7,7,7,7,7,7,7,7,7,8,8,8,8,8,8,8,8,8,8,8,8,8,8,8,8,8,8,8,8,8,8,8,8,8,8,8,8,8,8,8,8,8,8,8,8,8,8,8,8,8,8,8,8,8,8,8,8,8,8,8,8,8,8,8,8,8,8,8,8,8,8,8,8,8,8,8,8,8,8,8,8,8,8,8,8,8,8,8,8,8,8,8,8,8,8,8,8,8,8,8,8,8,8,8,8,8,8,8,8,8,8,8,8,8,8,8,8,8,8,8,8,8,8,8,8,8,8,8,8,8,8,8,8,8,8,8,8]⟩
noncomputable def q2y (c : Int) : Option Int:=
  (cond (decide (c ≥ 4294967296)) (some (Int.fdiv c (2 ^ 32),32)) (some (c,0))).bind fun a=>(cond (decide (a.1 ≥ 65536)) (some (Int.fdiv a.1 (2 ^ 16),w64 (a.2 + 16))) (some (a.1,a.2))).bind fun b=>(cond (decide (b.1 ≥ 256)) (some (Int.fdiv b.1 (2 ^ 8),w64 (b.2 + 8))) (some (b.1,b.2))).bind fun d=>(q4y qbh (IntKind.wrap .u8 d.1)).bind fun f=>some (w64 (d.2 + (w64 f)))
noncomputable def Uh (a : Int) : Option Int:=
  (q2y a).bind fun b=>some b
noncomputable def q9w (c : Int) (d : qn→qn→Option Int) (a : Int × List qn) : Option ((Int × List qn) ⊕ (List qn)):=
  (cond (decide (a.1 > c)) ((idx a.2 a.1).bind fun f=>(idx a.2 (w64 (a.1 - 1))).bind fun g=>(d f g).bind fun h=>some (decide (h < 0))) (some false)).bind fun j=>cond j ((idx a.2 (w64 (a.1 - 1))).bind fun b=>(idx a.2 a.1).bind fun k=>(idx a.2 a.1).bind fun _=>(idx (a.2.set a.1.toNat b) (w64 (a.1 - 1))).bind fun _=>some (.inl (w64 (a.1 - 1),(a.2.set a.1.toNat b).set (w64 (a.1 - 1)).toNat k))) (some (.inr a.2))
noncomputable def q9v (b : Int) (c : Int) (d : qn→qn→Option Int) (a : Int × List qn) : Option ((Int × List qn) ⊕ (List qn)):=
  cond (decide (a.1 < b)) (((loop (q9w c d) (a.1,a.2)).bind fun f=>some f).bind fun g=>some (.inl (w64 (a.1 + 1),g))) (some (.inr a.2))
noncomputable def q9u (b : qn→qn→Option Int) (c : List qn) (a : Int) (d : Int) : Option (List qn):=
  (loop (q9v d a b) (w64 (a + 1),c)).bind fun f=>some f
noncomputable def qb8 (d : Int) (b : Int) (f : qn→qn→Option Int) (a : Int × List qn) : Option ((Int × List qn) ⊕ (List qn)):=
  cond (decide ((w64 ((w64 (2 * a.1)) + 1)) ≥ d)) (some (.inr a.2)) ((cond (decide ((w64 ((w64 ((w64 (2 * a.1)) + 1)) + 1)) < d)) ((idx a.2 (w64 (b + (w64 ((w64 (2 * a.1)) + 1))))).bind fun h=>(idx a.2 (w64 ((w64 (b + (w64 ((w64 (2 * a.1)) + 1)))) + 1))).bind fun j=>(f h j).bind fun k=>some (decide (k < 0))) (some false)).bind fun l=>(cond l (some (w64 ((w64 ((w64 (2 * a.1)) + 1)) + 1))) (some (w64 ((w64 (2 * a.1)) + 1)))).bind fun c=>(idx a.2 (w64 (b + a.1))).bind fun m=>(idx a.2 (w64 (b + c))).bind fun n=>(f m n).bind fun o=>cond (!(decide (o < 0))) (some (.inr a.2)) ((idx a.2 (w64 (b + c))).bind fun g=>(idx a.2 (w64 (b + a.1))).bind fun p=>(idx a.2 (w64 (b + a.1))).bind fun _=>(idx (a.2.set (w64 (b + a.1)).toNat g) (w64 (b + c))).bind fun _=>some (.inl (c,(a.2.set (w64 (b + a.1)).toNat g).set (w64 (b + c)).toNat p))))
noncomputable def q76 (a : qn→qn→Option Int) (b : List qn) (c : Int) (d : Int) (f : Int) : Option (List qn):=
  (loop (qb8 d f a) (c,b)).bind fun g=>some g
noncomputable def q9m (d : qn→qn→Option Int) (f : Int) (b : Int) (a : Int × List qn) : Option ((Int × List qn) ⊕ (List qn)):=
  cond (decide (a.1 ≥ 0)) ((q76 d a.2 a.1 (w64 (f - b)) b).bind fun c=>(K1 c.length a.2.length).bind fun _=>some (.inl (w64 (a.1 - 1),c))) (some (.inr a.2))
noncomputable def q9n (b : Int) (g : qn→qn→Option Int) (a : Int × List qn) : Option ((Int × List qn) ⊕ (List qn)):=
  cond (decide (a.1 ≥ 0)) ((idx a.2 (w64 (b + a.1))).bind fun c=>(idx a.2 b).bind fun d=>(idx a.2 b).bind fun _=>(idx (a.2.set b.toNat c) (w64 (b + a.1))).bind fun _=>(q76 g ((a.2.set b.toNat c).set (w64 (b + a.1)).toNat d) 0 a.1 b).bind fun f=>(K1 f.length ((a.2.set b.toNat c).set (w64 (b + a.1)).toNat d).length).bind fun _=>some (.inl (w64 (a.1 - 1),f))) (some (.inr a.2))
noncomputable def q9l (c : qn→qn→Option Int) (d : List qn) (a : Int) (b : Int) : Option (List qn):=
  (loop (q9m c b a) (w64 (Int.tdiv (w64 ((w64 (b - a)) - 1)) 2),d)).bind fun f=>(loop (q9n a c) (w64 ((w64 (b - a)) - 1),f)).bind fun g=>some g
noncomputable def q4u (f : qn→qn→Option Int) (c : List qn) (a : Int) (b : Int) (d : Int) : Option (Int × Int × Int):=
  (idx c b).bind fun g=>(idx c a).bind fun h=>(f g h).bind fun j=>cond (decide (j < 0)) (some (b,a,w64 (d + 1))) (some (a,b,d))
noncomputable def q6o (a : qn→qn→Option Int) (b : List qn) (g : Int) (h : Int) (j : Int) (k : Int) : Option (Int × Int):=
  (q4u a b g h k).bind fun c=>(q4u a b c.2.1 j c.2.2).bind fun d=>(q4u a b c.1 d.1 d.2.2).bind fun f=>some (f.2.1,f.2.2)
noncomputable def q4r (c : qn→qn→Option Int) (d : List qn) (a : Int) (f : Int) : Option (Int × Int):=
  (q6o c d (w64 (a - 1)) a (w64 (a + 1)) f).bind fun b=>some (b.1,b.2)
noncomputable def q9e (d : List qn) (a : Int) (b : Int) (f : qn→qn→Option Int) : Option (Int × Int):=
  (cond (decide ((w64 (b - a)) ≥ 8)) ((cond (decide ((w64 (b - a)) ≥ 50)) ((q4r f d (w64 (a + (w64 ((w64 (Int.tdiv (w64 (b - a)) 4)) * 1)))) 0).bind fun h=>(q4r f d (w64 (a + (w64 ((w64 (Int.tdiv (w64 (b - a)) 4)) * 2)))) h.2).bind fun j=>(q4r f d (w64 (a + (w64 ((w64 (Int.tdiv (w64 (b - a)) 4)) * 3)))) j.2).bind fun k=>some (h.1,j.1,k.1,k.2)) (some (w64 (a + (w64 ((w64 (Int.tdiv (w64 (b - a)) 4)) * 1))),w64 (a + (w64 ((w64 (Int.tdiv (w64 (b - a)) 4)) * 2))),w64 (a + (w64 ((w64 (Int.tdiv (w64 (b - a)) 4)) * 3))),0))).bind fun g=>(q6o f d g.1 g.2.1 g.2.2.1 g.2.2.2).bind fun l=>some (l.1,l.2)) (some (w64 (a + (w64 ((w64 (Int.tdiv (w64 (b - a)) 4)) * 2))),0))).bind fun c=>cond (c.2 == 0) (some (c.1,1)) (cond (c.2 == 12) (some (c.1,2)) (some (c.1,0)))
noncomputable def qb5 (a : Int × Int × List qn) : Option ((Int × Int × List qn) ⊕ (List qn)):=
  cond (decide (a.1 < a.2.1)) ((idx a.2.2 a.2.1).bind fun b=>(idx a.2.2 a.1).bind fun c=>(idx a.2.2 a.1).bind fun _=>(idx (a.2.2.set a.1.toNat b) a.2.1).bind fun _=>some (.inl (w64 (a.1 + 1),w64 (a.2.1 - 1),(a.2.2.set a.1.toNat b).set a.2.1.toNat c))) (some (.inr a.2.2))
noncomputable def qb4 (f : qn→qn→Option Int) (a : List qn) (b : Int) (c : Int) : Option (List qn):=
  (loop qb5 (b,w64 (c - 1),a)).bind fun d=>some d
noncomputable def qa3 (c : Int) (b : Int × Int × List qn) (d : qn→qn→Option Int) (a : Int) : Option ((Int) ⊕ (Int)):=
  (cond (decide (a < c)) ((idx b.2.2 a).bind fun f=>(idx b.2.2 (w64 (a - 1))).bind fun g=>(d f g).bind fun h=>some (!(decide (h < 0)))) (some false)).bind fun j=>cond j (some (.inl (w64 (a + 1)))) (some (.inr a))
noncomputable def qa4 (c : qn→qn→Option Int) (a : Int × List qn) : Option ((Int × List qn) ⊕ (List qn)):=
  cond (decide (a.1 ≥ 1)) ((idx a.2 a.1).bind fun d=>(idx a.2 (w64 (a.1 - 1))).bind fun f=>(c d f).bind fun g=>cond (!(decide (g < 0))) (some (.inr a.2)) ((idx a.2 (w64 (a.1 - 1))).bind fun b=>(idx a.2 a.1).bind fun h=>(idx a.2 a.1).bind fun _=>(idx (a.2.set a.1.toNat b) (w64 (a.1 - 1))).bind fun _=>some (.inl (w64 (a.1 - 1),(a.2.set a.1.toNat b).set (w64 (a.1 - 1)).toNat h)))) (some (.inr a.2))
noncomputable def qa5 (d : Int) (f : qn→qn→Option Int) (b : Int) (a : Int × List qn) : Option ((Int × List qn) ⊕ (Int × List qn)):=
  cond (decide (a.1 < d)) ((idx a.2 a.1).bind fun g=>(idx a.2 (w64 (a.1 - 1))).bind fun h=>(f g h).bind fun j=>cond (!(decide (j < 0))) (some (.inr (b,a.2))) ((idx a.2 (w64 (a.1 - 1))).bind fun c=>(idx a.2 a.1).bind fun k=>(idx a.2 a.1).bind fun _=>(idx (a.2.set a.1.toNat c) (w64 (a.1 - 1))).bind fun _=>some (.inl (w64 (a.1 + 1),(a.2.set a.1.toNat c).set (w64 (a.1 - 1)).toNat k)))) (some (.inr (b,a.2)))
noncomputable def q6u (c : Int) (d : qn→qn→Option Int) (h : Int) (b : Int × Int × List qn) : Option ((Int × Int × List qn) ⊕ ((List qn) ⊕ (Bool × List qn))):=
  cond (decide (b.2.1 < 5)) (((loop (qa3 c b d) b.1).bind fun a=>cond (a == c) (some (.inr (true,b.2.2))) (cond (decide ((w64 (c - h)) < 50)) (some (.inr (false,b.2.2))) ((idx b.2.2 (w64 (a - 1))).bind fun f=>(idx b.2.2 a).bind fun j=>(idx b.2.2 a).bind fun _=>(idx (b.2.2.set a.toNat f) (w64 (a - 1))).bind fun _=>(cond (decide ((w64 (a - h)) ≥ 2)) ((loop (qa4 d) (w64 (a - 1),(b.2.2.set a.toNat f).set (w64 (a - 1)).toNat j)).bind fun g=>some g) (some ((b.2.2.set a.toNat f).set (w64 (a - 1)).toNat j))).bind fun k=>cond (decide ((w64 (c - a)) ≥ 2)) ((loop (qa5 c d a) (w64 (a + 1),k)).bind fun g=>some (.inl g)) (some (.inl (a,k))))) : Option ((Int × List qn) ⊕ (Bool × List qn))).bind fun m=>(match m with | .inl l=>some (.inl (l.1,w64 (b.2.1 + 1),l.2)) | .inr n=>some (.inr (.inr n)))) (some (.inr (.inl b.2.2)))
noncomputable def q6t (b : qn→qn→Option Int) (c : List qn) (a : Int) (d : Int) : Option (Bool × List qn):=
  (loop (q6u d b a) (w64 (a + 1),0,c) : Option ((List qn) ⊕ (Bool × List qn))).bind fun f=>(match f with | .inl g=>some (false,g) | .inr h=>some h)
noncomputable def qay (b : Int × Int × List qn) (c : Int) (d : qn→qn→Option Int) (a : Int) : Option ((Int) ⊕ (Int)):=
  (cond (decide (a≤b.2.1)) ((idx b.2.2 c).bind fun f=>(idx b.2.2 a).bind fun g=>(d f g).bind fun h=>some (!(decide (h < 0)))) (some false)).bind fun j=>cond j (some (.inl (w64 (a + 1)))) (some (.inr a))
noncomputable def qaz (c : Int) (b : Int × Int × List qn) (d : Int) (f : qn→qn→Option Int) (a : Int) : Option ((Int) ⊕ (Int)):=
  (cond (decide (c≤a)) ((idx b.2.2 d).bind fun g=>(idx b.2.2 a).bind fun h=>(f g h).bind fun j=>some (decide (j < 0))) (some false)).bind fun k=>cond k (some (.inl (w64 (a - 1)))) (some (.inr a))
noncomputable def qax (d : Int) (f : qn→qn→Option Int) (a : Int × Int × List qn) : Option ((Int × Int × List qn) ⊕ (Int × List qn)):=
  (loop (qay a d f) a.1).bind fun b=>(loop (qaz b a d f) a.2.1).bind fun c=>cond (decide (b > c)) (some (.inr (b,a.2.2))) ((idx a.2.2 c).bind fun g=>(idx a.2.2 b).bind fun h=>(idx a.2.2 b).bind fun _=>(idx (a.2.2.set b.toNat g) c).bind fun _=>some (.inl (w64 (b + 1),w64 (c - 1),(a.2.2.set b.toNat g).set c.toNat h)))
noncomputable def qaw (g : qn→qn→Option Int) (b : List qn) (a : Int) (h : Int) (c : Int) : Option (Int × List qn):=
  (idx b c).bind fun d=>(idx b a).bind fun j=>(idx b a).bind fun _=>(idx (b.set a.toNat d) c).bind fun _=>(loop (qax a g) (w64 (a + 1),w64 (h - 1),(b.set a.toNat d).set c.toNat j)).bind fun f=>some (f.1,f.2)
noncomputable def qaj (h : Int) (c : List qn) (b : Int) (d : qn) (f : Int) (g : qn) (j : qn→qn→Option Int) (a : Int) : Option ((Int) ⊕ (Int)):=
  (cond (decide (a≤(w64 (h - 1)))) ((idx ((c.set b.toNat d).set f.toNat g) a).bind fun k=>(idx ((c.set b.toNat d).set f.toNat g) b).bind fun l=>(j k l).bind fun m=>some (decide (m < 0))) (some false)).bind fun n=>cond n (some (.inl (w64 (a + 1)))) (some (.inr a))
noncomputable def qak (h : Int) (c : List qn) (b : Int) (d : qn) (f : Int) (g : qn) (j : qn→qn→Option Int) (a : Int) : Option ((Int) ⊕ (Int)):=
  (cond (decide (h≤a)) ((idx ((c.set b.toNat d).set f.toNat g) a).bind fun k=>(idx ((c.set b.toNat d).set f.toNat g) b).bind fun l=>(j k l).bind fun m=>some (!(decide (m < 0)))) (some false)).bind fun n=>cond n (some (.inl (w64 (a - 1)))) (some (.inr a))
noncomputable def qam (b : Int × Int × List qn) (c : Int) (d : qn→qn→Option Int) (a : Int) : Option ((Int) ⊕ (Int)):=
  (cond (decide (a≤b.2.1)) ((idx b.2.2 a).bind fun f=>(idx b.2.2 c).bind fun g=>(d f g).bind fun h=>some (decide (h < 0))) (some false)).bind fun j=>cond j (some (.inl (w64 (a + 1)))) (some (.inr a))
noncomputable def qan (c : Int) (b : Int × Int × List qn) (d : Int) (f : qn→qn→Option Int) (a : Int) : Option ((Int) ⊕ (Int)):=
  (cond (decide (c≤a)) ((idx b.2.2 a).bind fun g=>(idx b.2.2 d).bind fun h=>(f g h).bind fun j=>some (!(decide (j < 0)))) (some false)).bind fun k=>cond k (some (.inl (w64 (a - 1)))) (some (.inr a))
noncomputable def qal (d : Int) (f : qn→qn→Option Int) (a : Int × Int × List qn) : Option ((Int × Int × List qn) ⊕ (Int × List qn)):=
  (loop (qam a d f) a.1).bind fun b=>(loop (qan b a d f) a.2.1).bind fun c=>cond (decide (b > c)) (some (.inr (c,a.2.2))) ((idx a.2.2 c).bind fun g=>(idx a.2.2 b).bind fun h=>(idx a.2.2 b).bind fun _=>(idx (a.2.2.set b.toNat g) c).bind fun _=>some (.inl (w64 (b + 1),w64 (c - 1),(a.2.2.set b.toNat g).set c.toNat h)))
noncomputable def qai (k : qn→qn→Option Int) (b : List qn) (a : Int) (l : Int) (c : Int) : Option (Int × Bool × List qn):=
  (idx b c).bind fun d=>(idx b a).bind fun f=>(idx b a).bind fun _=>(idx (b.set a.toNat d) c).bind fun _=>(loop (qaj l b a d c f k) (w64 (a + 1))).bind fun j=>(loop (qak j b a d c f k) (w64 (l - 1))).bind fun g=>cond (decide (j > g)) ((idx ((b.set a.toNat d).set c.toNat f) a).bind fun m=>(idx ((b.set a.toNat d).set c.toNat f) g).bind fun p=>(idx ((b.set a.toNat d).set c.toNat f) g).bind fun _=>(idx (((b.set a.toNat d).set c.toNat f).set g.toNat m) a).bind fun _=>some (g,true,(((b.set a.toNat d).set c.toNat f).set g.toNat m).set a.toNat p)) ((idx ((b.set a.toNat d).set c.toNat f) g).bind fun n=>(idx ((b.set a.toNat d).set c.toNat f) j).bind fun q=>(idx ((b.set a.toNat d).set c.toNat f) j).bind fun _=>(idx (((b.set a.toNat d).set c.toNat f).set j.toNat n) g).bind fun _=>(loop (qal a k) (w64 (j + 1),w64 (g - 1),(((b.set a.toNat d).set c.toNat f).set j.toNat n).set g.toNat q)).bind fun h=>(idx h.2 a).bind fun o=>(idx h.2 h.1).bind fun r=>(idx h.2 h.1).bind fun _=>(idx (h.2.set h.1.toNat o) a).bind fun _=>some (h.1,false,(h.2.set h.1.toNat o).set a.toNat r))
noncomputable def q1a (a : Int) : Option Int:=
  (Uh (IntKind.wrap .u64 a)).bind fun b=>(shlK .u64 1 b).bind fun c=>some c
noncomputable def q1b (a : Int) : Option Int:=
  some (xorI .u64 (xorI .u64 (xorI .u64 a (IntKind.wrap .u64 (a * (2 ^ 13)))) (Int.fdiv (xorI .u64 a (IntKind.wrap .u64 (a * (2 ^ 13)))) (2 ^ 7))) (IntKind.wrap .u64 ((xorI .u64 (xorI .u64 a (IntKind.wrap .u64 (a * (2 ^ 13)))) (Int.fdiv (xorI .u64 a (IntKind.wrap .u64 (a * (2 ^ 13)))) (2 ^ 7))) * (2 ^ 17))))
noncomputable def q9b (b : Int) (d : Int) (f : Int) (a : Int × List qn × Int) : Option ((Int × List qn × Int) ⊕ (List qn)):=
  cond (decide (a.1≤(w64 ((w64 (b + (w64 ((w64 (Int.tdiv (w64 (d - b)) 4)) * 2)))) + 1)))) ((q1b a.2.2).bind fun c=>(cond (decide ((w64 (andI .u64 c (IntKind.wrap .u64 (f - 1)))) ≥ (w64 (d - b)))) (some (w64 ((w64 (andI .u64 c (IntKind.wrap .u64 (f - 1)))) - (w64 (d - b))))) (some (w64 (andI .u64 c (IntKind.wrap .u64 (f - 1)))))).bind fun g=>(idx a.2.1 (w64 (b + g))).bind fun h=>(idx a.2.1 a.1).bind fun j=>(idx a.2.1 a.1).bind fun _=>(idx (a.2.1.set a.1.toNat h) (w64 (b + g))).bind fun _=>some (.inl (w64 (a.1 + 1),(a.2.1.set a.1.toNat h).set (w64 (b + g)).toNat j,c))) (some (.inr a.2.1))
noncomputable def q9a (g : qn→qn→Option Int) (c : List qn) (a : Int) (b : Int) : Option (List qn):=
  cond (decide ((w64 (b - a)) ≥ 8)) ((q1a (w64 (b - a))).bind fun d=>(loop (q9b a b d) (w64 ((w64 (a + (w64 ((w64 (Int.tdiv (w64 (b - a)) 4)) * 2)))) - 1),c,IntKind.wrap .u64 (w64 (b - a)))).bind fun f=>some f) (some c)
noncomputable def q72 (c : qn→qn→Option Int) (rec : List qn→Int→Int→Int→Option (List qn)) (a : Int × Int × Int × Bool × Bool × List qn) : Option ((Int × Int × Int × Bool × Bool × List qn) ⊕ (List qn)):=
  cond (decide ((w64 (a.2.1 - a.1))≤12)) ((q9u c a.2.2.2.2.2 a.1 a.2.1).bind fun l=>(K1 l.length a.2.2.2.2.2.length).bind fun _=>some (.inr l)) (cond (a.2.2.1 == 0) ((q9l c a.2.2.2.2.2 a.1 a.2.1).bind fun m=>(K1 m.length a.2.2.2.2.2.length).bind fun _=>some (.inr m)) ((cond (!a.2.2.2.1) ((q9a c a.2.2.2.2.2 a.1 a.2.1).bind fun n=>(K1 n.length a.2.2.2.2.2.length).bind fun _=>some (w64 (a.2.2.1 - 1),n)) (some (a.2.2.1,a.2.2.2.2.2))).bind fun d=>(q9e d.2 a.1 a.2.1 c).bind fun h=>(cond (h.2 == 2) ((qb4 c d.2 a.1 a.2.1).bind fun o=>(K1 o.length d.2.length).bind fun _=>some (w64 ((w64 (a.2.1 - 1)) - (w64 (h.1 - a.1))),1,o)) (some (h.1,h.2,d.2))).bind fun f=>(cond a.2.2.2.1 (some a.2.2.2.2.1) (some false)).bind fun r=>(cond r (some (f.2.1 == 1)) (some false)).bind fun s=>(cond s ((q6t c f.2.2 a.1 a.2.1).bind fun j=>(K1 j.2.length f.2.2.length).bind fun _=>cond j.1 (some (.inr j.2)) (some (.inl j.2))) (some (.inl f.2.2)) : Option ((List qn) ⊕ (List qn))).bind fun t=>(match t with | .inl g=>(cond (decide (a.1 > 0)) ((idx g (w64 (a.1 - 1))).bind fun u=>(idx g f.1).bind fun v=>(c u v).bind fun w=>some (!(decide (w < 0)))) (some false)).bind fun x=>cond x ((qaw c g a.1 a.2.1 f.1).bind fun k=>(K1 k.2.length g.length).bind fun _=>some (.inl (k.1,a.2.1,d.1,a.2.2.2.1,a.2.2.2.2.1,k.2))) ((qai c g a.1 a.2.1 f.1).bind fun b=>(K1 b.2.2.length g.length).bind fun _=>cond (decide ((w64 (b.1 - a.1)) < (w64 (a.2.1 - b.1)))) ((rec b.2.2 a.1 b.1 d.1).bind fun p=>(K1 p.length b.2.2.length).bind fun _=>some (.inl (w64 (b.1 + 1),a.2.1,d.1,decide ((w64 (b.1 - a.1)) ≥ (w64 (Int.tdiv (w64 (a.2.1 - a.1)) 8))),b.2.1,p))) ((rec b.2.2 (w64 (b.1 + 1)) a.2.1 d.1).bind fun q=>(K1 q.length b.2.2.length).bind fun _=>some (.inl (a.1,b.1,d.1,decide ((w64 (a.2.1 - b.1)) ≥ (w64 (Int.tdiv (w64 (a.2.1 - a.1)) 8))),b.2.1,q)))) | .inr y=>some (.inr y))))
noncomputable def q73 (rec : List qn→Int→Int→Int→Option (List qn)) (a : qn→qn→Option Int) (b : List qn) (c : Int) (d : Int) (f : Int) : Option (List qn):=
  (loop (q72 a rec) (c,d,f,true,true,b)).bind fun g=>some g
noncomputable def q71 : Nat→(qn→qn→Option Int)→List qn→Int→Int→Int→Option (List qn)
  | 0,_,_,_,_,_=>none
  | n + 1,a,b,c,d,f=>q73 (q71 n a) a b c d f
noncomputable def q6l (c : qn→qn→Option Int) (a : List qn) : Option (List qn):=
  (Uh (IntKind.wrap .u64 (a.length : Int))).bind fun d=>(lim (fun n=>q71 n c a 0 (a.length : Int) d)).bind fun b=>(K1 b.length a.length).bind fun _=>some b
noncomputable def qdg (a : List qn) : Option (List qn):=
  some a
noncomputable def q4w (b : List ql) (c : Int × List qn) (a : Int × List qn) : Option ((Int × List qn) ⊕ (List qn)):=
  cond (decide (a.1 < (b.length : Int))) ((idx b a.1).bind fun d=>(app 24 a.2 [({at_:=d.Lo,list_:=c.1,by_:=1} : qn),({at_:=d.Hi,list_:=c.1,by_:=(-1)} : qn)]).bind fun f=>some (.inl (w64 (a.1 + 1),f))) (some (.inr a.2))
noncomputable def q28 (b : List (List ql)) (a : Int × List qn) : Option ((Int × List qn) ⊕ (List qn)):=
  cond (decide (a.1 < (b.length : Int))) (((idx b a.1).bind fun c=>(loop (q4w c a) (0,a.2)).bind fun d=>some d).bind fun f=>some (.inl (w64 (a.1 + 1),f))) (some (.inr a.2))
noncomputable def qbc (b : List (List ql)) : Option (List (List ql) × List qn):=
  (loop (q28 b) (0,[])).bind fun c=>(q6l (fun f g=>qbb f g) c).bind fun a=>(K1 a.length c.length).bind fun _=>(qdg a).bind fun d=>(K1 d.length a.length).bind fun _=>some (b,d)
noncomputable def qbd (b : Int) (d : Bool) (c : Int) (a : List ql) : Option (List ql):=
  (cond (!d) (some true) (some (c == b))).bind fun f=>cond f (some a) ((cond (decide ((a.length : Int) > 0)) ((idx a (w64 ((a.length : Int) - 1))).bind fun g=>some (g.Hi == c)) (some false)).bind fun h=>cond h ((idx a (w64 ((a.length : Int) - 1))).bind fun j=>some (a.set (w64 ((a.length : Int) - 1)).toNat ({Lo:=j.Lo,Hi:=b} : ql))) ((app 16 a [({Lo:=c,Hi:=b} : ql)]).bind fun k=>some k))
noncomputable def q4x (f : List (List ql) × List qn) (g : Bool→Bool→Option Bool) (a : Int × List Int × Int × Bool × List ql) : Option ((Int × List Int × Int × Bool × List ql) ⊕ (List ql)):=
  cond (decide (a.1 < (f.2.length : Int))) ((idx f.2 a.1).bind fun b=>((qbd b.at_ a.2.2.2.1 a.2.2.1 a.2.2.2.2).bind fun h=>(idxA 2 a.2.1 b.list_).bind fun c=>(idxA 2 a.2.1 b.list_).bind fun _=>(idxA 2 (a.2.1.set b.list_.toNat (w64 (c + b.by_))) 0).bind fun j=>(idxA 2 (a.2.1.set b.list_.toNat (w64 (c + b.by_))) 1).bind fun k=>(g (decide (j > 0)) (decide (k > 0))).bind fun l=>some (a.2.1.set b.list_.toNat (w64 (c + b.by_)),l,h)).bind fun d=>some (.inl (w64 (a.1 + 1),d.1,b.at_,d.2.1,d.2.2))) (some (.inr a.2.2.2.2))
noncomputable def q78 (a : List ql) (b : List ql) (d : Bool→Bool→Option Bool) : Option (List ql):=
  (qbc [a,b]).bind fun c=>(K1 c.1.length [a,b].length).bind fun _=>((loop (q4x c d) (0,[0,0],0,false,[])).bind fun f=>some f).bind fun g=>some g
noncomputable def qba (a : Bool) (b : Bool) : Option Bool:=
  some a
noncomputable def q34 (a : List ql) : Option (List ql × Int):=
  cond (decide ((a.length : Int) > 400)) (some ([],4)) ((q6h a (fun b=>qdl b)).bind fun c=>cond c (some ([],8)) ((q78 a [] (fun b d=>qba b d)).bind fun f=>some (f,0)))
noncomputable def q1m (r : Yc) (s : qt) : Option Yc:=
  cond (s.A.Y == s.B.Y) ((app 16 (K5 [] s.A.Y r.rows_) [({Lo:=min s.A.X s.B.X,Hi:=max s.A.X s.B.X} : ql)]).bind fun l=>some {rows_:=K8 s.A.Y l r.rows_,columns_:=r.columns_})
    ((app 16 (K5 [] s.A.X r.columns_) [({Lo:=min s.A.Y s.B.Y,Hi:=max s.A.Y s.B.Y} : ql)]).bind fun l=>some {rows_:=r.rows_,columns_:=K8 s.A.X l r.columns_})
noncomputable def q2d : List qt→Yc→Option Yc
  | [],r=>some r
  | s::l,r=>(q1m r s).bind (q2d l)
noncomputable def U6 : List (Int × List ql)→Option (List (Int × List ql))
  | []=>some []
  | e::l=>(q34 e.2).bind fun x=>(U6 l).bind fun y=>some ((e.1,x.1)::y)
noncomputable def q7b (c : List qt) : Option Yc:=
  cond (decide (c.length≤1000000)) ((q2d c {rows_:=[],columns_:=[]}).bind fun r=>(U6 r.rows_).bind fun a=>(U6 r.columns_).bind fun b=>some {rows_:=a,columns_:=b}) none
noncomputable def qdk (a : ql) (b : Int) : Option Bool:=
  (cond (decide (a.Lo≤b)) (some (decide (b < a.Hi))) (some false)).bind fun c=>some c
noncomputable def q27 (a : List ql) (b : Int) : Option Bool:=
  (q6h a (fun c=>qdk c b)).bind fun d=>some d
noncomputable def q53 (b : Yc) (a : qa) : Option (Bool × Bool × Bool × Bool):=
  (q27 (K5 [] a.Y b.rows_) a.X).bind fun c=>(q27 (K5 [] a.X b.columns_) a.Y).bind fun d=>(q27 (K5 [] a.Y b.rows_) (w64 (a.X - 1))).bind fun f=>(q27 (K5 [] a.X b.columns_) (w64 (a.Y - 1))).bind fun g=>some (c,d,f,g)
noncomputable def qbk (b : Yc) (c : qa) : Option Bool:=
  (q53 b c).bind fun a=>(cond ((a.1 == false) && ((a.2.1 == false) && ((a.2.2.1 == false) && ((a.2.2.2 == false) && true)))) (some ((a.1 == false) && ((a.2.1 == false) && ((a.2.2.1 == false) && ((a.2.2.2 == false) && true))))) (cond ((a.1 == true) && ((a.2.1 == false) && ((a.2.2.1 == true) && ((a.2.2.2 == false) && true)))) (some ((a.1 == true) && ((a.2.1 == false) && ((a.2.2.1 == true) && ((a.2.2.2 == false) && true))))) (some ((a.1 == false) && ((a.2.1 == true) && ((a.2.2.1 == false) && ((a.2.2.2 == true) && true))))))).bind fun d=>cond d (some false) (some true)
noncomputable def q41 (a : qa) (c : List (Int × List ql)) (d : List (Int × List ql)) (b : List (qa × Bool)) : Option (List (qa × Bool)):=
  (qbk ({rows_:=c,columns_:=d} : Yc) ({X:=(a).X,Y:=(a).Y} : qa)).bind fun f=>cond f (some (K8 ({X:=(a).X,Y:=(a).Y} : qa) true b)) (some b)
noncomputable def q29 (a : qa) (b : qa) : Option Int:=
  cond (a.X != b.X) (some (w64 (a.X - b.X))) (some (w64 (a.Y - b.Y)))
noncomputable def q9t (c : Int) (d : qa→qa→Option Int) (a : Int × List qa) : Option ((Int × List qa) ⊕ (List qa)):=
  (cond (decide (a.1 > c)) ((idx a.2 a.1).bind fun f=>(idx a.2 (w64 (a.1 - 1))).bind fun g=>(d f g).bind fun h=>some (decide (h < 0))) (some false)).bind fun j=>cond j ((idx a.2 (w64 (a.1 - 1))).bind fun b=>(idx a.2 a.1).bind fun k=>(idx a.2 a.1).bind fun _=>(idx (a.2.set a.1.toNat b) (w64 (a.1 - 1))).bind fun _=>some (.inl (w64 (a.1 - 1),(a.2.set a.1.toNat b).set (w64 (a.1 - 1)).toNat k))) (some (.inr a.2))
noncomputable def q9s (b : Int) (c : Int) (d : qa→qa→Option Int) (a : Int × List qa) : Option ((Int × List qa) ⊕ (List qa)):=
  cond (decide (a.1 < b)) (((loop (q9t c d) (a.1,a.2)).bind fun f=>some f).bind fun g=>some (.inl (w64 (a.1 + 1),g))) (some (.inr a.2))
noncomputable def q9r (b : qa→qa→Option Int) (c : List qa) (a : Int) (d : Int) : Option (List qa):=
  (loop (q9s d a b) (w64 (a + 1),c)).bind fun f=>some f
noncomputable def qb7 (d : Int) (b : Int) (f : qa→qa→Option Int) (a : Int × List qa) : Option ((Int × List qa) ⊕ (List qa)):=
  cond (decide ((w64 ((w64 (2 * a.1)) + 1)) ≥ d)) (some (.inr a.2)) ((cond (decide ((w64 ((w64 ((w64 (2 * a.1)) + 1)) + 1)) < d)) ((idx a.2 (w64 (b + (w64 ((w64 (2 * a.1)) + 1))))).bind fun h=>(idx a.2 (w64 ((w64 (b + (w64 ((w64 (2 * a.1)) + 1)))) + 1))).bind fun j=>(f h j).bind fun k=>some (decide (k < 0))) (some false)).bind fun l=>(cond l (some (w64 ((w64 ((w64 (2 * a.1)) + 1)) + 1))) (some (w64 ((w64 (2 * a.1)) + 1)))).bind fun c=>(idx a.2 (w64 (b + a.1))).bind fun m=>(idx a.2 (w64 (b + c))).bind fun n=>(f m n).bind fun o=>cond (!(decide (o < 0))) (some (.inr a.2)) ((idx a.2 (w64 (b + c))).bind fun g=>(idx a.2 (w64 (b + a.1))).bind fun p=>(idx a.2 (w64 (b + a.1))).bind fun _=>(idx (a.2.set (w64 (b + a.1)).toNat g) (w64 (b + c))).bind fun _=>some (.inl (c,(a.2.set (w64 (b + a.1)).toNat g).set (w64 (b + c)).toNat p))))
noncomputable def q75 (a : qa→qa→Option Int) (b : List qa) (c : Int) (d : Int) (f : Int) : Option (List qa):=
  (loop (qb7 d f a) (c,b)).bind fun g=>some g
noncomputable def q9j (d : qa→qa→Option Int) (f : Int) (b : Int) (a : Int × List qa) : Option ((Int × List qa) ⊕ (List qa)):=
  cond (decide (a.1 ≥ 0)) ((q75 d a.2 a.1 (w64 (f - b)) b).bind fun c=>(K1 c.length a.2.length).bind fun _=>some (.inl (w64 (a.1 - 1),c))) (some (.inr a.2))
noncomputable def q9k (b : Int) (g : qa→qa→Option Int) (a : Int × List qa) : Option ((Int × List qa) ⊕ (List qa)):=
  cond (decide (a.1 ≥ 0)) ((idx a.2 (w64 (b + a.1))).bind fun c=>(idx a.2 b).bind fun d=>(idx a.2 b).bind fun _=>(idx (a.2.set b.toNat c) (w64 (b + a.1))).bind fun _=>(q75 g ((a.2.set b.toNat c).set (w64 (b + a.1)).toNat d) 0 a.1 b).bind fun f=>(K1 f.length ((a.2.set b.toNat c).set (w64 (b + a.1)).toNat d).length).bind fun _=>some (.inl (w64 (a.1 - 1),f))) (some (.inr a.2))
noncomputable def q9i (c : qa→qa→Option Int) (d : List qa) (a : Int) (b : Int) : Option (List qa):=
  (loop (q9j c b a) (w64 (Int.tdiv (w64 ((w64 (b - a)) - 1)) 2),d)).bind fun f=>(loop (q9k a c) (w64 ((w64 (b - a)) - 1),f)).bind fun g=>some g
noncomputable def q4t (f : qa→qa→Option Int) (c : List qa) (a : Int) (b : Int) (d : Int) : Option (Int × Int × Int):=
  (idx c b).bind fun g=>(idx c a).bind fun h=>(f g h).bind fun j=>cond (decide (j < 0)) (some (b,a,w64 (d + 1))) (some (a,b,d))
noncomputable def q6n (a : qa→qa→Option Int) (b : List qa) (g : Int) (h : Int) (j : Int) (k : Int) : Option (Int × Int):=
  (q4t a b g h k).bind fun c=>(q4t a b c.2.1 j c.2.2).bind fun d=>(q4t a b c.1 d.1 d.2.2).bind fun f=>some (f.2.1,f.2.2)
noncomputable def q4q (c : qa→qa→Option Int) (d : List qa) (a : Int) (f : Int) : Option (Int × Int):=
  (q6n c d (w64 (a - 1)) a (w64 (a + 1)) f).bind fun b=>some (b.1,b.2)
noncomputable def q9d (d : List qa) (a : Int) (b : Int) (f : qa→qa→Option Int) : Option (Int × Int):=
  (cond (decide ((w64 (b - a)) ≥ 8)) ((cond (decide ((w64 (b - a)) ≥ 50)) ((q4q f d (w64 (a + (w64 ((w64 (Int.tdiv (w64 (b - a)) 4)) * 1)))) 0).bind fun h=>(q4q f d (w64 (a + (w64 ((w64 (Int.tdiv (w64 (b - a)) 4)) * 2)))) h.2).bind fun j=>(q4q f d (w64 (a + (w64 ((w64 (Int.tdiv (w64 (b - a)) 4)) * 3)))) j.2).bind fun k=>some (h.1,j.1,k.1,k.2)) (some (w64 (a + (w64 ((w64 (Int.tdiv (w64 (b - a)) 4)) * 1))),w64 (a + (w64 ((w64 (Int.tdiv (w64 (b - a)) 4)) * 2))),w64 (a + (w64 ((w64 (Int.tdiv (w64 (b - a)) 4)) * 3))),0))).bind fun g=>(q6n f d g.1 g.2.1 g.2.2.1 g.2.2.2).bind fun l=>some (l.1,l.2)) (some (w64 (a + (w64 ((w64 (Int.tdiv (w64 (b - a)) 4)) * 2))),0))).bind fun c=>cond (c.2 == 0) (some (c.1,1)) (cond (c.2 == 12) (some (c.1,2)) (some (c.1,0)))
noncomputable def qb3 (a : Int × Int × List qa) : Option ((Int × Int × List qa) ⊕ (List qa)):=
  cond (decide (a.1 < a.2.1)) ((idx a.2.2 a.2.1).bind fun b=>(idx a.2.2 a.1).bind fun c=>(idx a.2.2 a.1).bind fun _=>(idx (a.2.2.set a.1.toNat b) a.2.1).bind fun _=>some (.inl (w64 (a.1 + 1),w64 (a.2.1 - 1),(a.2.2.set a.1.toNat b).set a.2.1.toNat c))) (some (.inr a.2.2))
noncomputable def qb2 (f : qa→qa→Option Int) (a : List qa) (b : Int) (c : Int) : Option (List qa):=
  (loop qb3 (b,w64 (c - 1),a)).bind fun d=>some d
noncomputable def qa0 (c : Int) (b : Int × Int × List qa) (d : qa→qa→Option Int) (a : Int) : Option ((Int) ⊕ (Int)):=
  (cond (decide (a < c)) ((idx b.2.2 a).bind fun f=>(idx b.2.2 (w64 (a - 1))).bind fun g=>(d f g).bind fun h=>some (!(decide (h < 0)))) (some false)).bind fun j=>cond j (some (.inl (w64 (a + 1)))) (some (.inr a))
noncomputable def qa1 (c : qa→qa→Option Int) (a : Int × List qa) : Option ((Int × List qa) ⊕ (List qa)):=
  cond (decide (a.1 ≥ 1)) ((idx a.2 a.1).bind fun d=>(idx a.2 (w64 (a.1 - 1))).bind fun f=>(c d f).bind fun g=>cond (!(decide (g < 0))) (some (.inr a.2)) ((idx a.2 (w64 (a.1 - 1))).bind fun b=>(idx a.2 a.1).bind fun h=>(idx a.2 a.1).bind fun _=>(idx (a.2.set a.1.toNat b) (w64 (a.1 - 1))).bind fun _=>some (.inl (w64 (a.1 - 1),(a.2.set a.1.toNat b).set (w64 (a.1 - 1)).toNat h)))) (some (.inr a.2))
noncomputable def qa2 (d : Int) (f : qa→qa→Option Int) (b : Int) (a : Int × List qa) : Option ((Int × List qa) ⊕ (Int × List qa)):=
  cond (decide (a.1 < d)) ((idx a.2 a.1).bind fun g=>(idx a.2 (w64 (a.1 - 1))).bind fun h=>(f g h).bind fun j=>cond (!(decide (j < 0))) (some (.inr (b,a.2))) ((idx a.2 (w64 (a.1 - 1))).bind fun c=>(idx a.2 a.1).bind fun k=>(idx a.2 a.1).bind fun _=>(idx (a.2.set a.1.toNat c) (w64 (a.1 - 1))).bind fun _=>some (.inl (w64 (a.1 + 1),(a.2.set a.1.toNat c).set (w64 (a.1 - 1)).toNat k)))) (some (.inr (b,a.2)))
noncomputable def q6s (c : Int) (d : qa→qa→Option Int) (h : Int) (b : Int × Int × List qa) : Option ((Int × Int × List qa) ⊕ ((List qa) ⊕ (Bool × List qa))):=
  cond (decide (b.2.1 < 5)) (((loop (qa0 c b d) b.1).bind fun a=>cond (a == c) (some (.inr (true,b.2.2))) (cond (decide ((w64 (c - h)) < 50)) (some (.inr (false,b.2.2))) ((idx b.2.2 (w64 (a - 1))).bind fun f=>(idx b.2.2 a).bind fun j=>(idx b.2.2 a).bind fun _=>(idx (b.2.2.set a.toNat f) (w64 (a - 1))).bind fun _=>(cond (decide ((w64 (a - h)) ≥ 2)) ((loop (qa1 d) (w64 (a - 1),(b.2.2.set a.toNat f).set (w64 (a - 1)).toNat j)).bind fun g=>some g) (some ((b.2.2.set a.toNat f).set (w64 (a - 1)).toNat j))).bind fun k=>cond (decide ((w64 (c - a)) ≥ 2)) ((loop (qa2 c d a) (w64 (a + 1),k)).bind fun g=>some (.inl g)) (some (.inl (a,k))))) : Option ((Int × List qa) ⊕ (Bool × List qa))).bind fun m=>(match m with | .inl l=>some (.inl (l.1,w64 (b.2.1 + 1),l.2)) | .inr n=>some (.inr (.inr n)))) (some (.inr (.inl b.2.2)))
noncomputable def q6r (b : qa→qa→Option Int) (c : List qa) (a : Int) (d : Int) : Option (Bool × List qa):=
  (loop (q6s d b a) (w64 (a + 1),0,c) : Option ((List qa) ⊕ (Bool × List qa))).bind fun f=>(match f with | .inl g=>some (false,g) | .inr h=>some h)
noncomputable def qau (b : Int × Int × List qa) (c : Int) (d : qa→qa→Option Int) (a : Int) : Option ((Int) ⊕ (Int)):=
  (cond (decide (a≤b.2.1)) ((idx b.2.2 c).bind fun f=>(idx b.2.2 a).bind fun g=>(d f g).bind fun h=>some (!(decide (h < 0)))) (some false)).bind fun j=>cond j (some (.inl (w64 (a + 1)))) (some (.inr a))
noncomputable def qav (c : Int) (b : Int × Int × List qa) (d : Int) (f : qa→qa→Option Int) (a : Int) : Option ((Int) ⊕ (Int)):=
  (cond (decide (c≤a)) ((idx b.2.2 d).bind fun g=>(idx b.2.2 a).bind fun h=>(f g h).bind fun j=>some (decide (j < 0))) (some false)).bind fun k=>cond k (some (.inl (w64 (a - 1)))) (some (.inr a))
noncomputable def qat (d : Int) (f : qa→qa→Option Int) (a : Int × Int × List qa) : Option ((Int × Int × List qa) ⊕ (Int × List qa)):=
  (loop (qau a d f) a.1).bind fun b=>(loop (qav b a d f) a.2.1).bind fun c=>cond (decide (b > c)) (some (.inr (b,a.2.2))) ((idx a.2.2 c).bind fun g=>(idx a.2.2 b).bind fun h=>(idx a.2.2 b).bind fun _=>(idx (a.2.2.set b.toNat g) c).bind fun _=>some (.inl (w64 (b + 1),w64 (c - 1),(a.2.2.set b.toNat g).set c.toNat h)))
noncomputable def qas (g : qa→qa→Option Int) (b : List qa) (a : Int) (h : Int) (c : Int) : Option (Int × List qa):=
  (idx b c).bind fun d=>(idx b a).bind fun j=>(idx b a).bind fun _=>(idx (b.set a.toNat d) c).bind fun _=>(loop (qat a g) (w64 (a + 1),w64 (h - 1),(b.set a.toNat d).set c.toNat j)).bind fun f=>some (f.1,f.2)
noncomputable def qad (h : Int) (c : List qa) (b : Int) (d : qa) (f : Int) (g : qa) (j : qa→qa→Option Int) (a : Int) : Option ((Int) ⊕ (Int)):=
  (cond (decide (a≤(w64 (h - 1)))) ((idx ((c.set b.toNat d).set f.toNat g) a).bind fun k=>(idx ((c.set b.toNat d).set f.toNat g) b).bind fun l=>(j k l).bind fun m=>some (decide (m < 0))) (some false)).bind fun n=>cond n (some (.inl (w64 (a + 1)))) (some (.inr a))
noncomputable def qae (h : Int) (c : List qa) (b : Int) (d : qa) (f : Int) (g : qa) (j : qa→qa→Option Int) (a : Int) : Option ((Int) ⊕ (Int)):=
  (cond (decide (h≤a)) ((idx ((c.set b.toNat d).set f.toNat g) a).bind fun k=>(idx ((c.set b.toNat d).set f.toNat g) b).bind fun l=>(j k l).bind fun m=>some (!(decide (m < 0)))) (some false)).bind fun n=>cond n (some (.inl (w64 (a - 1)))) (some (.inr a))
noncomputable def qag (b : Int × Int × List qa) (c : Int) (d : qa→qa→Option Int) (a : Int) : Option ((Int) ⊕ (Int)):=
  (cond (decide (a≤b.2.1)) ((idx b.2.2 a).bind fun f=>(idx b.2.2 c).bind fun g=>(d f g).bind fun h=>some (decide (h < 0))) (some false)).bind fun j=>cond j (some (.inl (w64 (a + 1)))) (some (.inr a))
noncomputable def qah (c : Int) (b : Int × Int × List qa) (d : Int) (f : qa→qa→Option Int) (a : Int) : Option ((Int) ⊕ (Int)):=
  (cond (decide (c≤a)) ((idx b.2.2 a).bind fun g=>(idx b.2.2 d).bind fun h=>(f g h).bind fun j=>some (!(decide (j < 0)))) (some false)).bind fun k=>cond k (some (.inl (w64 (a - 1)))) (some (.inr a))
noncomputable def qaf (d : Int) (f : qa→qa→Option Int) (a : Int × Int × List qa) : Option ((Int × Int × List qa) ⊕ (Int × List qa)):=
  (loop (qag a d f) a.1).bind fun b=>(loop (qah b a d f) a.2.1).bind fun c=>cond (decide (b > c)) (some (.inr (c,a.2.2))) ((idx a.2.2 c).bind fun g=>(idx a.2.2 b).bind fun h=>(idx a.2.2 b).bind fun _=>(idx (a.2.2.set b.toNat g) c).bind fun _=>some (.inl (w64 (b + 1),w64 (c - 1),(a.2.2.set b.toNat g).set c.toNat h)))
noncomputable def qac (k : qa→qa→Option Int) (b : List qa) (a : Int) (l : Int) (c : Int) : Option (Int × Bool × List qa):=
  (idx b c).bind fun d=>(idx b a).bind fun f=>(idx b a).bind fun _=>(idx (b.set a.toNat d) c).bind fun _=>(loop (qad l b a d c f k) (w64 (a + 1))).bind fun j=>(loop (qae j b a d c f k) (w64 (l - 1))).bind fun g=>cond (decide (j > g)) ((idx ((b.set a.toNat d).set c.toNat f) a).bind fun m=>(idx ((b.set a.toNat d).set c.toNat f) g).bind fun p=>(idx ((b.set a.toNat d).set c.toNat f) g).bind fun _=>(idx (((b.set a.toNat d).set c.toNat f).set g.toNat m) a).bind fun _=>some (g,true,(((b.set a.toNat d).set c.toNat f).set g.toNat m).set a.toNat p)) ((idx ((b.set a.toNat d).set c.toNat f) g).bind fun n=>(idx ((b.set a.toNat d).set c.toNat f) j).bind fun q=>(idx ((b.set a.toNat d).set c.toNat f) j).bind fun _=>(idx (((b.set a.toNat d).set c.toNat f).set j.toNat n) g).bind fun _=>(loop (qaf a k) (w64 (j + 1),w64 (g - 1),(((b.set a.toNat d).set c.toNat f).set j.toNat n).set g.toNat q)).bind fun h=>(idx h.2 a).bind fun o=>(idx h.2 h.1).bind fun r=>(idx h.2 h.1).bind fun _=>(idx (h.2.set h.1.toNat o) a).bind fun _=>some (h.1,false,(h.2.set h.1.toNat o).set a.toNat r))
noncomputable def q99 (b : Int) (d : Int) (f : Int) (a : Int × List qa × Int) : Option ((Int × List qa × Int) ⊕ (List qa)):=
  cond (decide (a.1≤(w64 ((w64 (b + (w64 ((w64 (Int.tdiv (w64 (d - b)) 4)) * 2)))) + 1)))) ((q1b a.2.2).bind fun c=>(cond (decide ((w64 (andI .u64 c (IntKind.wrap .u64 (f - 1)))) ≥ (w64 (d - b)))) (some (w64 ((w64 (andI .u64 c (IntKind.wrap .u64 (f - 1)))) - (w64 (d - b))))) (some (w64 (andI .u64 c (IntKind.wrap .u64 (f - 1)))))).bind fun g=>(idx a.2.1 (w64 (b + g))).bind fun h=>(idx a.2.1 a.1).bind fun j=>(idx a.2.1 a.1).bind fun _=>(idx (a.2.1.set a.1.toNat h) (w64 (b + g))).bind fun _=>some (.inl (w64 (a.1 + 1),(a.2.1.set a.1.toNat h).set (w64 (b + g)).toNat j,c))) (some (.inr a.2.1))
noncomputable def q98 (g : qa→qa→Option Int) (c : List qa) (a : Int) (b : Int) : Option (List qa):=
  cond (decide ((w64 (b - a)) ≥ 8)) ((q1a (w64 (b - a))).bind fun d=>(loop (q99 a b d) (w64 ((w64 (a + (w64 ((w64 (Int.tdiv (w64 (b - a)) 4)) * 2)))) - 1),c,IntKind.wrap .u64 (w64 (b - a)))).bind fun f=>some f) (some c)
noncomputable def q6z (c : qa→qa→Option Int) (rec : List qa→Int→Int→Int→Option (List qa)) (a : Int × Int × Int × Bool × Bool × List qa) : Option ((Int × Int × Int × Bool × Bool × List qa) ⊕ (List qa)):=
  cond (decide ((w64 (a.2.1 - a.1))≤12)) ((q9r c a.2.2.2.2.2 a.1 a.2.1).bind fun l=>(K1 l.length a.2.2.2.2.2.length).bind fun _=>some (.inr l)) (cond (a.2.2.1 == 0) ((q9i c a.2.2.2.2.2 a.1 a.2.1).bind fun m=>(K1 m.length a.2.2.2.2.2.length).bind fun _=>some (.inr m)) ((cond (!a.2.2.2.1) ((q98 c a.2.2.2.2.2 a.1 a.2.1).bind fun n=>(K1 n.length a.2.2.2.2.2.length).bind fun _=>some (w64 (a.2.2.1 - 1),n)) (some (a.2.2.1,a.2.2.2.2.2))).bind fun d=>(q9d d.2 a.1 a.2.1 c).bind fun h=>(cond (h.2 == 2) ((qb2 c d.2 a.1 a.2.1).bind fun o=>(K1 o.length d.2.length).bind fun _=>some (w64 ((w64 (a.2.1 - 1)) - (w64 (h.1 - a.1))),1,o)) (some (h.1,h.2,d.2))).bind fun f=>(cond a.2.2.2.1 (some a.2.2.2.2.1) (some false)).bind fun r=>(cond r (some (f.2.1 == 1)) (some false)).bind fun s=>(cond s ((q6r c f.2.2 a.1 a.2.1).bind fun j=>(K1 j.2.length f.2.2.length).bind fun _=>cond j.1 (some (.inr j.2)) (some (.inl j.2))) (some (.inl f.2.2)) : Option ((List qa) ⊕ (List qa))).bind fun t=>(match t with | .inl g=>(cond (decide (a.1 > 0)) ((idx g (w64 (a.1 - 1))).bind fun u=>(idx g f.1).bind fun v=>(c u v).bind fun w=>some (!(decide (w < 0)))) (some false)).bind fun x=>cond x ((qas c g a.1 a.2.1 f.1).bind fun k=>(K1 k.2.length g.length).bind fun _=>some (.inl (k.1,a.2.1,d.1,a.2.2.2.1,a.2.2.2.2.1,k.2))) ((qac c g a.1 a.2.1 f.1).bind fun b=>(K1 b.2.2.length g.length).bind fun _=>cond (decide ((w64 (b.1 - a.1)) < (w64 (a.2.1 - b.1)))) ((rec b.2.2 a.1 b.1 d.1).bind fun p=>(K1 p.length b.2.2.length).bind fun _=>some (.inl (w64 (b.1 + 1),a.2.1,d.1,decide ((w64 (b.1 - a.1)) ≥ (w64 (Int.tdiv (w64 (a.2.1 - a.1)) 8))),b.2.1,p))) ((rec b.2.2 (w64 (b.1 + 1)) a.2.1 d.1).bind fun q=>(K1 q.length b.2.2.length).bind fun _=>some (.inl (a.1,b.1,d.1,decide ((w64 (a.2.1 - b.1)) ≥ (w64 (Int.tdiv (w64 (a.2.1 - a.1)) 8))),b.2.1,q)))) | .inr y=>some (.inr y))))
noncomputable def q70 (rec : List qa→Int→Int→Int→Option (List qa)) (a : qa→qa→Option Int) (b : List qa) (c : Int) (d : Int) (f : Int) : Option (List qa):=
  (loop (q6z a rec) (c,d,f,true,true,b)).bind fun g=>some g
noncomputable def q6y : Nat→(qa→qa→Option Int)→List qa→Int→Int→Int→Option (List qa)
  | 0,_,_,_,_,_=>none
  | n + 1,a,b,c,d,f=>q70 (q6y n a) a b c d f
noncomputable def q6k (c : qa→qa→Option Int) (a : List qa) : Option (List qa):=
  (Uh (IntKind.wrap .u64 (a.length : Int))).bind fun d=>(lim (fun n=>q6y n c a 0 (a.length : Int) d)).bind fun b=>(K1 b.length a.length).bind fun _=>some b
noncomputable def q43 (c : ql) (b : Int × List ql) (d : (List (qa × Bool))) (a : Int × List ql) : Option (((List (qa × Bool))) ⊕ (Empty)):=
  (cond (decide (a.1 > c.Lo)) (some (decide (a.1 < c.Hi))) (some false)).bind fun f=>(cond f ((q27 a.2 b.1).bind fun g=>(cond g (some true) ((q27 a.2 (w64 (b.1 - 1))).bind fun h=>some h)).bind fun j=>some j) (some false)).bind fun k=>cond k (some (.inl (K8 ({X:=a.1,Y:=b.1} : qa) true d))) (some (.inl d))
noncomputable def q42 (a : Int × List ql) (b : Yc) (c : Int × (List (qa × Bool))) : Option ((Int × (List (qa × Bool))) ⊕ (((List (qa × Bool))) ⊕ (List qa × Bool))):=
  cond (decide (c.1 < (a.2.length : Int))) ((idx a.2 c.1).bind fun d=>(q41 ({X:=d.Lo,Y:=a.1} : qa) b.rows_ b.columns_ c.2).bind fun h=>(q41 ({X:=d.Hi,Y:=a.1} : qa) b.rows_ b.columns_ h).bind fun f=>(q19 (fun (x y : (List (qa × Bool)))=>List.Perm x y) (q43 d a) b.columns_ (f : (List (qa × Bool)))).bind fun _=>(Kq (q43 d a) b.columns_ (f : (List (qa × Bool)))).bind fun j=>(match j with | .inl g=>cond (decide ((g.length : Int) > 400)) (some (.inr (.inr ([],false)))) (some (.inl (w64 (c.1 + 1),g))) | .inr k=>k.elim)) (some (.inr (.inl c.2)))
noncomputable def q1e (a : Yc) (b : (List (qa × Bool))) (c : Int × List ql) : Option (((List (qa × Bool))) ⊕ (List qa × Bool)):=
  (loop (q42 c a) (0,b) : Option (((List (qa × Bool))) ⊕ (List qa × Bool))).bind fun d=>(match d with | .inl f=>some (.inl f) | .inr g=>some (.inr g))
noncomputable def q54 (b : Int × List ql) (c : Yc) (a : Int × (List (qa × Bool))) : Option ((Int × (List (qa × Bool))) ⊕ ((List (qa × Bool)))):=
  cond (decide (a.1 < (b.2.length : Int))) ((idx b.2 a.1).bind fun d=>(q41 ({X:=b.1,Y:=d.Lo} : qa) c.rows_ c.columns_ a.2).bind fun f=>(q41 ({X:=b.1,Y:=d.Hi} : qa) c.rows_ c.columns_ f).bind fun g=>some (.inl (w64 (a.1 + 1),g))) (some (.inr a.2))
noncomputable def q44 (a : Yc) (b : (List (qa × Bool))) (c : Int × List ql) : Option (((List (qa × Bool))) ⊕ (Empty)):=
  (loop (q54 c a) (0,b)).bind fun d=>some (.inl d)
noncomputable def q39 (a : List qa) (b : qa × Bool) : Option ((List qa) ⊕ Empty):=
  (app 16 a [b.1]).bind fun c=>some (.inl c)
noncomputable def q45 (a : List qa) : Option (List qa × Bool):=
  (q6k (fun c d=>q29 c d) a).bind fun b=>(K1 b.length a.length).bind fun _=>some (b,decide ((a.length : Int)≤400))
noncomputable def q7e (a : Yc) : Option (List qa × Bool):=
  (q19 (fun (x y : (List (qa × Bool)))=>List.Perm x y) (q1e a) a.rows_ (([] : List (qa × Bool)) : (List (qa × Bool)))).bind fun _=>(Kq (q1e a) a.rows_ (([] : List (qa × Bool)) : (List (qa × Bool)))).bind fun f=>(match f with | .inl c=>(q19 (fun (x y : (List (qa × Bool)))=>List.Perm x y) (q44 a) a.columns_ (c : (List (qa × Bool)))).bind fun _=>(Kq (q44 a) a.columns_ (c : (List (qa × Bool)))).bind fun g=>(match g with | .inl d=>(q4n (fun l=>(Kq (q39) l (([] : List qa) : List qa)).bind (q7g (q45))) d).bind fun _=>(Kq (q39) d (([] : List qa) : List qa)).bind (q7g (q45)) | .inr b=>b.elim) | .inr b=>some b)
noncomputable def q38 (a : qg) (b : qg) : Option Int:=
  (q29 ({X:=a.A,Y:=a.B} : qa) ({X:=b.A,Y:=b.B} : qa)).bind fun c=>some c
noncomputable def q9q (c : Int) (d : qg→qg→Option Int) (a : Int × List qg) : Option ((Int × List qg) ⊕ (List qg)):=
  (cond (decide (a.1 > c)) ((idx a.2 a.1).bind fun f=>(idx a.2 (w64 (a.1 - 1))).bind fun g=>(d f g).bind fun h=>some (decide (h < 0))) (some false)).bind fun j=>cond j ((idx a.2 (w64 (a.1 - 1))).bind fun b=>(idx a.2 a.1).bind fun k=>(idx a.2 a.1).bind fun _=>(idx (a.2.set a.1.toNat b) (w64 (a.1 - 1))).bind fun _=>some (.inl (w64 (a.1 - 1),(a.2.set a.1.toNat b).set (w64 (a.1 - 1)).toNat k))) (some (.inr a.2))
noncomputable def q9p (b : Int) (c : Int) (d : qg→qg→Option Int) (a : Int × List qg) : Option ((Int × List qg) ⊕ (List qg)):=
  cond (decide (a.1 < b)) (((loop (q9q c d) (a.1,a.2)).bind fun f=>some f).bind fun g=>some (.inl (w64 (a.1 + 1),g))) (some (.inr a.2))
noncomputable def q9o (b : qg→qg→Option Int) (c : List qg) (a : Int) (d : Int) : Option (List qg):=
  (loop (q9p d a b) (w64 (a + 1),c)).bind fun f=>some f
noncomputable def qb6 (d : Int) (b : Int) (f : qg→qg→Option Int) (a : Int × List qg) : Option ((Int × List qg) ⊕ (List qg)):=
  cond (decide ((w64 ((w64 (2 * a.1)) + 1)) ≥ d)) (some (.inr a.2)) ((cond (decide ((w64 ((w64 ((w64 (2 * a.1)) + 1)) + 1)) < d)) ((idx a.2 (w64 (b + (w64 ((w64 (2 * a.1)) + 1))))).bind fun h=>(idx a.2 (w64 ((w64 (b + (w64 ((w64 (2 * a.1)) + 1)))) + 1))).bind fun j=>(f h j).bind fun k=>some (decide (k < 0))) (some false)).bind fun l=>(cond l (some (w64 ((w64 ((w64 (2 * a.1)) + 1)) + 1))) (some (w64 ((w64 (2 * a.1)) + 1)))).bind fun c=>(idx a.2 (w64 (b + a.1))).bind fun m=>(idx a.2 (w64 (b + c))).bind fun n=>(f m n).bind fun o=>cond (!(decide (o < 0))) (some (.inr a.2)) ((idx a.2 (w64 (b + c))).bind fun g=>(idx a.2 (w64 (b + a.1))).bind fun p=>(idx a.2 (w64 (b + a.1))).bind fun _=>(idx (a.2.set (w64 (b + a.1)).toNat g) (w64 (b + c))).bind fun _=>some (.inl (c,(a.2.set (w64 (b + a.1)).toNat g).set (w64 (b + c)).toNat p))))
noncomputable def q74 (a : qg→qg→Option Int) (b : List qg) (c : Int) (d : Int) (f : Int) : Option (List qg):=
  (loop (qb6 d f a) (c,b)).bind fun g=>some g
noncomputable def q9g (d : qg→qg→Option Int) (f : Int) (b : Int) (a : Int × List qg) : Option ((Int × List qg) ⊕ (List qg)):=
  cond (decide (a.1 ≥ 0)) ((q74 d a.2 a.1 (w64 (f - b)) b).bind fun c=>(K1 c.length a.2.length).bind fun _=>some (.inl (w64 (a.1 - 1),c))) (some (.inr a.2))
noncomputable def q9h (b : Int) (g : qg→qg→Option Int) (a : Int × List qg) : Option ((Int × List qg) ⊕ (List qg)):=
  cond (decide (a.1 ≥ 0)) ((idx a.2 (w64 (b + a.1))).bind fun c=>(idx a.2 b).bind fun d=>(idx a.2 b).bind fun _=>(idx (a.2.set b.toNat c) (w64 (b + a.1))).bind fun _=>(q74 g ((a.2.set b.toNat c).set (w64 (b + a.1)).toNat d) 0 a.1 b).bind fun f=>(K1 f.length ((a.2.set b.toNat c).set (w64 (b + a.1)).toNat d).length).bind fun _=>some (.inl (w64 (a.1 - 1),f))) (some (.inr a.2))
noncomputable def q9f (c : qg→qg→Option Int) (d : List qg) (a : Int) (b : Int) : Option (List qg):=
  (loop (q9g c b a) (w64 (Int.tdiv (w64 ((w64 (b - a)) - 1)) 2),d)).bind fun f=>(loop (q9h a c) (w64 ((w64 (b - a)) - 1),f)).bind fun g=>some g
noncomputable def q4s (f : qg→qg→Option Int) (c : List qg) (a : Int) (b : Int) (d : Int) : Option (Int × Int × Int):=
  (idx c b).bind fun g=>(idx c a).bind fun h=>(f g h).bind fun j=>cond (decide (j < 0)) (some (b,a,w64 (d + 1))) (some (a,b,d))
noncomputable def q6m (a : qg→qg→Option Int) (b : List qg) (g : Int) (h : Int) (j : Int) (k : Int) : Option (Int × Int):=
  (q4s a b g h k).bind fun c=>(q4s a b c.2.1 j c.2.2).bind fun d=>(q4s a b c.1 d.1 d.2.2).bind fun f=>some (f.2.1,f.2.2)
noncomputable def q4p (c : qg→qg→Option Int) (d : List qg) (a : Int) (f : Int) : Option (Int × Int):=
  (q6m c d (w64 (a - 1)) a (w64 (a + 1)) f).bind fun b=>some (b.1,b.2)
noncomputable def q9c (d : List qg) (a : Int) (b : Int) (f : qg→qg→Option Int) : Option (Int × Int):=
  (cond (decide ((w64 (b - a)) ≥ 8)) ((cond (decide ((w64 (b - a)) ≥ 50)) ((q4p f d (w64 (a + (w64 ((w64 (Int.tdiv (w64 (b - a)) 4)) * 1)))) 0).bind fun h=>(q4p f d (w64 (a + (w64 ((w64 (Int.tdiv (w64 (b - a)) 4)) * 2)))) h.2).bind fun j=>(q4p f d (w64 (a + (w64 ((w64 (Int.tdiv (w64 (b - a)) 4)) * 3)))) j.2).bind fun k=>some (h.1,j.1,k.1,k.2)) (some (w64 (a + (w64 ((w64 (Int.tdiv (w64 (b - a)) 4)) * 1))),w64 (a + (w64 ((w64 (Int.tdiv (w64 (b - a)) 4)) * 2))),w64 (a + (w64 ((w64 (Int.tdiv (w64 (b - a)) 4)) * 3))),0))).bind fun g=>(q6m f d g.1 g.2.1 g.2.2.1 g.2.2.2).bind fun l=>some (l.1,l.2)) (some (w64 (a + (w64 ((w64 (Int.tdiv (w64 (b - a)) 4)) * 2))),0))).bind fun c=>cond (c.2 == 0) (some (c.1,1)) (cond (c.2 == 12) (some (c.1,2)) (some (c.1,0)))
noncomputable def qb1 (a : Int × Int × List qg) : Option ((Int × Int × List qg) ⊕ (List qg)):=
  cond (decide (a.1 < a.2.1)) ((idx a.2.2 a.2.1).bind fun b=>(idx a.2.2 a.1).bind fun c=>(idx a.2.2 a.1).bind fun _=>(idx (a.2.2.set a.1.toNat b) a.2.1).bind fun _=>some (.inl (w64 (a.1 + 1),w64 (a.2.1 - 1),(a.2.2.set a.1.toNat b).set a.2.1.toNat c))) (some (.inr a.2.2))
noncomputable def qb0 (f : qg→qg→Option Int) (a : List qg) (b : Int) (c : Int) : Option (List qg):=
  (loop qb1 (b,w64 (c - 1),a)).bind fun d=>some d
noncomputable def q9x (c : Int) (b : Int × Int × List qg) (d : qg→qg→Option Int) (a : Int) : Option ((Int) ⊕ (Int)):=
  (cond (decide (a < c)) ((idx b.2.2 a).bind fun f=>(idx b.2.2 (w64 (a - 1))).bind fun g=>(d f g).bind fun h=>some (!(decide (h < 0)))) (some false)).bind fun j=>cond j (some (.inl (w64 (a + 1)))) (some (.inr a))
noncomputable def q9y (c : qg→qg→Option Int) (a : Int × List qg) : Option ((Int × List qg) ⊕ (List qg)):=
  cond (decide (a.1 ≥ 1)) ((idx a.2 a.1).bind fun d=>(idx a.2 (w64 (a.1 - 1))).bind fun f=>(c d f).bind fun g=>cond (!(decide (g < 0))) (some (.inr a.2)) ((idx a.2 (w64 (a.1 - 1))).bind fun b=>(idx a.2 a.1).bind fun h=>(idx a.2 a.1).bind fun _=>(idx (a.2.set a.1.toNat b) (w64 (a.1 - 1))).bind fun _=>some (.inl (w64 (a.1 - 1),(a.2.set a.1.toNat b).set (w64 (a.1 - 1)).toNat h)))) (some (.inr a.2))
noncomputable def q9z (d : Int) (f : qg→qg→Option Int) (b : Int) (a : Int × List qg) : Option ((Int × List qg) ⊕ (Int × List qg)):=
  cond (decide (a.1 < d)) ((idx a.2 a.1).bind fun g=>(idx a.2 (w64 (a.1 - 1))).bind fun h=>(f g h).bind fun j=>cond (!(decide (j < 0))) (some (.inr (b,a.2))) ((idx a.2 (w64 (a.1 - 1))).bind fun c=>(idx a.2 a.1).bind fun k=>(idx a.2 a.1).bind fun _=>(idx (a.2.set a.1.toNat c) (w64 (a.1 - 1))).bind fun _=>some (.inl (w64 (a.1 + 1),(a.2.set a.1.toNat c).set (w64 (a.1 - 1)).toNat k)))) (some (.inr (b,a.2)))
noncomputable def q6q (c : Int) (d : qg→qg→Option Int) (h : Int) (b : Int × Int × List qg) : Option ((Int × Int × List qg) ⊕ ((List qg) ⊕ (Bool × List qg))):=
  cond (decide (b.2.1 < 5)) (((loop (q9x c b d) b.1).bind fun a=>cond (a == c) (some (.inr (true,b.2.2))) (cond (decide ((w64 (c - h)) < 50)) (some (.inr (false,b.2.2))) ((idx b.2.2 (w64 (a - 1))).bind fun f=>(idx b.2.2 a).bind fun j=>(idx b.2.2 a).bind fun _=>(idx (b.2.2.set a.toNat f) (w64 (a - 1))).bind fun _=>(cond (decide ((w64 (a - h)) ≥ 2)) ((loop (q9y d) (w64 (a - 1),(b.2.2.set a.toNat f).set (w64 (a - 1)).toNat j)).bind fun g=>some g) (some ((b.2.2.set a.toNat f).set (w64 (a - 1)).toNat j))).bind fun k=>cond (decide ((w64 (c - a)) ≥ 2)) ((loop (q9z c d a) (w64 (a + 1),k)).bind fun g=>some (.inl g)) (some (.inl (a,k))))) : Option ((Int × List qg) ⊕ (Bool × List qg))).bind fun m=>(match m with | .inl l=>some (.inl (l.1,w64 (b.2.1 + 1),l.2)) | .inr n=>some (.inr (.inr n)))) (some (.inr (.inl b.2.2)))
noncomputable def q6p (b : qg→qg→Option Int) (c : List qg) (a : Int) (d : Int) : Option (Bool × List qg):=
  (loop (q6q d b a) (w64 (a + 1),0,c) : Option ((List qg) ⊕ (Bool × List qg))).bind fun f=>(match f with | .inl g=>some (false,g) | .inr h=>some h)
noncomputable def qaq (b : Int × Int × List qg) (c : Int) (d : qg→qg→Option Int) (a : Int) : Option ((Int) ⊕ (Int)):=
  (cond (decide (a≤b.2.1)) ((idx b.2.2 c).bind fun f=>(idx b.2.2 a).bind fun g=>(d f g).bind fun h=>some (!(decide (h < 0)))) (some false)).bind fun j=>cond j (some (.inl (w64 (a + 1)))) (some (.inr a))
noncomputable def qar (c : Int) (b : Int × Int × List qg) (d : Int) (f : qg→qg→Option Int) (a : Int) : Option ((Int) ⊕ (Int)):=
  (cond (decide (c≤a)) ((idx b.2.2 d).bind fun g=>(idx b.2.2 a).bind fun h=>(f g h).bind fun j=>some (decide (j < 0))) (some false)).bind fun k=>cond k (some (.inl (w64 (a - 1)))) (some (.inr a))
noncomputable def qap (d : Int) (f : qg→qg→Option Int) (a : Int × Int × List qg) : Option ((Int × Int × List qg) ⊕ (Int × List qg)):=
  (loop (qaq a d f) a.1).bind fun b=>(loop (qar b a d f) a.2.1).bind fun c=>cond (decide (b > c)) (some (.inr (b,a.2.2))) ((idx a.2.2 c).bind fun g=>(idx a.2.2 b).bind fun h=>(idx a.2.2 b).bind fun _=>(idx (a.2.2.set b.toNat g) c).bind fun _=>some (.inl (w64 (b + 1),w64 (c - 1),(a.2.2.set b.toNat g).set c.toNat h)))
noncomputable def qao (g : qg→qg→Option Int) (b : List qg) (a : Int) (h : Int) (c : Int) : Option (Int × List qg):=
  (idx b c).bind fun d=>(idx b a).bind fun j=>(idx b a).bind fun _=>(idx (b.set a.toNat d) c).bind fun _=>(loop (qap a g) (w64 (a + 1),w64 (h - 1),(b.set a.toNat d).set c.toNat j)).bind fun f=>some (f.1,f.2)
noncomputable def qa7 (h : Int) (c : List qg) (b : Int) (d : qg) (f : Int) (g : qg) (j : qg→qg→Option Int) (a : Int) : Option ((Int) ⊕ (Int)):=
  (cond (decide (a≤(w64 (h - 1)))) ((idx ((c.set b.toNat d).set f.toNat g) a).bind fun k=>(idx ((c.set b.toNat d).set f.toNat g) b).bind fun l=>(j k l).bind fun m=>some (decide (m < 0))) (some false)).bind fun n=>cond n (some (.inl (w64 (a + 1)))) (some (.inr a))
noncomputable def qa8 (h : Int) (c : List qg) (b : Int) (d : qg) (f : Int) (g : qg) (j : qg→qg→Option Int) (a : Int) : Option ((Int) ⊕ (Int)):=
  (cond (decide (h≤a)) ((idx ((c.set b.toNat d).set f.toNat g) a).bind fun k=>(idx ((c.set b.toNat d).set f.toNat g) b).bind fun l=>(j k l).bind fun m=>some (!(decide (m < 0)))) (some false)).bind fun n=>cond n (some (.inl (w64 (a - 1)))) (some (.inr a))
noncomputable def qaa (b : Int × Int × List qg) (c : Int) (d : qg→qg→Option Int) (a : Int) : Option ((Int) ⊕ (Int)):=
  (cond (decide (a≤b.2.1)) ((idx b.2.2 a).bind fun f=>(idx b.2.2 c).bind fun g=>(d f g).bind fun h=>some (decide (h < 0))) (some false)).bind fun j=>cond j (some (.inl (w64 (a + 1)))) (some (.inr a))
noncomputable def qab (c : Int) (b : Int × Int × List qg) (d : Int) (f : qg→qg→Option Int) (a : Int) : Option ((Int) ⊕ (Int)):=
  (cond (decide (c≤a)) ((idx b.2.2 a).bind fun g=>(idx b.2.2 d).bind fun h=>(f g h).bind fun j=>some (!(decide (j < 0)))) (some false)).bind fun k=>cond k (some (.inl (w64 (a - 1)))) (some (.inr a))
noncomputable def qa9 (d : Int) (f : qg→qg→Option Int) (a : Int × Int × List qg) : Option ((Int × Int × List qg) ⊕ (Int × List qg)):=
  (loop (qaa a d f) a.1).bind fun b=>(loop (qab b a d f) a.2.1).bind fun c=>cond (decide (b > c)) (some (.inr (c,a.2.2))) ((idx a.2.2 c).bind fun g=>(idx a.2.2 b).bind fun h=>(idx a.2.2 b).bind fun _=>(idx (a.2.2.set b.toNat g) c).bind fun _=>some (.inl (w64 (b + 1),w64 (c - 1),(a.2.2.set b.toNat g).set c.toNat h)))
noncomputable def qa6 (k : qg→qg→Option Int) (b : List qg) (a : Int) (l : Int) (c : Int) : Option (Int × Bool × List qg):=
  (idx b c).bind fun d=>(idx b a).bind fun f=>(idx b a).bind fun _=>(idx (b.set a.toNat d) c).bind fun _=>(loop (qa7 l b a d c f k) (w64 (a + 1))).bind fun j=>(loop (qa8 j b a d c f k) (w64 (l - 1))).bind fun g=>cond (decide (j > g)) ((idx ((b.set a.toNat d).set c.toNat f) a).bind fun m=>(idx ((b.set a.toNat d).set c.toNat f) g).bind fun p=>(idx ((b.set a.toNat d).set c.toNat f) g).bind fun _=>(idx (((b.set a.toNat d).set c.toNat f).set g.toNat m) a).bind fun _=>some (g,true,(((b.set a.toNat d).set c.toNat f).set g.toNat m).set a.toNat p)) ((idx ((b.set a.toNat d).set c.toNat f) g).bind fun n=>(idx ((b.set a.toNat d).set c.toNat f) j).bind fun q=>(idx ((b.set a.toNat d).set c.toNat f) j).bind fun _=>(idx (((b.set a.toNat d).set c.toNat f).set j.toNat n) g).bind fun _=>(loop (qa9 a k) (w64 (j + 1),w64 (g - 1),(((b.set a.toNat d).set c.toNat f).set j.toNat n).set g.toNat q)).bind fun h=>(idx h.2 a).bind fun o=>(idx h.2 h.1).bind fun r=>(idx h.2 h.1).bind fun _=>(idx (h.2.set h.1.toNat o) a).bind fun _=>some (h.1,false,(h.2.set h.1.toNat o).set a.toNat r))
noncomputable def q97 (b : Int) (d : Int) (f : Int) (a : Int × List qg × Int) : Option ((Int × List qg × Int) ⊕ (List qg)):=
  cond (decide (a.1≤(w64 ((w64 (b + (w64 ((w64 (Int.tdiv (w64 (d - b)) 4)) * 2)))) + 1)))) ((q1b a.2.2).bind fun c=>(cond (decide ((w64 (andI .u64 c (IntKind.wrap .u64 (f - 1)))) ≥ (w64 (d - b)))) (some (w64 ((w64 (andI .u64 c (IntKind.wrap .u64 (f - 1)))) - (w64 (d - b))))) (some (w64 (andI .u64 c (IntKind.wrap .u64 (f - 1)))))).bind fun g=>(idx a.2.1 (w64 (b + g))).bind fun h=>(idx a.2.1 a.1).bind fun j=>(idx a.2.1 a.1).bind fun _=>(idx (a.2.1.set a.1.toNat h) (w64 (b + g))).bind fun _=>some (.inl (w64 (a.1 + 1),(a.2.1.set a.1.toNat h).set (w64 (b + g)).toNat j,c))) (some (.inr a.2.1))
noncomputable def q96 (g : qg→qg→Option Int) (c : List qg) (a : Int) (b : Int) : Option (List qg):=
  cond (decide ((w64 (b - a)) ≥ 8)) ((q1a (w64 (b - a))).bind fun d=>(loop (q97 a b d) (w64 ((w64 (a + (w64 ((w64 (Int.tdiv (w64 (b - a)) 4)) * 2)))) - 1),c,IntKind.wrap .u64 (w64 (b - a)))).bind fun f=>some f) (some c)
noncomputable def q6w (c : qg→qg→Option Int) (rec : List qg→Int→Int→Int→Option (List qg)) (a : Int × Int × Int × Bool × Bool × List qg) : Option ((Int × Int × Int × Bool × Bool × List qg) ⊕ (List qg)):=
  cond (decide ((w64 (a.2.1 - a.1))≤12)) ((q9o c a.2.2.2.2.2 a.1 a.2.1).bind fun l=>(K1 l.length a.2.2.2.2.2.length).bind fun _=>some (.inr l)) (cond (a.2.2.1 == 0) ((q9f c a.2.2.2.2.2 a.1 a.2.1).bind fun m=>(K1 m.length a.2.2.2.2.2.length).bind fun _=>some (.inr m)) ((cond (!a.2.2.2.1) ((q96 c a.2.2.2.2.2 a.1 a.2.1).bind fun n=>(K1 n.length a.2.2.2.2.2.length).bind fun _=>some (w64 (a.2.2.1 - 1),n)) (some (a.2.2.1,a.2.2.2.2.2))).bind fun d=>(q9c d.2 a.1 a.2.1 c).bind fun h=>(cond (h.2 == 2) ((qb0 c d.2 a.1 a.2.1).bind fun o=>(K1 o.length d.2.length).bind fun _=>some (w64 ((w64 (a.2.1 - 1)) - (w64 (h.1 - a.1))),1,o)) (some (h.1,h.2,d.2))).bind fun f=>(cond a.2.2.2.1 (some a.2.2.2.2.1) (some false)).bind fun r=>(cond r (some (f.2.1 == 1)) (some false)).bind fun s=>(cond s ((q6p c f.2.2 a.1 a.2.1).bind fun j=>(K1 j.2.length f.2.2.length).bind fun _=>cond j.1 (some (.inr j.2)) (some (.inl j.2))) (some (.inl f.2.2)) : Option ((List qg) ⊕ (List qg))).bind fun t=>(match t with | .inl g=>(cond (decide (a.1 > 0)) ((idx g (w64 (a.1 - 1))).bind fun u=>(idx g f.1).bind fun v=>(c u v).bind fun w=>some (!(decide (w < 0)))) (some false)).bind fun x=>cond x ((qao c g a.1 a.2.1 f.1).bind fun k=>(K1 k.2.length g.length).bind fun _=>some (.inl (k.1,a.2.1,d.1,a.2.2.2.1,a.2.2.2.2.1,k.2))) ((qa6 c g a.1 a.2.1 f.1).bind fun b=>(K1 b.2.2.length g.length).bind fun _=>cond (decide ((w64 (b.1 - a.1)) < (w64 (a.2.1 - b.1)))) ((rec b.2.2 a.1 b.1 d.1).bind fun p=>(K1 p.length b.2.2.length).bind fun _=>some (.inl (w64 (b.1 + 1),a.2.1,d.1,decide ((w64 (b.1 - a.1)) ≥ (w64 (Int.tdiv (w64 (a.2.1 - a.1)) 8))),b.2.1,p))) ((rec b.2.2 (w64 (b.1 + 1)) a.2.1 d.1).bind fun q=>(K1 q.length b.2.2.length).bind fun _=>some (.inl (a.1,b.1,d.1,decide ((w64 (a.2.1 - b.1)) ≥ (w64 (Int.tdiv (w64 (a.2.1 - a.1)) 8))),b.2.1,q)))) | .inr y=>some (.inr y))))
noncomputable def q6x (rec : List qg→Int→Int→Int→Option (List qg)) (a : qg→qg→Option Int) (b : List qg) (c : Int) (d : Int) (f : Int) : Option (List qg):=
  (loop (q6w a rec) (c,d,f,true,true,b)).bind fun g=>some g
noncomputable def q6v : Nat→(qg→qg→Option Int)→List qg→Int→Int→Int→Option (List qg)
  | 0,_,_,_,_,_=>none
  | n + 1,a,b,c,d,f=>q6x (q6v n a) a b c d f
noncomputable def q4o (c : qg→qg→Option Int) (a : List qg) : Option (List qg):=
  (Uh (IntKind.wrap .u64 (a.length : Int))).bind fun d=>(lim (fun n=>q6v n c a 0 (a.length : Int) d)).bind fun b=>(K1 b.length a.length).bind fun _=>some b
noncomputable def q40 (c : List qa × Bool) (g : Yc) (a : Int × (List (Int × Int)) × (List (Int × Int)) × List qg) : Option ((Int × (List (Int × Int)) × (List (Int × Int)) × List qg) ⊕ (List qg)):=
  cond (decide (a.1 < (c.1.length : Int))) ((idx c.1 a.1).bind fun b=>(q53 g b).bind fun d=>(cond d.2.2.1 ((app 16 a.2.2.2 [({A:=K5 0 b.Y a.2.1,B:=a.1} : qg)]).bind fun h=>some h) (some a.2.2.2)).bind fun f=>(cond d.2.2.2 ((app 16 f [({A:=K5 0 b.X a.2.2.1,B:=a.1} : qg)]).bind fun j=>some j) (some f)).bind fun k=>some (.inl (w64 (a.1 + 1),K8 b.Y a.1 a.2.1,K8 b.X a.1 a.2.2.1,k))) (some (.inr a.2.2.2))
noncomputable def q52 (f : List qt) : Option (Qd × Bool):=
  (q7b f).bind fun c=>(q7e c).bind fun a=>cond (!a.2) (some (({Nodes:=[],Edges:=[]} : Qd),false)) ((loop (q40 a c) (0,[],[],[])).bind fun b=>(q4o (fun g h=>q38 g h) b).bind fun d=>(K1 d.length b.length).bind fun _=>some (({Nodes:=a.1,Edges:=d} : Qd),decide ((b.length : Int)≤800)))
noncomputable def q6j (b : List qa) (f : List qa) (a : Int) : Option ((Int) ⊕ ((Unit) ⊕ (Bool))):=
  cond (decide (a < (b.length : Int))) ((idx b a).bind fun c=>(idx f a).bind fun d=>cond (!((c.X == d.X) && ((c.Y == d.Y) && true))) (some (.inr (.inr false))) (some (.inl (w64 (a + 1))))) (some (.inr (.inl ())))
noncomputable def q93 (a : List qa) (b : List qa) : Option Bool:=
  cond ((a.length : Int) != (b.length : Int)) (some false) ((loop (q6j a b) 0 : Option ((Unit) ⊕ (Bool))).bind fun c=>(match c with | .inl _=>some true | .inr d=>some d))
noncomputable def q6i (b : List qg) (f : List qg) (a : Int) : Option ((Int) ⊕ ((Unit) ⊕ (Bool))):=
  cond (decide (a < (b.length : Int))) ((idx b a).bind fun c=>(idx f a).bind fun d=>cond (!((c.A == d.A) && ((c.B == d.B) && true))) (some (.inr (.inr false))) (some (.inl (w64 (a + 1))))) (some (.inr (.inl ())))
noncomputable def q92 (a : List qg) (b : List qg) : Option Bool:=
  cond ((a.length : Int) != (b.length : Int)) (some false) ((loop (q6i a b) 0 : Option ((Unit) ⊕ (Bool))).bind fun c=>(match c with | .inl _=>some true | .inr d=>some d))
noncomputable def qbj (a : Qd) (b : Qd) : Option Bool:=
  (q93 a.Nodes b.Nodes).bind fun c=>(cond c ((q92 a.Edges b.Edges).bind fun d=>some d) (some false)).bind fun f=>some f
noncomputable def Yg (a : Qd) : Option Int:=
  (cond (decide ((a.Nodes.length : Int) > 400)) (some true) (some (decide ((a.Edges.length : Int) > 800)))).bind fun d=>cond d (some 4) ((q7c a).bind fun b=>cond (!b.2) (some 8) ((q52 b.1).bind fun c=>(cond (!c.2) (some true) ((qbj c.1 a).bind fun f=>some (!f))).bind fun g=>cond g (some 8) (some 0)))
noncomputable def q3z (a : Qd) : Option (List qt × Int):=
  (Yg a).bind fun b=>cond (b != 0) (some ([],b)) ((q7c a).bind fun c=>some (c.1,0))
structure qgf where
  At : Int
  Spans : List ql
  deriving DecidableEq
noncomputable def q8y (b : Int × List Int) (c : List Int) (a : Int) : Option ((Int) ⊕ (Int)):=
  (cond (decide (a > 0)) ((idx b.2 (w64 (a - 1))).bind fun d=>(idx c b.1).bind fun f=>some (decide (d > f))) (some false)).bind fun g=>cond g (some (.inl (w64 (a - 1)))) (some (.inr a))
noncomputable def q8x (d : List Int) (a : Int × List Int) : Option ((Int × List Int) ⊕ (List Int)):=
  cond (decide (a.1 < (d.length : Int))) (((loop (q8y a d) (a.2.length : Int)).bind fun c=>(cond (decide (c > 0)) ((idx a.2 (w64 (c - 1))).bind fun h=>(idx d a.1).bind fun j=>some (h == j)) (some false)).bind fun k=>cond k (some a.2) ((app 8 a.2 [0]).bind fun b=>(sub2 b.length (w64 (c + 1)) b.length).bind fun g=>(sub2 b.length c b.length).bind fun f=>(idx d a.1).bind fun l=>(idx (cpyw b g ((b.drop f.1).take f.2)) c).bind fun _=>some ((cpyw b g ((b.drop f.1).take f.2)).set c.toNat l))).bind fun m=>some (.inl (w64 (a.1 + 1),m))) (some (.inr a.2))
noncomputable def qge (a : List Int) : Option (List Int):=
  (loop (q8x a) (0,[])).bind fun b=>some b
noncomputable def q67 (b : Qd) (f : Qd) (a : Int) : Option ((Int) ⊕ ((Unit) ⊕ (Bool))):=
  cond (decide (a < (b.Nodes.length : Int))) ((idx b.Nodes a).bind fun c=>(idx f.Nodes a).bind fun d=>cond (!((c.X == d.X) && ((c.Y == d.Y) && true))) (some (.inr (.inr false))) (some (.inl (w64 (a + 1))))) (some (.inr (.inl ())))
noncomputable def q68 (b : Qd) (f : Qd) (a : Int) : Option ((Int) ⊕ ((Unit) ⊕ (Bool))):=
  cond (decide (a < (b.Edges.length : Int))) ((idx b.Edges a).bind fun c=>(idx f.Edges a).bind fun d=>cond (!((c.A == d.A) && ((c.B == d.B) && true))) (some (.inr (.inr false))) (some (.inl (w64 (a + 1))))) (some (.inr (.inl ())))
noncomputable def q4m (a : Qd) (b : Qd) : Option Bool:=
  (cond ((a.Nodes.length : Int) != (b.Nodes.length : Int)) (some true) (some ((a.Edges.length : Int) != (b.Edges.length : Int)))).bind fun d=>cond d (some false) ((loop (q67 a b) 0 : Option ((Unit) ⊕ (Bool))).bind fun f=>(match f with | .inl _=>(loop (q68 a b) 0 : Option ((Unit) ⊕ (Bool))).bind fun g=>(match g with | .inl _=>some true | .inr c=>some c) | .inr c=>some c))
noncomputable def q3t (b : List qt) (c : qt→Option Bool) (a : Int) : Option ((Int) ⊕ ((Unit) ⊕ (Int))):=
  cond (decide (a < (b.length : Int))) ((idx b a).bind fun d=>(c d).bind fun f=>cond f (some (.inr (.inr a))) (some (.inl (w64 (a + 1))))) (some (.inr (.inl ())))
noncomputable def qdf (a : List qt) (b : qt→Option Bool) : Option Int:=
  (loop (q3t a b) 0 : Option ((Unit) ⊕ (Int))).bind fun c=>(match c with | .inl _=>some (-1) | .inr d=>some d)
noncomputable def q6g (a : List qt) (b : qt→Option Bool) : Option Bool:=
  (qdf a b).bind fun c=>some (decide (c ≥ 0))
noncomputable def q7d (a : qt) (b : qa) : Option Bool:=
  (cond (decide ((min a.A.X a.B.X)≤b.X)) (some (decide (b.X≤(max a.A.X a.B.X)))) (some false)).bind fun c=>(cond c (some (decide ((min a.A.Y a.B.Y)≤b.Y))) (some false)).bind fun d=>(cond d (some (decide (b.Y≤(max a.A.Y a.B.Y)))) (some false)).bind fun f=>some f
noncomputable def qbi (a : qt) (b : qa) : Option Bool:=
  (q7d a b).bind fun c=>some c
noncomputable def q1d (b : Qd) (c : qa) : Option (Bool × Int):=
  (q3z b).bind fun a=>cond (a.2 != 0) (some (false,a.2)) ((q6g a.1 (fun d=>qbi d c)).bind fun f=>some (f,0))
noncomputable def q3x (b : (Bool × Bool × Bool × Bool)) (a : Int × Int) : Option ((Int × Int) ⊕ (Int)):=
  cond (decide (a.2 < 4)) (((idxA 4 [b.1,b.2.1,b.2.2.1,b.2.2.2] a.2).bind fun c=>cond c (some (w64 (a.1 + 1))) (some a.1)).bind fun d=>some (.inl (d,w64 (a.2 + 1)))) (some (.inr a.1))
noncomputable def Um (a : Qd) (b : Int) : Option (Int × Int):=
  (q3z a).bind fun c=>cond (c.2 != 0) (some (0,c.2)) ((cond (decide (b < 0)) (some true) (some (decide (b ≥ (a.Nodes.length : Int))))).bind fun d=>cond d (some (0,6)) ((q7b c.1).bind fun f=>(idx a.Nodes b).bind fun g=>(q53 f g).bind fun h=>(loop (q3x h) (0,0)).bind fun j=>some (j,0)))
noncomputable def q3y (c : List qt × Int) (b : Int × Int) : Option ((Int × Int) ⊕ (Int)):=
  cond (decide (b.2 < (c.1.length : Int))) ((idx c.1 b.2).bind fun a=>some (.inl (w64 (b.1 + (w64 ((w64 ((w64 ((max a.A.X a.B.X) - (min a.A.X a.B.X))) + (max a.A.Y a.B.Y))) - (min a.A.Y a.B.Y)))),w64 (b.2 + 1)))) (some (.inr b.1))
noncomputable def q79 (b : Qd) : Option (Int × Int):=
  (q3z b).bind fun a=>cond (a.2 != 0) (some (0,a.2)) ((loop (q3y a) (0,0)).bind fun c=>some (c,0))
structure K9 where
  At : qa
  Kind : Int
  Weight : Int
  Reach : Int
  deriving DecidableEq
def Yd (x : K9) : List DV:=[.int .i64 x.At.X,.int .i64 x.At.Y,.int .u8 x.Kind,.int .i64 x.Weight,.int .i64 x.Reach]
structure Ka where
  At : qa
  Head : Int
  Steps : Int
  deriving DecidableEq
def Je (x : Ka) : List DV:=[.int .i64 x.At.X,.int .i64 x.At.Y,.int .u8 x.Head,.int .i64 x.Steps]
noncomputable def q3j (a : qa) : Option Bool:=
  (cond (decide ((max (max (max a.X (w64 (0 - a.X))) a.Y) (w64 (0 - a.Y)))≤1000000)) (some (decide ((min a.X a.Y) ≥ (-1000000)))) (some false)).bind fun b=>some b
noncomputable def q5h (c : List K9) (b : Int) : Option ((Int) ⊕ ((Unit) ⊕ (Int))):=
  cond (decide (b < (c.length : Int))) ((idx c b).bind fun a=>(cond (decide (a.Kind < 1)) (some true) (some (decide (a.Kind > 4)))).bind fun d=>(cond d (some true) ((q3j a.At).bind fun f=>some (!f))).bind fun g=>(cond g (some true) (some (decide (a.Weight < 1)))).bind fun h=>(cond h (some true) (some (decide (a.Weight > 1000000)))).bind fun j=>(cond j (some true) (some (decide (a.Reach < 0)))).bind fun k=>(cond k (some true) (some (decide (a.Reach > 1000000)))).bind fun l=>cond l (some (.inr (.inr 8))) (some (.inl (w64 (b + 1))))) (some (.inr (.inl ())))
noncomputable def q2l (a : List K9) : Option Int:=
  cond (decide ((a.length : Int) > 60)) (some 4) ((loop (q5h a) 0 : Option ((Unit) ⊕ (Int))).bind fun b=>(match b with | .inl _=>some 0 | .inr c=>some c))
noncomputable def q3k (d : List K9) (b : qa) (c : Int × Int) : Option ((Int × Int) ⊕ (Int)):=
  cond (decide (c.1 < (d.length : Int))) (((idx d c.1).bind fun a=>cond (decide ((max (max (w64 (b.X - a.At.X)) (w64 (0 - (w64 (b.X - a.At.X))))) (max (w64 (b.Y - a.At.Y)) (w64 (0 - (w64 (b.Y - a.At.Y)))))) > a.Reach)) (some c.2) ((cond (a.Kind == 1) (some 1) (cond (a.Kind == 2) (some (-1)) ((cond ((a.Kind == 3) == (decide ((max (w64 (b.Y - a.At.Y)) (w64 (0 - (w64 (b.Y - a.At.Y))))) > (max (w64 (b.X - a.At.X)) (w64 (0 - (w64 (b.X - a.At.X)))))))) (some ((max (w64 (b.X - a.At.X)) (w64 (0 - (w64 (b.X - a.At.X))))) != (max (w64 (b.Y - a.At.Y)) (w64 (0 - (w64 (b.Y - a.At.Y))))))) (some false)).bind fun f=>cond f (some 1) (cond ((max (w64 (b.X - a.At.X)) (w64 (0 - (w64 (b.X - a.At.X))))) != (max (w64 (b.Y - a.At.Y)) (w64 (0 - (w64 (b.Y - a.At.Y)))))) (some (-1)) (some 0))))).bind fun g=>(some ()).bind fun _=>some (w64 (c.2 + (w64 ((w64 (g * a.Weight)) * (w64 ((w64 (a.Reach + 1)) - (max (max (w64 (b.X - a.At.X)) (w64 (0 - (w64 (b.X - a.At.X))))) (max (w64 (b.Y - a.At.Y)) (w64 (0 - (w64 (b.Y - a.At.Y)))))))))))))).bind fun h=>some (.inl (w64 (c.1 + 1),h))) (some (.inr c.2))
noncomputable def q5i (a : List K9) (b : qa) : Option Int:=
  (some ()).bind fun _=>((loop (q3k a b) (0,0)).bind fun c=>some c).bind fun d=>some d
noncomputable def q3i (b : List K9) (c : qa) : Option Int:=
  (q5i b c).bind fun a=>cond (decide (a > 0)) (some 0) (cond (decide (a < 0)) (some 1) (some 2))
noncomputable def q2m (g : Int) (h : List K9) (a : Int × Int × Int × Int × List qa) : Option ((Int × Int × Int × Int × List qa) ⊕ ((List qa) ⊕ (List qa × Int))):=
  cond (decide (a.2.1 < g)) ((q3i h ({X:=a.2.2.1,Y:=a.2.2.2.1} : qa)).bind fun f=>(cond (decide (f < 2)) (some ((Int.tmod a.1 2) != f)) (some false)).bind fun j=>(cond j (some (Int.tmod (IntKind.wrap .u8 (a.1 + 1)) 4)) (some a.1)).bind fun b=>(idxA 4 [({X:=1,Y:=0} : qa),({X:=0,Y:=1} : qa),({X:=(-1),Y:=0} : qa),({X:=0,Y:=(-1)} : qa)] b).bind fun c=>(idxA 4 [({X:=1,Y:=0} : qa),({X:=0,Y:=1} : qa),({X:=(-1),Y:=0} : qa),({X:=0,Y:=(-1)} : qa)] b).bind fun d=>(q3j ({X:=w64 (a.2.2.1 + c.X),Y:=w64 (a.2.2.2.1 + d.Y)} : qa)).bind fun k=>cond (!k) (some (.inr (.inr ([],16)))) ((app 16 a.2.2.2.2 [({X:=w64 (a.2.2.1 + c.X),Y:=w64 (a.2.2.2.1 + d.Y)} : qa)]).bind fun l=>some (.inl (b,w64 (a.2.1 + 1),w64 (a.2.2.1 + c.X),w64 (a.2.2.2.1 + d.Y),l)))) (some (.inr (.inl a.2.2.2.2)))
noncomputable def q1n (c : List K9) (a : qa) (d : Int) (b : Int) : Option (List qa × Int):=
  (q2l c).bind fun f=>cond (f != 0) (some ([],f)) ((q3j a).bind fun g=>(cond (!g) (some true) (some (decide (d > 3)))).bind fun h=>(cond h (some true) (some (decide (b < 0)))).bind fun j=>(cond j (some true) (some (decide (b > 500)))).bind fun k=>cond k (some ([],2)) ((loop (q2m b c) (d,0,a.X,a.Y,[a]) : Option ((List qa) ⊕ (List qa × Int))).bind fun l=>(match l with | .inl m=>some (m,0) | .inr n=>some n)))
noncomputable def q33 (b : List qa) (c : qa) (a : Int) : Option ((Int) ⊕ ((Unit) ⊕ (Int))):=
  cond (decide (a < (b.length : Int))) ((idx b a).bind fun d=>cond ((c.X == d.X) && ((c.Y == d.Y) && true)) (some (.inr (.inr a))) (some (.inl (w64 (a + 1))))) (some (.inr (.inl ())))
noncomputable def q95 (a : List qa) (b : qa) : Option Int:=
  (loop (q33 a b) 0 : Option ((Unit) ⊕ (Int))).bind fun c=>(match c with | .inl _=>some (-1) | .inr d=>some d)
noncomputable def Z5 (c : Ka) (j : List K9) (a : Int × Int × (List (qa × Bool)) × List qt × Int × Int) : Option ((Int × Int × (List (qa × Bool)) × List qt × Int × Int) ⊕ (((List (qa × Bool)) × List qt) ⊕ (Int × (List (qa × Bool)) × List qt))):=
  cond (decide (a.2.1 < ((c).Steps))) ((q1n j ({X:=a.2.2.2.2.1,Y:=a.2.2.2.2.2} : qa) a.1 1).bind fun d=>cond (d.2 != 0) (some (.inr (.inr (d.2,a.2.2.1,[])))) ((idx d.1 1).bind fun b=>(q95 [({X:=1,Y:=0} : qa),({X:=0,Y:=1} : qa),({X:=(-1),Y:=0} : qa),({X:=0,Y:=(-1)} : qa)] ({X:=w64 (b.X - a.2.2.2.2.1),Y:=w64 (b.Y - a.2.2.2.2.2)} : qa)).bind fun f=>(cond (decide (a.2.1 > 0)) (some ((IntKind.wrap .u8 f) == a.1)) (some false)).bind fun k=>(cond k ((idx a.2.2.2.1 (w64 ((a.2.2.2.1.length : Int) - 1))).bind fun l=>some (.inl (a.2.2.2.1.set (w64 ((a.2.2.2.1.length : Int) - 1)).toNat ({A:=l.A,B:=b} : qt)))) ((app 32 a.2.2.2.1 [({A:=({X:=a.2.2.2.2.1,Y:=a.2.2.2.2.2} : qa),B:=b} : qt)]).bind fun g=>cond (decide ((g.length : Int) > 400)) (some (.inr (4,a.2.2.1,[]))) (some (.inl g))) : Option ((List qt) ⊕ (Int × (List (qa × Bool)) × List qt))).bind fun m=>(match m with | .inl h=>(cond (K5 false b a.2.2.1) (some true) (some ((b.X == (((c).At).X)) && ((b.Y == (((c).At).Y)) && true)))).bind fun n=>cond n (some (.inr (.inl (K8 b true (K8 ({X:=a.2.2.2.2.1,Y:=a.2.2.2.2.2} : qa) true a.2.2.1),h)))) (some (.inl (IntKind.wrap .u8 f,w64 (a.2.1 + 1),K8 b true (K8 ({X:=a.2.2.2.2.1,Y:=a.2.2.2.2.2} : qa) true a.2.2.1),h,b.X,b.Y))) | .inr o=>some (.inr (.inr o))))) (some (.inr (.inl (a.2.2.1,a.2.2.2.1))))
noncomputable def q3a (c : List K9) (a : Ka) (d : List qt) (f : List (qa × Bool)) : Option (Int × (List (qa × Bool)) × List qt):=
  (loop (Z5 a c) ((a).Head,0,f,d,((a).At).X,((a).At).Y) : Option (((List (qa × Bool)) × List qt) ⊕ (Int × (List (qa × Bool)) × List qt))).bind fun g=>(match g with | .inl b=>some (0,b.1,b.2) | .inr h=>some h)
noncomputable def q7a (b : List qt) (a : Int) : Option ((Int) ⊕ ((Unit) ⊕ (Qd × Int))):=
  cond (decide (a < (b.length : Int))) ((idx b a).bind fun c=>(q7f c).bind fun d=>cond (!d) (some (.inr (.inr (({Nodes:=[],Edges:=[]} : Qd),8)))) (some (.inl (w64 (a + 1))))) (some (.inr (.inl ())))
noncomputable def Zf (a : List qt) : Option (Qd × Int):=
  cond (decide ((a.length : Int) > 400)) (some (({Nodes:=[],Edges:=[]} : Qd),4)) ((loop (q7a a) 0 : Option ((Unit) ⊕ (Qd × Int))).bind fun c=>(match c with | .inl _=>(q52 a).bind fun b=>cond (!b.2) (some (({Nodes:=[],Edges:=[]} : Qd),4)) (some (b.1,0)) | .inr d=>some d))
noncomputable def q36 (c : List Ka) (b : Int) : Option ((Int) ⊕ ((Unit) ⊕ (Qd × Int))):=
  cond (decide (b < (c.length : Int))) ((idx c b).bind fun a=>(q51 a.At).bind fun d=>(cond (!d) (some true) (some (decide (a.Head > 3)))).bind fun f=>(cond f (some true) (some (decide (a.Steps < 0)))).bind fun g=>(cond g (some true) (some (decide (a.Steps > 500)))).bind fun h=>cond h (some (.inr (.inr (({Nodes:=[],Edges:=[]} : Qd),8)))) (some (.inl (w64 (b + 1))))) (some (.inr (.inl ())))
noncomputable def Jl (c : List Ka) (d : List K9) (a : Int × List qt × (List (qa × Bool))) : Option ((Int × List qt × (List (qa × Bool))) ⊕ ((List qt) ⊕ (Qd × Int))):=
  cond (decide (a.1 < (c.length : Int))) ((idx c a.1).bind fun f=>(q3a d f a.2.1 a.2.2).bind fun b=>cond (b.1 != 0) (some (.inr (.inr (({Nodes:=[],Edges:=[]} : Qd),b.1)))) (some (.inl (w64 (a.1 + 1),b.2.2,b.2.1)))) (some (.inr (.inl a.2.1)))
noncomputable def Z4 (c : List K9) (a : List Ka) : Option (Qd × Int):=
  (q2l c).bind fun d=>cond (d != 0) (some (({Nodes:=[],Edges:=[]} : Qd),d)) (cond (decide ((a.length : Int) > 30)) (some (({Nodes:=[],Edges:=[]} : Qd),4)) ((loop (q36 a) 0 : Option ((Unit) ⊕ (Qd × Int))).bind fun g=>(match g with | .inl _=>(loop (Jl a c) (0,[],[]) : Option ((List qt) ⊕ (Qd × Int))).bind fun h=>(match h with | .inl j=>(Zf j).bind fun f=>some (f.1,f.2) | .inr b=>some b) | .inr b=>some b)))
noncomputable def Qx (a : Int) (b : Int) : Option qa:=
  some ({X:=a,Y:=b} : qa)
noncomputable def Z9 (a : Int) (b : Int) (c : Int) (d : Int) : Option qt:=
  (Qx a b).bind fun f=>(Qx c d).bind fun g=>some ({A:=f,B:=g} : qt)
noncomputable def q66 (b : List qa) (c : qa) (a : Int) : Option ((Int) ⊕ ((Unit) ⊕ (Int))):=
  cond (decide (a < (b.length : Int))) ((idx b a).bind fun d=>cond ((d.X == c.X) && ((d.Y == c.Y) && true)) (some (.inr (.inr a))) (some (.inl (w64 (a + 1))))) (some (.inr (.inl ())))
noncomputable def q8z (a : List qa) (b : qa) : Option Int:=
  (loop (q66 a b) 0 : Option ((Unit) ⊕ (Int))).bind fun c=>(match c with | .inl _=>some (-1) | .inr d=>some d)
noncomputable def q2x (a : Qd) (c : List qt) : Option Bool:=
  (Zf c).bind fun b=>(cond (b.2 == 0) ((q4m b.1 a).bind fun d=>some d) (some false)).bind fun f=>(cond f ((Yg a).bind fun g=>some (g == 0)) (some false)).bind fun h=>some h
noncomputable def q88 : Option Bool:=
  ((Qx 0 0).bind fun g=>(Qx 2 0).bind fun h=>(Qx 2 3).bind fun j=>(Qx 4 0).bind fun k=>some [g,h,j,k]).bind fun l=>(Um ({Nodes:=l,Edges:=[({A:=0,B:=1} : qg),({A:=1,B:=2} : qg),({A:=1,B:=3} : qg)]} : Qd) 1).bind fun b=>((Qx 0 0).bind fun m=>(Qx 2 0).bind fun n=>(Qx 2 3).bind fun o=>(Qx 4 0).bind fun p=>some [m,n,o,p]).bind fun q=>(q79 ({Nodes:=q,Edges:=[({A:=0,B:=1} : qg),({A:=1,B:=2} : qg),({A:=1,B:=3} : qg)]} : Qd)).bind fun c=>(Z9 0 0 4 0).bind fun r=>(Z9 2 3 2 0).bind fun s=>(Z9 2 (-1) 2 0).bind fun t=>(Zf [r,s,t]).bind fun a=>(Qx 2 0).bind fun u=>(q8z a.1.Nodes u).bind fun v=>(Um a.1 v).bind fun d=>(Qx 0 0).bind fun w=>(Qx 4 0).bind fun x=>(Qx 2 2).bind fun y=>(Z4 [] [({At:=({X:=0,Y:=0} : qa),Head:=0,Steps:=4} : Ka),({At:=y,Head:=3,Steps:=9} : Ka)]).bind fun f=>(Qx 0 0).bind fun z=>(Qx 2 0).bind fun aa=>(Qx 2 2).bind fun ab=>(Qx 4 0).bind fun ac=>((Qx 0 0).bind fun ad=>(Qx 2 0).bind fun ae=>(Qx 2 3).bind fun af=>(Qx 4 0).bind fun ag=>some [ad,ae,af,ag]).bind fun _=>((Qx 0 0).bind fun ah=>(Qx 2 0).bind fun ai=>(Qx 2 3).bind fun aj=>(Qx 4 0).bind fun ak=>some [ah,ai,aj,ak]).bind fun al=>(Z9 0 0 4 0).bind fun am=>(Z9 2 0 2 3).bind fun an=>(q2x ({Nodes:=al,Edges:=[({A:=0,B:=1} : qg),({A:=1,B:=2} : qg),({A:=1,B:=3} : qg)]} : Qd) [am,an]).bind fun ao=>(cond ao (some (b.2 == 0)) (some false)).bind fun ap=>(cond ap (some (b.1 == 3)) (some false)).bind fun aq=>(cond aq (some (c.2 == 0)) (some false)).bind fun ar=>(cond ar (some (c.1 == 7)) (some false)).bind fun au=>(cond au (some (a.2 == 0)) (some false)).bind fun av=>(cond av (some (d.2 == 0)) (some false)).bind fun aw=>(cond aw (some (d.1 == 4)) (some false)).bind fun ax=>cond ax ((Z9 0 0 2 0).bind fun ay=>(Z9 2 0 4 0).bind fun az=>(q2x ({Nodes:=[w,x],Edges:=[({A:=0,B:=1} : qg)]} : Qd) [ay,az]).bind fun ba=>(cond ba (some (f.2 == 0)) (some false)).bind fun bb=>(cond bb ((q4m f.1 ({Nodes:=[z,aa,ab,ac],Edges:=[({A:=0,B:=1} : qg),({A:=1,B:=2} : qg),({A:=1,B:=3} : qg)]} : Qd)).bind fun bc=>some bc) (some false)).bind fun bd=>some bd) (some false)
noncomputable def qco : Option Bool:=
  (Qx 0 0).bind fun h=>(Qx 0 2).bind fun j=>(Qx 2 0).bind fun k=>(Qx 2 2).bind fun l=>(Qx (-1) 0).bind fun m=>(Qx 0 (-1)).bind fun n=>(Qx 0 0).bind fun o=>(Qx 0 1).bind fun p=>(Qx 1 0).bind fun q=>((Z9 0 0 2 0).bind fun r=>(Z9 2 0 2 2).bind fun s=>(Z9 0 2 2 2).bind fun t=>(Z9 0 2 0 0).bind fun u=>(q2x ({Nodes:=[h,j,k,l],Edges:=[({A:=0,B:=1} : qg),({A:=0,B:=2} : qg),({A:=1,B:=3} : qg),({A:=2,B:=3} : qg)]} : Qd) [r,s,t,u]).bind fun v=>cond v ((Z9 (-1) 0 1 0).bind fun w=>(Z9 0 1 0 (-1)).bind fun x=>(Z9 0 0 1 0).bind fun y=>(q2x ({Nodes:=[m,n,o,p,q],Edges:=[({A:=0,B:=2} : qg),({A:=1,B:=2} : qg),({A:=2,B:=3} : qg),({A:=2,B:=4} : qg)]} : Qd) [w,x,y]).bind fun z=>(cond z ((q2x ({Nodes:=[],Edges:=[]} : Qd) []).bind fun aa=>some aa) (some false)).bind fun ab=>some ab) (some false)).bind fun ac=>((Qx 0 0).bind fun ad=>(Qx 2 0).bind fun ae=>(Qx 2 3).bind fun af=>(Qx 4 0).bind fun ag=>some [ad,ae,af,ag]).bind fun ah=>((Qx 0 0).bind fun ai=>(Qx 2 0).bind fun aj=>(Qx 2 3).bind fun ak=>(Qx 4 0).bind fun al=>some [ai,aj,ak,al]).bind fun am=>((Qx 0 0).bind fun an=>(Qx 2 0).bind fun ao=>(Qx 2 3).bind fun ap=>(Qx 4 0).bind fun aq=>some [an,ao,ap,aq]).bind fun a=>((Qx 0 0).bind fun ar=>(Qx 2 0).bind fun au=>(Qx 2 3).bind fun av=>(Qx 4 0).bind fun aw=>some [ar,au,av,aw]).bind fun ax=>(Qx 9 9).bind fun ay=>(app 16 am [ay]).bind fun az=>(Qx 3 0).bind fun ba=>(idx a 2).bind fun _=>((Yg ({Nodes:=ah,Edges:=[({A:=1,B:=0} : qg),({A:=1,B:=2} : qg),({A:=1,B:=3} : qg)]} : Qd)).bind fun bb=>(cond (bb == 8) ((Yg ({Nodes:=az,Edges:=[({A:=0,B:=1} : qg),({A:=1,B:=2} : qg),({A:=1,B:=3} : qg)]} : Qd)).bind fun bc=>some (bc == 8)) (some false)).bind fun bd=>(cond bd ((Yg ({Nodes:=a.set (2 : Int).toNat ba,Edges:=[({A:=0,B:=1} : qg),({A:=1,B:=2} : qg),({A:=1,B:=3} : qg)]} : Qd)).bind fun be=>some (be == 8)) (some false)).bind fun bf=>(cond bf ((Yg ({Nodes:=ax,Edges:=[({A:=0,B:=1} : qg),({A:=1,B:=1} : qg)]} : Qd)).bind fun bg=>some (bg == 8)) (some false)).bind fun bh=>cond bh ((Yg ({Nodes:=[],Edges:=[({A:=0,B:=1} : qg)]} : Qd)).bind fun bi=>cond (bi == 8) ((mks 16 401 ({X:=0,Y:=0} : qa)).bind fun bj=>(Yg ({Nodes:=bj,Edges:=[]} : Qd)).bind fun bk=>some (bk == 4)) (some false)) (some false)).bind fun bl=>(Z9 0 0 1 1).bind fun bm=>(Zf [bm]).bind fun bn=>(Z9 0 0 0 0).bind fun bo=>(Zf [bo]).bind fun bp=>(Z9 0 0 1000001 0).bind fun bq=>(Zf [bq]).bind fun br=>(mks 32 401 ({A:=({X:=0,Y:=0} : qa),B:=({X:=0,Y:=0} : qa)} : qt)).bind fun bs=>(Zf bs).bind fun bt=>((Qx 0 0).bind fun bu=>(Qx 2 0).bind fun bv=>(Qx 2 3).bind fun bw=>(Qx 4 0).bind fun bx=>some [bu,bv,bw,bx]).bind fun bz=>(Um ({Nodes:=bz,Edges:=[({A:=0,B:=1} : qg),({A:=1,B:=2} : qg),({A:=1,B:=3} : qg)]} : Qd) 4).bind fun ca=>((Qx 0 0).bind fun cb=>(Qx 2 0).bind fun cc=>(Qx 2 3).bind fun cd=>(Qx 4 0).bind fun ce=>some [cb,cc,cd,ce]).bind fun cf=>(Qx 2 2).bind fun cg=>(q1d ({Nodes:=cf,Edges:=[({A:=0,B:=1} : qg),({A:=1,B:=2} : qg),({A:=1,B:=3} : qg)]} : Qd) cg).bind fun b=>((Qx 0 0).bind fun ch=>(Qx 2 0).bind fun ci=>(Qx 2 3).bind fun cj=>(Qx 4 0).bind fun ck=>some [ch,ci,cj,ck]).bind fun cl=>(Qx 3 1).bind fun cm=>(q1d ({Nodes:=cl,Edges:=[({A:=0,B:=1} : qg),({A:=1,B:=2} : qg),({A:=1,B:=3} : qg)]} : Qd) cm).bind fun c=>(Qx 0 0).bind fun cn=>(q1d ({Nodes:=[],Edges:=[]} : Qd) cn).bind fun d=>(Qx 1 0).bind fun co=>(Z4 [({At:=({X:=0,Y:=0} : qa),Kind:=3,Weight:=1,Reach:=9} : K9)] [({At:=co,Head:=1,Steps:=500} : Ka)]).bind fun f=>(mks 32 31 ({At:=({X:=0,Y:=0} : qa),Head:=0,Steps:=0} : Ka)).bind fun cp=>(Z4 [({At:=({X:=0,Y:=0} : qa),Kind:=3,Weight:=1,Reach:=9} : K9)] cp).bind fun cq=>(Z4 [] [({At:=({X:=0,Y:=0} : qa),Head:=4,Steps:=0} : Ka)]).bind fun cr=>(Z4 [] [({At:=({X:=0,Y:=0} : qa),Head:=0,Steps:=501} : Ka)]).bind fun cs=>(Qx 1000000 0).bind fun ct=>(Z4 [] [({At:=ct,Head:=0,Steps:=1} : Ka)]).bind fun cu=>(Qx 1000000 0).bind fun cv=>(Z4 [] [({At:=cv,Head:=0,Steps:=0} : Ka)]).bind fun g=>(cond (bn.2 == 8) (some (bp.2 == 8)) (some false)).bind fun cw=>(cond cw (some (br.2 == 8)) (some false)).bind fun cx=>(cond cx (some (bt.2 == 4)) (some false)).bind fun cy=>(cond cy (some (ca.2 == 6)) (some false)).bind fun cz=>(cond cz (some (b.2 == 0)) (some false)).bind fun da=>(cond da (some b.1) (some false)).bind fun dc=>(cond dc (some (c.2 == 0)) (some false)).bind fun dd=>(cond dd (some (!c.1)) (some false)).bind fun de=>(cond de (some (d.2 == 0)) (some false)).bind fun df=>(cond df (some (!d.1)) (some false)).bind fun dg=>(cond dg (some (cq.2 == 4)) (some false)).bind fun dh=>(cond dh (some (cr.2 == 8)) (some false)).bind fun dj=>(cond dj (some (cs.2 == 8)) (some false)).bind fun dk=>(cond dk (some (cu.2 == 16)) (some false)).bind fun dl=>(cond dl (some (g.2 == 0)) (some false)).bind fun dm=>(cond dm (some ((g.1.Nodes.length : Int) == 0)) (some false)).bind fun dn=>(cond ac (some bl) (some false)).bind fun dp=>(cond dp (some dn) (some false)).bind fun dq=>(cond dq (some (f.2 == 0)) (some false)).bind fun dr=>(cond dr (some (decide ((f.1.Nodes.length : Int) > 0))) (some false)).bind fun ds=>(cond ds (q88.bind fun dt=>some dt) (some false)).bind fun du=>some du
noncomputable def q4v (b : List ql) (a : Int) : Option ((Int) ⊕ ((Unit) ⊕ (Int))):=
  cond (decide (a < (b.length : Int))) ((idx b a).bind fun c=>(q3v c).bind fun d=>(cond (!d) (some true) ((cond (decide (a > 0)) ((idx b (w64 (a - 1))).bind fun f=>some (decide (f.Hi ≥ c.Lo))) (some false)).bind fun g=>some g)).bind fun h=>cond h (some (.inr (.inr 8))) (some (.inl (w64 (a + 1))))) (some (.inr (.inl ())))
noncomputable def qdj (a : List ql) : Option Int:=
  cond (decide ((a.length : Int) > 400)) (some 4) ((loop (q4v a) 0 : Option ((Unit) ⊕ (Int))).bind fun b=>(match b with | .inl _=>some 0 | .inr c=>some c))
noncomputable def qmo (a : ql) : Option Bool:=
  (cond (decide (a.Lo < a.Hi)) (some (decide (a.Lo ≥ (-1000000)))) (some false)).bind fun b=>(cond b (some (decide (a.Hi≤1000000))) (some false)).bind fun c=>some c
noncomputable def qgb (b : List ql) (a : Int) : Option ((Int) ⊕ ((Unit) ⊕ (Int))):=
  cond (decide (a < (b.length : Int))) ((idx b a).bind fun c=>(qmo c).bind fun d=>(cond (!d) (some true) ((cond (decide (a > 0)) ((idx b (w64 (a - 1))).bind fun f=>(idx b a).bind fun g=>some (decide (f.Hi ≥ g.Lo))) (some false)).bind fun h=>some h)).bind fun j=>cond j (some (.inr (.inr 8))) (some (.inl (w64 (a + 1))))) (some (.inr (.inl ())))
noncomputable def qd9 (a : List ql) : Option Int:=
  cond (decide ((a.length : Int) > 400)) (some 4) ((loop (qgb a) 0 : Option ((Unit) ⊕ (Int))).bind fun b=>(match b with | .inl _=>some 0 | .inr c=>some c))
noncomputable def q8t (b : List ql) (a : Int × List Int) : Option ((Int × List Int) ⊕ (List Int)):=
  cond (decide (a.1 < (b.length : Int))) ((idx b a.1).bind fun c=>(idx b a.1).bind fun d=>(app 8 a.2 [c.Lo,d.Hi]).bind fun f=>some (.inl (w64 (a.1 + 1),f))) (some (.inr a.2))
noncomputable def qml (b : List ql) (a : Int × List Int) : Option ((Int × List Int) ⊕ (List Int)):=
  cond (decide (a.1 < (b.length : Int))) ((idx b a.1).bind fun c=>(idx b a.1).bind fun d=>(app 8 a.2 [c.Lo,d.Hi]).bind fun f=>some (.inl (w64 (a.1 + 1),f))) (some (.inr a.2))
noncomputable def qgc (a : List ql) (b : List ql) : Option (List Int):=
  (loop (q8t a) (0,[])).bind fun c=>(loop (qml b) (0,c)).bind fun d=>(qge d).bind fun f=>some f
noncomputable def q8u (b : List ql) (c : Int) (a : Int) : Option ((Int) ⊕ ((Unit) ⊕ (Bool))):=
  cond (decide (a < (b.length : Int))) ((idx b a).bind fun d=>(cond (decide (d.Lo≤c)) ((idx b a).bind fun f=>some (decide (c < f.Hi))) (some false)).bind fun g=>cond g (some (.inr (.inr true))) (some (.inl (w64 (a + 1))))) (some (.inr (.inl ())))
noncomputable def qda (a : List ql) (b : Int) : Option Bool:=
  (loop (q8u a b) 0 : Option ((Unit) ⊕ (Bool))).bind fun c=>(match c with | .inl _=>some false | .inr d=>some d)
noncomputable def qgd (c : Int) (a : Bool) (b : Bool) : Option Bool:=
  cond (c == 1) ((cond a (some b) (some false)).bind fun d=>some d) (cond (c == 2) ((cond a (some true) (some b)).bind fun f=>some f) ((cond a (some (!b)) (some false)).bind fun g=>some g))
noncomputable def q8s (b : List Int) (c : List Bool) (a : Int × List ql) : Option ((Int × List ql) ⊕ (List ql)):=
  cond (decide ((w64 (a.1 + 1)) < (b.length : Int))) (((idx c a.1).bind fun d=>cond (!d) (some a.2) ((cond (decide ((a.2.length : Int) > 0)) ((idx a.2 (w64 ((a.2.length : Int) - 1))).bind fun f=>(idx b a.1).bind fun g=>some (f.Hi == g)) (some false)).bind fun h=>cond h ((idx b (w64 (a.1 + 1))).bind fun j=>(idx a.2 (w64 ((a.2.length : Int) - 1))).bind fun k=>some (a.2.set (w64 ((a.2.length : Int) - 1)).toNat ({Lo:=k.Lo,Hi:=j} : ql))) ((idx b a.1).bind fun l=>(idx b (w64 (a.1 + 1))).bind fun m=>(app 16 a.2 [({Lo:=l,Hi:=m} : ql)]).bind fun n=>some n))).bind fun o=>some (.inl (w64 (a.1 + 1),o))) (some (.inr a.2))
noncomputable def qga (a : List Int) (b : List Bool) : Option (List ql):=
  (loop (q8s a b) (0,[])).bind fun c=>some c
noncomputable def q8v (b : List Int) (c : List ql) (d : List ql) (f : Int) (a : Int × List Bool) : Option ((Int × List Bool) ⊕ (List Bool)):=
  cond (decide (a.1 < (b.length : Int))) ((idx b a.1).bind fun g=>(qda c g).bind fun h=>(idx b a.1).bind fun j=>(qda d j).bind fun k=>(qgd f h k).bind fun l=>(app 1 a.2 [l]).bind fun m=>some (.inl (w64 (a.1 + 1),m))) (some (.inr a.2))
noncomputable def qdb (d : Int) (a : List ql) (b : List ql) : Option (List ql):=
  (qgc a b).bind fun c=>(loop (q8v c a b d) (0,[])).bind fun f=>(qga c f).bind fun g=>some g
noncomputable def qb9 (b : List ql) (a : Int × Int) : Option ((Int × Int) ⊕ (Int)):=
  cond (decide (a.2 < (b.length : Int))) ((idx b a.2).bind fun c=>some (.inl (w64 (a.1 + (w64 (c.Hi - c.Lo))),w64 (a.2 + 1)))) (some (.inr a.1))
noncomputable def qnu (a : List ql) : Option (Int × Int):=
  (qdj a).bind fun b=>cond (b != 0) (some (0,b)) ((loop (qb9 a) (0,0)).bind fun c=>some (c,0))
noncomputable def q8w (b : List ql) (a : Int × Int) : Option ((Int × Int) ⊕ (Int)):=
  cond (decide (a.2 < (b.length : Int))) ((idx b a.2).bind fun c=>(idx b a.2).bind fun d=>some (.inl (w64 ((w64 (a.1 + c.Hi)) - d.Lo),w64 (a.2 + 1)))) (some (.inr a.1))
noncomputable def qmn (a : List ql) : Option (Int × Int):=
  (qd9 a).bind fun b=>cond (b != 0) ((qd9 a).bind fun c=>some (0,c)) ((loop (q8w a) (0,0)).bind fun d=>some (d,0))
structure qc0 where
  X : Int
  Y : Int
  Z : Int
  deriving DecidableEq
structure qov where
  Turn : Int
  At : qc0
  deriving DecidableEq
structure q13w where
  Frame : qov
  Size : qc0
  deriving DecidableEq
structure q13v where
  t_ : Int
  at_ : qc0
  flat_ : qc0
  deriving DecidableEq
end Go.Sh
