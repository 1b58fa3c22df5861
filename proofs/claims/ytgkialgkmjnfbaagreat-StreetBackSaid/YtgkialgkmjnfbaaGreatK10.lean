/- PX -/
import Derived.Test.YtgkialgkmjnfbaaGreatK9
namespace Go.Sh
open Go Go.Am
structure qa where
  X : Int
  Y : Int
  deriving DecidableEq
structure qi where
  A : Int
  B : Int
  deriving DecidableEq
structure Qh where
  Nodes : List qa
  Edges : List qi
  deriving DecidableEq
def qq (x : qa) : List DV:=[.int .i64 x.X,.int .i64 x.Y]
def qy (x : qi) : List DV:=[.int .i64 x.A,.int .i64 x.B]
structure qt where
  A : qa
  B : qa
  deriving DecidableEq
noncomputable def q4s (a : qa) : Option Bool:=
  (cond (decide ((min a.X a.Y) ≥ (-1000000))) (some (decide ((max a.X a.Y)≤1000000))) (some false)).bind fun b=>some b
noncomputable def q7c (a : qt) : Option Bool:=
  (q4s a.A).bind fun b=>(cond b ((q4s a.B).bind fun c=>some c) (some false)).bind fun d=>(cond d (some (!((a.A.X == a.B.X) == (a.A.Y == a.B.Y)))) (some false)).bind fun f=>some f
def Kc (x : qt) : List DV:=[.int .i64 x.A.X,.int .i64 x.A.Y,.int .i64 x.B.X,.int .i64 x.B.Y]
noncomputable def Uu (b : Qh) (c : Int × List qt) : Option ((Int × List qt) ⊕ ((List qt) ⊕ (List qt × Bool))):=
  cond (decide (c.1 < (b.Edges.length : Int))) ((idx b.Edges c.1).bind fun a=>(cond (decide ((min a.A a.B) < 0)) (some true) (some (decide ((max a.A a.B) ≥ (b.Nodes.length : Int))))).bind fun g=>cond g (some (.inr (.inr ([],false)))) ((idx b.Nodes a.A).bind fun d=>(idx b.Nodes a.B).bind fun f=>(q7c ({A:=d,B:=f} : qt)).bind fun h=>cond (!h) (some (.inr (.inr ([],false)))) ((app 32 c.2 [({A:=d,B:=f} : qt)]).bind fun j=>some (.inl (w64 (c.1 + 1),j))))) (some (.inr (.inl c.2)))
noncomputable def q4r (a : Qh) : Option (List qt × Bool):=
  (loop (Uu a) (0,[]) : Option ((List qt) ⊕ (List qt × Bool))).bind fun b=>(match b with | .inl c=>some (c,true) | .inr d=>some d)
structure qj where
  Lo : Int
  Hi : Int
  deriving DecidableEq
structure Y9 where
  rows_ : List (Int × List qj)
  columns_ : List (Int × List qj)
  deriving DecidableEq
def Qc (x : qj) : List DV:=[.int .i64 x.Lo,.int .i64 x.Hi]
noncomputable def q3e (b : List qj) (c : qj→Option Bool) (a : Int) : Option ((Int) ⊕ ((Unit) ⊕ (Int))):=
  cond (decide (a < (b.length : Int))) ((idx b a).bind fun d=>(c d).bind fun f=>cond f (some (.inr (.inr a))) (some (.inl (w64 (a + 1))))) (some (.inr (.inl ())))
noncomputable def q9f (a : List qj) (b : qj→Option Bool) : Option Int:=
  (loop (q3e a b) 0 : Option ((Unit) ⊕ (Int))).bind fun c=>(match c with | .inl _=>some (-1) | .inr d=>some d)
noncomputable def q6d (a : List qj) (b : qj→Option Bool) : Option Bool:=
  (q9f a b).bind fun c=>some (decide (c ≥ 0))
noncomputable def q3f (a : qj) : Option Bool:=
  (cond (decide (a.Lo < a.Hi)) (some (decide (a.Lo ≥ (-1000000)))) (some false)).bind fun b=>(cond b (some (decide (a.Hi≤1000000))) (some false)).bind fun c=>some c
noncomputable def qe9 (a : qj) : Option Bool:=
  (q3f a).bind fun b=>some (!b)
def q1z (x : List qj) : List DV:=[.sl 2 (x.map Qc)]
structure qo where
  at_ : Int
  list_ : Int
  by_ : Int
  deriving DecidableEq
def Qd (x : qo) : List DV:=[.int .i64 x.at_,.int .i64 x.list_,.int .i64 x.by_]
noncomputable def qbm (a : qo) (b : qo) : Option Int:=
  some (w64 (a.at_ - b.at_))
def qbs : ByteArray:=⟨#[0,1,2,2,3,3,3,3,4,4,4,4,4,4,4,4,5,5,5,5,5,5,5,5,5,5,5,5,5,5,5,5,6,6,6,6,6,6,6,6,6,6,6,6,6,6,6,6,6,6,6,6,6,6,6,6,6,6,6,6,6,6,6,6,7,7,7,7,7,7,7,7,7,7,7,7,7,7,7,7,7,7,7,7,7,7,7,7,7,7,7,7,7,7,7,7,7,7,7,7,7,7,7,7,7,7,7,7,7,7,7,7,7,7,7,7,7,7,7,7,7,7,7,7,7,7,7,7,8,8,8,8,8,8,8,8,8,8,8,8,8,8,8,8,8,8,8,8,8,8,8,8,8,8,8,8,8,8,8,8,8,8,8,8,8,8,8,8,8,8,8,8,8,8,8,8,8,8,8,8,8,8,8,8,8,8,8,8,8,8,8,8,8,8,8,8,8,8,8,8,8,8,8,8,8,8,8,8,8,8,8,8,8,8,8,8,8,8,8,8,8,8,8,8,8,8,8,8,8,8,8,8,8,8,8,8,8,8,8,8,8,8,8,8,8,8,8,8,8,8,8,8,8,8,8,8]⟩
noncomputable def q2a (c : Int) : Option Int:=
  (cond (decide (c ≥ 4294967296)) (some (Int.fdiv c (2 ^ 32),32)) (some (c,0))).bind fun a=>(cond (decide (a.1 ≥ 65536)) (some (Int.fdiv a.1 (2 ^ 16),w64 (a.2 + 16))) (some (a.1,a.2))).bind fun b=>(cond (decide (b.1 ≥ 256)) (some (Int.fdiv b.1 (2 ^ 8),w64 (b.2 + 8))) (some (b.1,b.2))).bind fun d=>(q4q qbs (IntKind.wrap .u8 d.1)).bind fun f=>some (w64 (d.2 + (w64 f)))
noncomputable def U3 (a : Int) : Option Int:=
  (q2a a).bind fun b=>some b
noncomputable def qa7 (c : Int) (d : qo→qo→Option Int) (a : Int × List qo) : Option ((Int × List qo) ⊕ (List qo)):=
  (cond (decide (a.1 > c)) ((idx a.2 a.1).bind fun f=>(idx a.2 (w64 (a.1 - 1))).bind fun g=>(d f g).bind fun h=>some (decide (h < 0))) (some false)).bind fun j=>cond j ((idx a.2 (w64 (a.1 - 1))).bind fun b=>(idx a.2 a.1).bind fun k=>(idx a.2 a.1).bind fun _=>(idx (a.2.set a.1.toNat b) (w64 (a.1 - 1))).bind fun _=>some (.inl (w64 (a.1 - 1),(a.2.set a.1.toNat b).set (w64 (a.1 - 1)).toNat k))) (some (.inr a.2))
noncomputable def qa6 (b : Int) (c : Int) (d : qo→qo→Option Int) (a : Int × List qo) : Option ((Int × List qo) ⊕ (List qo)):=
  cond (decide (a.1 < b)) (((loop (qa7 c d) (a.1,a.2)).bind fun f=>some f).bind fun g=>some (.inl (w64 (a.1 + 1),g))) (some (.inr a.2))
noncomputable def qa5 (b : qo→qo→Option Int) (c : List qo) (a : Int) (d : Int) : Option (List qo):=
  (loop (qa6 d a b) (w64 (a + 1),c)).bind fun f=>some f
noncomputable def qbj (d : Int) (b : Int) (f : qo→qo→Option Int) (a : Int × List qo) : Option ((Int × List qo) ⊕ (List qo)):=
  cond (decide ((w64 ((w64 (2 * a.1)) + 1)) ≥ d)) (some (.inr a.2)) ((cond (decide ((w64 ((w64 ((w64 (2 * a.1)) + 1)) + 1)) < d)) ((idx a.2 (w64 (b + (w64 ((w64 (2 * a.1)) + 1))))).bind fun h=>(idx a.2 (w64 ((w64 (b + (w64 ((w64 (2 * a.1)) + 1)))) + 1))).bind fun j=>(f h j).bind fun k=>some (decide (k < 0))) (some false)).bind fun l=>(cond l (some (w64 ((w64 ((w64 (2 * a.1)) + 1)) + 1))) (some (w64 ((w64 (2 * a.1)) + 1)))).bind fun c=>(idx a.2 (w64 (b + a.1))).bind fun m=>(idx a.2 (w64 (b + c))).bind fun n=>(f m n).bind fun o=>cond (!(decide (o < 0))) (some (.inr a.2)) ((idx a.2 (w64 (b + c))).bind fun g=>(idx a.2 (w64 (b + a.1))).bind fun p=>(idx a.2 (w64 (b + a.1))).bind fun _=>(idx (a.2.set (w64 (b + a.1)).toNat g) (w64 (b + c))).bind fun _=>some (.inl (c,(a.2.set (w64 (b + a.1)).toNat g).set (w64 (b + c)).toNat p))))
noncomputable def q73 (a : qo→qo→Option Int) (b : List qo) (c : Int) (d : Int) (f : Int) : Option (List qo):=
  (loop (qbj d f a) (c,b)).bind fun g=>some g
noncomputable def q9x (d : qo→qo→Option Int) (f : Int) (b : Int) (a : Int × List qo) : Option ((Int × List qo) ⊕ (List qo)):=
  cond (decide (a.1 ≥ 0)) ((q73 d a.2 a.1 (w64 (f - b)) b).bind fun c=>(Qz c.length a.2.length).bind fun _=>some (.inl (w64 (a.1 - 1),c))) (some (.inr a.2))
noncomputable def q9y (b : Int) (g : qo→qo→Option Int) (a : Int × List qo) : Option ((Int × List qo) ⊕ (List qo)):=
  cond (decide (a.1 ≥ 0)) ((idx a.2 (w64 (b + a.1))).bind fun c=>(idx a.2 b).bind fun d=>(idx a.2 b).bind fun _=>(idx (a.2.set b.toNat c) (w64 (b + a.1))).bind fun _=>(q73 g ((a.2.set b.toNat c).set (w64 (b + a.1)).toNat d) 0 a.1 b).bind fun f=>(Qz f.length ((a.2.set b.toNat c).set (w64 (b + a.1)).toNat d).length).bind fun _=>some (.inl (w64 (a.1 - 1),f))) (some (.inr a.2))
noncomputable def q9w (c : qo→qo→Option Int) (d : List qo) (a : Int) (b : Int) : Option (List qo):=
  (loop (q9x c b a) (w64 (Int.tdiv (w64 ((w64 (b - a)) - 1)) 2),d)).bind fun f=>(loop (q9y a c) (w64 ((w64 (b - a)) - 1),f)).bind fun g=>some g
noncomputable def q4m (f : qo→qo→Option Int) (c : List qo) (a : Int) (b : Int) (d : Int) : Option (Int × Int × Int):=
  (idx c b).bind fun g=>(idx c a).bind fun h=>(f g h).bind fun j=>cond (decide (j < 0)) (some (b,a,w64 (d + 1))) (some (a,b,d))
noncomputable def q6l (a : qo→qo→Option Int) (b : List qo) (g : Int) (h : Int) (j : Int) (k : Int) : Option (Int × Int):=
  (q4m a b g h k).bind fun c=>(q4m a b c.2.1 j c.2.2).bind fun d=>(q4m a b c.1 d.1 d.2.2).bind fun f=>some (f.2.1,f.2.2)
noncomputable def q4j (c : qo→qo→Option Int) (d : List qo) (a : Int) (f : Int) : Option (Int × Int):=
  (q6l c d (w64 (a - 1)) a (w64 (a + 1)) f).bind fun b=>some (b.1,b.2)
noncomputable def q9p (d : List qo) (a : Int) (b : Int) (f : qo→qo→Option Int) : Option (Int × Int):=
  (cond (decide ((w64 (b - a)) ≥ 8)) ((cond (decide ((w64 (b - a)) ≥ 50)) ((q4j f d (w64 (a + (w64 ((w64 (Int.tdiv (w64 (b - a)) 4)) * 1)))) 0).bind fun h=>(q4j f d (w64 (a + (w64 ((w64 (Int.tdiv (w64 (b - a)) 4)) * 2)))) h.2).bind fun j=>(q4j f d (w64 (a + (w64 ((w64 (Int.tdiv (w64 (b - a)) 4)) * 3)))) j.2).bind fun k=>some (h.1,j.1,k.1,k.2)) (some (w64 (a + (w64 ((w64 (Int.tdiv (w64 (b - a)) 4)) * 1))),w64 (a + (w64 ((w64 (Int.tdiv (w64 (b - a)) 4)) * 2))),w64 (a + (w64 ((w64 (Int.tdiv (w64 (b - a)) 4)) * 3))),0))).bind fun g=>(q6l f d g.1 g.2.1 g.2.2.1 g.2.2.2).bind fun l=>some (l.1,l.2)) (some (w64 (a + (w64 ((w64 (Int.tdiv (w64 (b - a)) 4)) * 2))),0))).bind fun c=>cond (c.2 == 0) (some (c.1,1)) (cond (c.2 == 12) (some (c.1,2)) (some (c.1,0)))
noncomputable def qbg (a : Int × Int × List qo) : Option ((Int × Int × List qo) ⊕ (List qo)):=
  cond (decide (a.1 < a.2.1)) ((idx a.2.2 a.2.1).bind fun b=>(idx a.2.2 a.1).bind fun c=>(idx a.2.2 a.1).bind fun _=>(idx (a.2.2.set a.1.toNat b) a.2.1).bind fun _=>some (.inl (w64 (a.1 + 1),w64 (a.2.1 - 1),(a.2.2.set a.1.toNat b).set a.2.1.toNat c))) (some (.inr a.2.2))
noncomputable def qbf (f : qo→qo→Option Int) (a : List qo) (b : Int) (c : Int) : Option (List qo):=
  (loop qbg (b,w64 (c - 1),a)).bind fun d=>some d
noncomputable def qae (c : Int) (b : Int × Int × List qo) (d : qo→qo→Option Int) (a : Int) : Option ((Int) ⊕ (Int)):=
  (cond (decide (a < c)) ((idx b.2.2 a).bind fun f=>(idx b.2.2 (w64 (a - 1))).bind fun g=>(d f g).bind fun h=>some (!(decide (h < 0)))) (some false)).bind fun j=>cond j (some (.inl (w64 (a + 1)))) (some (.inr a))
noncomputable def qaf (c : qo→qo→Option Int) (a : Int × List qo) : Option ((Int × List qo) ⊕ (List qo)):=
  cond (decide (a.1 ≥ 1)) ((idx a.2 a.1).bind fun d=>(idx a.2 (w64 (a.1 - 1))).bind fun f=>(c d f).bind fun g=>cond (!(decide (g < 0))) (some (.inr a.2)) ((idx a.2 (w64 (a.1 - 1))).bind fun b=>(idx a.2 a.1).bind fun h=>(idx a.2 a.1).bind fun _=>(idx (a.2.set a.1.toNat b) (w64 (a.1 - 1))).bind fun _=>some (.inl (w64 (a.1 - 1),(a.2.set a.1.toNat b).set (w64 (a.1 - 1)).toNat h)))) (some (.inr a.2))
noncomputable def qag (d : Int) (f : qo→qo→Option Int) (b : Int) (a : Int × List qo) : Option ((Int × List qo) ⊕ (Int × List qo)):=
  cond (decide (a.1 < d)) ((idx a.2 a.1).bind fun g=>(idx a.2 (w64 (a.1 - 1))).bind fun h=>(f g h).bind fun j=>cond (!(decide (j < 0))) (some (.inr (b,a.2))) ((idx a.2 (w64 (a.1 - 1))).bind fun c=>(idx a.2 a.1).bind fun k=>(idx a.2 a.1).bind fun _=>(idx (a.2.set a.1.toNat c) (w64 (a.1 - 1))).bind fun _=>some (.inl (w64 (a.1 + 1),(a.2.set a.1.toNat c).set (w64 (a.1 - 1)).toNat k)))) (some (.inr (b,a.2)))
noncomputable def q6r (c : Int) (d : qo→qo→Option Int) (h : Int) (b : Int × Int × List qo) : Option ((Int × Int × List qo) ⊕ ((List qo) ⊕ (Bool × List qo))):=
  cond (decide (b.2.1 < 5)) (((loop (qae c b d) b.1).bind fun a=>cond (a == c) (some (.inr (true,b.2.2))) (cond (decide ((w64 (c - h)) < 50)) (some (.inr (false,b.2.2))) ((idx b.2.2 (w64 (a - 1))).bind fun f=>(idx b.2.2 a).bind fun j=>(idx b.2.2 a).bind fun _=>(idx (b.2.2.set a.toNat f) (w64 (a - 1))).bind fun _=>(cond (decide ((w64 (a - h)) ≥ 2)) ((loop (qaf d) (w64 (a - 1),(b.2.2.set a.toNat f).set (w64 (a - 1)).toNat j)).bind fun g=>some g) (some ((b.2.2.set a.toNat f).set (w64 (a - 1)).toNat j))).bind fun k=>cond (decide ((w64 (c - a)) ≥ 2)) ((loop (qag c d a) (w64 (a + 1),k)).bind fun g=>some (.inl g)) (some (.inl (a,k))))) : Option ((Int × List qo) ⊕ (Bool × List qo))).bind fun m=>(match m with | .inl l=>some (.inl (l.1,w64 (b.2.1 + 1),l.2)) | .inr n=>some (.inr (.inr n)))) (some (.inr (.inl b.2.2)))
noncomputable def q6q (b : qo→qo→Option Int) (c : List qo) (a : Int) (d : Int) : Option (Bool × List qo):=
  (loop (q6r d b a) (w64 (a + 1),0,c) : Option ((List qo) ⊕ (Bool × List qo))).bind fun f=>(match f with | .inl g=>some (false,g) | .inr h=>some h)
noncomputable def qb9 (b : Int × Int × List qo) (c : Int) (d : qo→qo→Option Int) (a : Int) : Option ((Int) ⊕ (Int)):=
  (cond (decide (a≤b.2.1)) ((idx b.2.2 c).bind fun f=>(idx b.2.2 a).bind fun g=>(d f g).bind fun h=>some (!(decide (h < 0)))) (some false)).bind fun j=>cond j (some (.inl (w64 (a + 1)))) (some (.inr a))
noncomputable def qba (c : Int) (b : Int × Int × List qo) (d : Int) (f : qo→qo→Option Int) (a : Int) : Option ((Int) ⊕ (Int)):=
  (cond (decide (c≤a)) ((idx b.2.2 d).bind fun g=>(idx b.2.2 a).bind fun h=>(f g h).bind fun j=>some (decide (j < 0))) (some false)).bind fun k=>cond k (some (.inl (w64 (a - 1)))) (some (.inr a))
noncomputable def qb8 (d : Int) (f : qo→qo→Option Int) (a : Int × Int × List qo) : Option ((Int × Int × List qo) ⊕ (Int × List qo)):=
  (loop (qb9 a d f) a.1).bind fun b=>(loop (qba b a d f) a.2.1).bind fun c=>cond (decide (b > c)) (some (.inr (b,a.2.2))) ((idx a.2.2 c).bind fun g=>(idx a.2.2 b).bind fun h=>(idx a.2.2 b).bind fun _=>(idx (a.2.2.set b.toNat g) c).bind fun _=>some (.inl (w64 (b + 1),w64 (c - 1),(a.2.2.set b.toNat g).set c.toNat h)))
noncomputable def qb7 (g : qo→qo→Option Int) (b : List qo) (a : Int) (h : Int) (c : Int) : Option (Int × List qo):=
  (idx b c).bind fun d=>(idx b a).bind fun j=>(idx b a).bind fun _=>(idx (b.set a.toNat d) c).bind fun _=>(loop (qb8 a g) (w64 (a + 1),w64 (h - 1),(b.set a.toNat d).set c.toNat j)).bind fun f=>some (f.1,f.2)
noncomputable def qau (h : Int) (c : List qo) (b : Int) (d : qo) (f : Int) (g : qo) (j : qo→qo→Option Int) (a : Int) : Option ((Int) ⊕ (Int)):=
  (cond (decide (a≤(w64 (h - 1)))) ((idx ((c.set b.toNat d).set f.toNat g) a).bind fun k=>(idx ((c.set b.toNat d).set f.toNat g) b).bind fun l=>(j k l).bind fun m=>some (decide (m < 0))) (some false)).bind fun n=>cond n (some (.inl (w64 (a + 1)))) (some (.inr a))
noncomputable def qav (h : Int) (c : List qo) (b : Int) (d : qo) (f : Int) (g : qo) (j : qo→qo→Option Int) (a : Int) : Option ((Int) ⊕ (Int)):=
  (cond (decide (h≤a)) ((idx ((c.set b.toNat d).set f.toNat g) a).bind fun k=>(idx ((c.set b.toNat d).set f.toNat g) b).bind fun l=>(j k l).bind fun m=>some (!(decide (m < 0)))) (some false)).bind fun n=>cond n (some (.inl (w64 (a - 1)))) (some (.inr a))
noncomputable def qax (b : Int × Int × List qo) (c : Int) (d : qo→qo→Option Int) (a : Int) : Option ((Int) ⊕ (Int)):=
  (cond (decide (a≤b.2.1)) ((idx b.2.2 a).bind fun f=>(idx b.2.2 c).bind fun g=>(d f g).bind fun h=>some (decide (h < 0))) (some false)).bind fun j=>cond j (some (.inl (w64 (a + 1)))) (some (.inr a))
noncomputable def qay (c : Int) (b : Int × Int × List qo) (d : Int) (f : qo→qo→Option Int) (a : Int) : Option ((Int) ⊕ (Int)):=
  (cond (decide (c≤a)) ((idx b.2.2 a).bind fun g=>(idx b.2.2 d).bind fun h=>(f g h).bind fun j=>some (!(decide (j < 0)))) (some false)).bind fun k=>cond k (some (.inl (w64 (a - 1)))) (some (.inr a))
noncomputable def qaw (d : Int) (f : qo→qo→Option Int) (a : Int × Int × List qo) : Option ((Int × Int × List qo) ⊕ (Int × List qo)):=
  (loop (qax a d f) a.1).bind fun b=>(loop (qay b a d f) a.2.1).bind fun c=>cond (decide (b > c)) (some (.inr (c,a.2.2))) ((idx a.2.2 c).bind fun g=>(idx a.2.2 b).bind fun h=>(idx a.2.2 b).bind fun _=>(idx (a.2.2.set b.toNat g) c).bind fun _=>some (.inl (w64 (b + 1),w64 (c - 1),(a.2.2.set b.toNat g).set c.toNat h)))
noncomputable def qat (k : qo→qo→Option Int) (b : List qo) (a : Int) (l : Int) (c : Int) : Option (Int × Bool × List qo):=
  (idx b c).bind fun d=>(idx b a).bind fun f=>(idx b a).bind fun _=>(idx (b.set a.toNat d) c).bind fun _=>(loop (qau l b a d c f k) (w64 (a + 1))).bind fun j=>(loop (qav j b a d c f k) (w64 (l - 1))).bind fun g=>cond (decide (j > g)) ((idx ((b.set a.toNat d).set c.toNat f) a).bind fun m=>(idx ((b.set a.toNat d).set c.toNat f) g).bind fun p=>(idx ((b.set a.toNat d).set c.toNat f) g).bind fun _=>(idx (((b.set a.toNat d).set c.toNat f).set g.toNat m) a).bind fun _=>some (g,true,(((b.set a.toNat d).set c.toNat f).set g.toNat m).set a.toNat p)) ((idx ((b.set a.toNat d).set c.toNat f) g).bind fun n=>(idx ((b.set a.toNat d).set c.toNat f) j).bind fun q=>(idx ((b.set a.toNat d).set c.toNat f) j).bind fun _=>(idx (((b.set a.toNat d).set c.toNat f).set j.toNat n) g).bind fun _=>(loop (qaw a k) (w64 (j + 1),w64 (g - 1),(((b.set a.toNat d).set c.toNat f).set j.toNat n).set g.toNat q)).bind fun h=>(idx h.2 a).bind fun o=>(idx h.2 h.1).bind fun r=>(idx h.2 h.1).bind fun _=>(idx (h.2.set h.1.toNat o) a).bind fun _=>some (h.1,false,(h.2.set h.1.toNat o).set a.toNat r))
noncomputable def Ur (a : Int) : Option Int:=
  (U3 (IntKind.wrap .u64 a)).bind fun b=>(shlK .u64 1 b).bind fun c=>some c
noncomputable def Us (a : Int) : Option Int:=
  some (xorI .u64 (xorI .u64 (xorI .u64 a (IntKind.wrap .u64 (a * (2 ^ 13)))) (Int.fdiv (xorI .u64 a (IntKind.wrap .u64 (a * (2 ^ 13)))) (2 ^ 7))) (IntKind.wrap .u64 ((xorI .u64 (xorI .u64 a (IntKind.wrap .u64 (a * (2 ^ 13)))) (Int.fdiv (xorI .u64 a (IntKind.wrap .u64 (a * (2 ^ 13)))) (2 ^ 7))) * (2 ^ 17))))
noncomputable def q9m (b : Int) (d : Int) (f : Int) (a : Int × List qo × Int) : Option ((Int × List qo × Int) ⊕ (List qo)):=
  cond (decide (a.1≤(w64 ((w64 (b + (w64 ((w64 (Int.tdiv (w64 (d - b)) 4)) * 2)))) + 1)))) ((Us a.2.2).bind fun c=>(cond (decide ((w64 (andI .u64 c (IntKind.wrap .u64 (f - 1)))) ≥ (w64 (d - b)))) (some (w64 ((w64 (andI .u64 c (IntKind.wrap .u64 (f - 1)))) - (w64 (d - b))))) (some (w64 (andI .u64 c (IntKind.wrap .u64 (f - 1)))))).bind fun g=>(idx a.2.1 (w64 (b + g))).bind fun h=>(idx a.2.1 a.1).bind fun j=>(idx a.2.1 a.1).bind fun _=>(idx (a.2.1.set a.1.toNat h) (w64 (b + g))).bind fun _=>some (.inl (w64 (a.1 + 1),(a.2.1.set a.1.toNat h).set (w64 (b + g)).toNat j,c))) (some (.inr a.2.1))
noncomputable def q9l (g : qo→qo→Option Int) (c : List qo) (a : Int) (b : Int) : Option (List qo):=
  cond (decide ((w64 (b - a)) ≥ 8)) ((Ur (w64 (b - a))).bind fun d=>(loop (q9m a b d) (w64 ((w64 (a + (w64 ((w64 (Int.tdiv (w64 (b - a)) 4)) * 2)))) - 1),c,IntKind.wrap .u64 (w64 (b - a)))).bind fun f=>some f) (some c)
noncomputable def q6z (c : qo→qo→Option Int) (rec : List qo→Int→Int→Int→Option (List qo)) (a : Int × Int × Int × Bool × Bool × List qo) : Option ((Int × Int × Int × Bool × Bool × List qo) ⊕ (List qo)):=
  cond (decide ((w64 (a.2.1 - a.1))≤12)) ((qa5 c a.2.2.2.2.2 a.1 a.2.1).bind fun l=>(Qz l.length a.2.2.2.2.2.length).bind fun _=>some (.inr l)) (cond (a.2.2.1 == 0) ((q9w c a.2.2.2.2.2 a.1 a.2.1).bind fun m=>(Qz m.length a.2.2.2.2.2.length).bind fun _=>some (.inr m)) ((cond (!a.2.2.2.1) ((q9l c a.2.2.2.2.2 a.1 a.2.1).bind fun n=>(Qz n.length a.2.2.2.2.2.length).bind fun _=>some (w64 (a.2.2.1 - 1),n)) (some (a.2.2.1,a.2.2.2.2.2))).bind fun d=>(q9p d.2 a.1 a.2.1 c).bind fun h=>(cond (h.2 == 2) ((qbf c d.2 a.1 a.2.1).bind fun o=>(Qz o.length d.2.length).bind fun _=>some (w64 ((w64 (a.2.1 - 1)) - (w64 (h.1 - a.1))),1,o)) (some (h.1,h.2,d.2))).bind fun f=>(cond a.2.2.2.1 (some a.2.2.2.2.1) (some false)).bind fun r=>(cond r (some (f.2.1 == 1)) (some false)).bind fun s=>(cond s ((q6q c f.2.2 a.1 a.2.1).bind fun j=>(Qz j.2.length f.2.2.length).bind fun _=>cond j.1 (some (.inr j.2)) (some (.inl j.2))) (some (.inl f.2.2)) : Option ((List qo) ⊕ (List qo))).bind fun t=>(match t with | .inl g=>(cond (decide (a.1 > 0)) ((idx g (w64 (a.1 - 1))).bind fun u=>(idx g f.1).bind fun v=>(c u v).bind fun w=>some (!(decide (w < 0)))) (some false)).bind fun x=>cond x ((qb7 c g a.1 a.2.1 f.1).bind fun k=>(Qz k.2.length g.length).bind fun _=>some (.inl (k.1,a.2.1,d.1,a.2.2.2.1,a.2.2.2.2.1,k.2))) ((qat c g a.1 a.2.1 f.1).bind fun b=>(Qz b.2.2.length g.length).bind fun _=>cond (decide ((w64 (b.1 - a.1)) < (w64 (a.2.1 - b.1)))) ((rec b.2.2 a.1 b.1 d.1).bind fun p=>(Qz p.length b.2.2.length).bind fun _=>some (.inl (w64 (b.1 + 1),a.2.1,d.1,decide ((w64 (b.1 - a.1)) ≥ (w64 (Int.tdiv (w64 (a.2.1 - a.1)) 8))),b.2.1,p))) ((rec b.2.2 (w64 (b.1 + 1)) a.2.1 d.1).bind fun q=>(Qz q.length b.2.2.length).bind fun _=>some (.inl (a.1,b.1,d.1,decide ((w64 (a.2.1 - b.1)) ≥ (w64 (Int.tdiv (w64 (a.2.1 - a.1)) 8))),b.2.1,q)))) | .inr y=>some (.inr y))))
noncomputable def q70 (rec : List qo→Int→Int→Int→Option (List qo)) (a : qo→qo→Option Int) (b : List qo) (c : Int) (d : Int) (f : Int) : Option (List qo):=
  (loop (q6z a rec) (c,d,f,true,true,b)).bind fun g=>some g
noncomputable def q6y : Nat→(qo→qo→Option Int)→List qo→Int→Int→Int→Option (List qo)
  | 0,_,_,_,_,_=>none
  | n + 1,a,b,c,d,f=>q70 (q6y n a) a b c d f
noncomputable def q6i (c : qo→qo→Option Int) (a : List qo) : Option (List qo):=
  (U3 (IntKind.wrap .u64 (a.length : Int))).bind fun d=>(lim (fun n=>q6y n c a 0 (a.length : Int) d)).bind fun b=>(Qz b.length a.length).bind fun _=>some b
noncomputable def qe4 (a : List qo) : Option (List qo):=
  some a
noncomputable def q4o (b : List qj) (c : Int × List qo) (a : Int × List qo) : Option ((Int × List qo) ⊕ (List qo)):=
  cond (decide (a.1 < (b.length : Int))) ((idx b a.1).bind fun d=>(app 24 a.2 [({at_:=d.Lo,list_:=c.1,by_:=1} : qo),({at_:=d.Hi,list_:=c.1,by_:=(-1)} : qo)]).bind fun f=>some (.inl (w64 (a.1 + 1),f))) (some (.inr a.2))
noncomputable def q1q (b : List (List qj)) (a : Int × List qo) : Option ((Int × List qo) ⊕ (List qo)):=
  cond (decide (a.1 < (b.length : Int))) (((idx b a.1).bind fun c=>(loop (q4o c a) (0,a.2)).bind fun d=>some d).bind fun f=>some (.inl (w64 (a.1 + 1),f))) (some (.inr a.2))
noncomputable def qbn (b : List (List qj)) : Option (List (List qj) × List qo):=
  (loop (q1q b) (0,[])).bind fun c=>(q6i (fun f g=>qbm f g) c).bind fun a=>(Qz a.length c.length).bind fun _=>(qe4 a).bind fun d=>(Qz d.length a.length).bind fun _=>some (b,d)
noncomputable def qbo (b : Int) (d : Bool) (c : Int) (a : List qj) : Option (List qj):=
  (cond (!d) (some true) (some (c == b))).bind fun f=>cond f (some a) ((cond (decide ((a.length : Int) > 0)) ((idx a (w64 ((a.length : Int) - 1))).bind fun g=>some (g.Hi == c)) (some false)).bind fun h=>cond h ((idx a (w64 ((a.length : Int) - 1))).bind fun j=>some (a.set (w64 ((a.length : Int) - 1)).toNat ({Lo:=j.Lo,Hi:=b} : qj))) ((app 16 a [({Lo:=c,Hi:=b} : qj)]).bind fun k=>some k))
noncomputable def q4p (f : List (List qj) × List qo) (g : Bool→Bool→Option Bool) (a : Int × List Int × Int × Bool × List qj) : Option ((Int × List Int × Int × Bool × List qj) ⊕ (List qj)):=
  cond (decide (a.1 < (f.2.length : Int))) ((idx f.2 a.1).bind fun b=>((qbo b.at_ a.2.2.2.1 a.2.2.1 a.2.2.2.2).bind fun h=>(idxA 2 a.2.1 b.list_).bind fun c=>(idxA 2 a.2.1 b.list_).bind fun _=>(idxA 2 (a.2.1.set b.list_.toNat (w64 (c + b.by_))) 0).bind fun j=>(idxA 2 (a.2.1.set b.list_.toNat (w64 (c + b.by_))) 1).bind fun k=>(g (decide (j > 0)) (decide (k > 0))).bind fun l=>some (a.2.1.set b.list_.toNat (w64 (c + b.by_)),l,h)).bind fun d=>some (.inl (w64 (a.1 + 1),d.1,b.at_,d.2.1,d.2.2))) (some (.inr a.2.2.2.2))
noncomputable def q75 (a : List qj) (b : List qj) (d : Bool→Bool→Option Bool) : Option (List qj):=
  (qbn [a,b]).bind fun c=>(Qz c.1.length [a,b].length).bind fun _=>((loop (q4p c d) (0,[0,0],0,false,[])).bind fun f=>some f).bind fun g=>some g
noncomputable def qbl (a : Bool) (b : Bool) : Option Bool:=
  some a
noncomputable def q2i (a : List qj) : Option (List qj × Int):=
  cond (decide ((a.length : Int) > 400)) (some ([],4)) ((q6d a (fun b=>qe9 b)).bind fun c=>cond c (some ([],8)) ((q75 a [] (fun b d=>qbl b d)).bind fun f=>some (f,0)))
noncomputable def q14 (r : Y9) (s : qt) : Option Y9:=
  cond (s.A.Y == s.B.Y) ((app 16 (K6 [] s.A.Y r.rows_) [({Lo:=min s.A.X s.B.X,Hi:=max s.A.X s.B.X} : qj)]).bind fun l=>some {rows_:=K9 s.A.Y l r.rows_,columns_:=r.columns_})
    ((app 16 (K6 [] s.A.X r.columns_) [({Lo:=min s.A.Y s.B.Y,Hi:=max s.A.Y s.B.Y} : qj)]).bind fun l=>some {rows_:=r.rows_,columns_:=K9 s.A.X l r.columns_})
noncomputable def q1u : List qt→Y9→Option Y9
  | [],r=>some r
  | s::l,r=>(q14 r s).bind (q1u l)
noncomputable def Ju : List (Int × List qj)→Option (List (Int × List qj))
  | []=>some []
  | e::l=>(q2i e.2).bind fun x=>(Ju l).bind fun y=>some ((e.1,x.1)::y)
noncomputable def q7a (c : List qt) : Option Y9:=
  cond (decide (c.length≤1000000)) ((q1u c {rows_:=[],columns_:=[]}).bind fun r=>(Ju r.rows_).bind fun a=>(Ju r.columns_).bind fun b=>some {rows_:=a,columns_:=b}) none
noncomputable def qe8 (a : qj) (b : Int) : Option Bool:=
  (cond (decide (a.Lo≤b)) (some (decide (b < a.Hi))) (some false)).bind fun c=>some c
noncomputable def q1p (a : List qj) (b : Int) : Option Bool:=
  (q6d a (fun c=>qe8 c b)).bind fun d=>some d
noncomputable def q4t (b : Y9) (a : qa) : Option (Bool × Bool × Bool × Bool):=
  (q1p (K6 [] a.Y b.rows_) a.X).bind fun c=>(q1p (K6 [] a.X b.columns_) a.Y).bind fun d=>(q1p (K6 [] a.Y b.rows_) (w64 (a.X - 1))).bind fun f=>(q1p (K6 [] a.X b.columns_) (w64 (a.Y - 1))).bind fun g=>some (c,d,f,g)
noncomputable def qbv (b : Y9) (c : qa) : Option Bool:=
  (q4t b c).bind fun a=>(cond ((a.1 == false) && ((a.2.1 == false) && ((a.2.2.1 == false) && ((a.2.2.2 == false) && true)))) (some ((a.1 == false) && ((a.2.1 == false) && ((a.2.2.1 == false) && ((a.2.2.2 == false) && true))))) (cond ((a.1 == true) && ((a.2.1 == false) && ((a.2.2.1 == true) && ((a.2.2.2 == false) && true)))) (some ((a.1 == true) && ((a.2.1 == false) && ((a.2.2.1 == true) && ((a.2.2.2 == false) && true))))) (some ((a.1 == false) && ((a.2.1 == true) && ((a.2.2.1 == false) && ((a.2.2.2 == true) && true))))))).bind fun d=>cond d (some false) (some true)
noncomputable def q3k (a : qa) (c : List (Int × List qj)) (d : List (Int × List qj)) (b : List (qa × Bool)) : Option (List (qa × Bool)):=
  (qbv ({rows_:=c,columns_:=d} : Y9) ({X:=(a).X,Y:=(a).Y} : qa)).bind fun f=>cond f (some (K9 ({X:=(a).X,Y:=(a).Y} : qa) true b)) (some b)
noncomputable def q1s (a : qa) (b : qa) : Option Int:=
  cond (a.X != b.X) (some (w64 (a.X - b.X))) (some (w64 (a.Y - b.Y)))
noncomputable def qa4 (c : Int) (d : qa→qa→Option Int) (a : Int × List qa) : Option ((Int × List qa) ⊕ (List qa)):=
  (cond (decide (a.1 > c)) ((idx a.2 a.1).bind fun f=>(idx a.2 (w64 (a.1 - 1))).bind fun g=>(d f g).bind fun h=>some (decide (h < 0))) (some false)).bind fun j=>cond j ((idx a.2 (w64 (a.1 - 1))).bind fun b=>(idx a.2 a.1).bind fun k=>(idx a.2 a.1).bind fun _=>(idx (a.2.set a.1.toNat b) (w64 (a.1 - 1))).bind fun _=>some (.inl (w64 (a.1 - 1),(a.2.set a.1.toNat b).set (w64 (a.1 - 1)).toNat k))) (some (.inr a.2))
noncomputable def qa3 (b : Int) (c : Int) (d : qa→qa→Option Int) (a : Int × List qa) : Option ((Int × List qa) ⊕ (List qa)):=
  cond (decide (a.1 < b)) (((loop (qa4 c d) (a.1,a.2)).bind fun f=>some f).bind fun g=>some (.inl (w64 (a.1 + 1),g))) (some (.inr a.2))
noncomputable def qa2 (b : qa→qa→Option Int) (c : List qa) (a : Int) (d : Int) : Option (List qa):=
  (loop (qa3 d a b) (w64 (a + 1),c)).bind fun f=>some f
noncomputable def qbi (d : Int) (b : Int) (f : qa→qa→Option Int) (a : Int × List qa) : Option ((Int × List qa) ⊕ (List qa)):=
  cond (decide ((w64 ((w64 (2 * a.1)) + 1)) ≥ d)) (some (.inr a.2)) ((cond (decide ((w64 ((w64 ((w64 (2 * a.1)) + 1)) + 1)) < d)) ((idx a.2 (w64 (b + (w64 ((w64 (2 * a.1)) + 1))))).bind fun h=>(idx a.2 (w64 ((w64 (b + (w64 ((w64 (2 * a.1)) + 1)))) + 1))).bind fun j=>(f h j).bind fun k=>some (decide (k < 0))) (some false)).bind fun l=>(cond l (some (w64 ((w64 ((w64 (2 * a.1)) + 1)) + 1))) (some (w64 ((w64 (2 * a.1)) + 1)))).bind fun c=>(idx a.2 (w64 (b + a.1))).bind fun m=>(idx a.2 (w64 (b + c))).bind fun n=>(f m n).bind fun o=>cond (!(decide (o < 0))) (some (.inr a.2)) ((idx a.2 (w64 (b + c))).bind fun g=>(idx a.2 (w64 (b + a.1))).bind fun p=>(idx a.2 (w64 (b + a.1))).bind fun _=>(idx (a.2.set (w64 (b + a.1)).toNat g) (w64 (b + c))).bind fun _=>some (.inl (c,(a.2.set (w64 (b + a.1)).toNat g).set (w64 (b + c)).toNat p))))
noncomputable def q72 (a : qa→qa→Option Int) (b : List qa) (c : Int) (d : Int) (f : Int) : Option (List qa):=
  (loop (qbi d f a) (c,b)).bind fun g=>some g
noncomputable def q9u (d : qa→qa→Option Int) (f : Int) (b : Int) (a : Int × List qa) : Option ((Int × List qa) ⊕ (List qa)):=
  cond (decide (a.1 ≥ 0)) ((q72 d a.2 a.1 (w64 (f - b)) b).bind fun c=>(Qz c.length a.2.length).bind fun _=>some (.inl (w64 (a.1 - 1),c))) (some (.inr a.2))
noncomputable def q9v (b : Int) (g : qa→qa→Option Int) (a : Int × List qa) : Option ((Int × List qa) ⊕ (List qa)):=
  cond (decide (a.1 ≥ 0)) ((idx a.2 (w64 (b + a.1))).bind fun c=>(idx a.2 b).bind fun d=>(idx a.2 b).bind fun _=>(idx (a.2.set b.toNat c) (w64 (b + a.1))).bind fun _=>(q72 g ((a.2.set b.toNat c).set (w64 (b + a.1)).toNat d) 0 a.1 b).bind fun f=>(Qz f.length ((a.2.set b.toNat c).set (w64 (b + a.1)).toNat d).length).bind fun _=>some (.inl (w64 (a.1 - 1),f))) (some (.inr a.2))
noncomputable def q9t (c : qa→qa→Option Int) (d : List qa) (a : Int) (b : Int) : Option (List qa):=
  (loop (q9u c b a) (w64 (Int.tdiv (w64 ((w64 (b - a)) - 1)) 2),d)).bind fun f=>(loop (q9v a c) (w64 ((w64 (b - a)) - 1),f)).bind fun g=>some g
noncomputable def q4l (f : qa→qa→Option Int) (c : List qa) (a : Int) (b : Int) (d : Int) : Option (Int × Int × Int):=
  (idx c b).bind fun g=>(idx c a).bind fun h=>(f g h).bind fun j=>cond (decide (j < 0)) (some (b,a,w64 (d + 1))) (some (a,b,d))
noncomputable def q6k (a : qa→qa→Option Int) (b : List qa) (g : Int) (h : Int) (j : Int) (k : Int) : Option (Int × Int):=
  (q4l a b g h k).bind fun c=>(q4l a b c.2.1 j c.2.2).bind fun d=>(q4l a b c.1 d.1 d.2.2).bind fun f=>some (f.2.1,f.2.2)
noncomputable def q4i (c : qa→qa→Option Int) (d : List qa) (a : Int) (f : Int) : Option (Int × Int):=
  (q6k c d (w64 (a - 1)) a (w64 (a + 1)) f).bind fun b=>some (b.1,b.2)
noncomputable def q9o (d : List qa) (a : Int) (b : Int) (f : qa→qa→Option Int) : Option (Int × Int):=
  (cond (decide ((w64 (b - a)) ≥ 8)) ((cond (decide ((w64 (b - a)) ≥ 50)) ((q4i f d (w64 (a + (w64 ((w64 (Int.tdiv (w64 (b - a)) 4)) * 1)))) 0).bind fun h=>(q4i f d (w64 (a + (w64 ((w64 (Int.tdiv (w64 (b - a)) 4)) * 2)))) h.2).bind fun j=>(q4i f d (w64 (a + (w64 ((w64 (Int.tdiv (w64 (b - a)) 4)) * 3)))) j.2).bind fun k=>some (h.1,j.1,k.1,k.2)) (some (w64 (a + (w64 ((w64 (Int.tdiv (w64 (b - a)) 4)) * 1))),w64 (a + (w64 ((w64 (Int.tdiv (w64 (b - a)) 4)) * 2))),w64 (a + (w64 ((w64 (Int.tdiv (w64 (b - a)) 4)) * 3))),0))).bind fun g=>(q6k f d g.1 g.2.1 g.2.2.1 g.2.2.2).bind fun l=>some (l.1,l.2)) (some (w64 (a + (w64 ((w64 (Int.tdiv (w64 (b - a)) 4)) * 2))),0))).bind fun c=>cond (c.2 == 0) (some (c.1,1)) (cond (c.2 == 12) (some (c.1,2)) (some (c.1,0)))
noncomputable def qbe (a : Int × Int × List qa) : Option ((Int × Int × List qa) ⊕ (List qa)):=
  cond (decide (a.1 < a.2.1)) ((idx a.2.2 a.2.1).bind fun b=>(idx a.2.2 a.1).bind fun c=>(idx a.2.2 a.1).bind fun _=>(idx (a.2.2.set a.1.toNat b) a.2.1).bind fun _=>some (.inl (w64 (a.1 + 1),w64 (a.2.1 - 1),(a.2.2.set a.1.toNat b).set a.2.1.toNat c))) (some (.inr a.2.2))
noncomputable def qbd (f : qa→qa→Option Int) (a : List qa) (b : Int) (c : Int) : Option (List qa):=
  (loop qbe (b,w64 (c - 1),a)).bind fun d=>some d
noncomputable def qab (c : Int) (b : Int × Int × List qa) (d : qa→qa→Option Int) (a : Int) : Option ((Int) ⊕ (Int)):=
  (cond (decide (a < c)) ((idx b.2.2 a).bind fun f=>(idx b.2.2 (w64 (a - 1))).bind fun g=>(d f g).bind fun h=>some (!(decide (h < 0)))) (some false)).bind fun j=>cond j (some (.inl (w64 (a + 1)))) (some (.inr a))
noncomputable def qac (c : qa→qa→Option Int) (a : Int × List qa) : Option ((Int × List qa) ⊕ (List qa)):=
  cond (decide (a.1 ≥ 1)) ((idx a.2 a.1).bind fun d=>(idx a.2 (w64 (a.1 - 1))).bind fun f=>(c d f).bind fun g=>cond (!(decide (g < 0))) (some (.inr a.2)) ((idx a.2 (w64 (a.1 - 1))).bind fun b=>(idx a.2 a.1).bind fun h=>(idx a.2 a.1).bind fun _=>(idx (a.2.set a.1.toNat b) (w64 (a.1 - 1))).bind fun _=>some (.inl (w64 (a.1 - 1),(a.2.set a.1.toNat b).set (w64 (a.1 - 1)).toNat h)))) (some (.inr a.2))
noncomputable def qad (d : Int) (f : qa→qa→Option Int) (b : Int) (a : Int × List qa) : Option ((Int × List qa) ⊕ (Int × List qa)):=
  cond (decide (a.1 < d)) ((idx a.2 a.1).bind fun g=>(idx a.2 (w64 (a.1 - 1))).bind fun h=>(f g h).bind fun j=>cond (!(decide (j < 0))) (some (.inr (b,a.2))) ((idx a.2 (w64 (a.1 - 1))).bind fun c=>(idx a.2 a.1).bind fun k=>(idx a.2 a.1).bind fun _=>(idx (a.2.set a.1.toNat c) (w64 (a.1 - 1))).bind fun _=>some (.inl (w64 (a.1 + 1),(a.2.set a.1.toNat c).set (w64 (a.1 - 1)).toNat k)))) (some (.inr (b,a.2)))
noncomputable def q6p (c : Int) (d : qa→qa→Option Int) (h : Int) (b : Int × Int × List qa) : Option ((Int × Int × List qa) ⊕ ((List qa) ⊕ (Bool × List qa))):=
  cond (decide (b.2.1 < 5)) (((loop (qab c b d) b.1).bind fun a=>cond (a == c) (some (.inr (true,b.2.2))) (cond (decide ((w64 (c - h)) < 50)) (some (.inr (false,b.2.2))) ((idx b.2.2 (w64 (a - 1))).bind fun f=>(idx b.2.2 a).bind fun j=>(idx b.2.2 a).bind fun _=>(idx (b.2.2.set a.toNat f) (w64 (a - 1))).bind fun _=>(cond (decide ((w64 (a - h)) ≥ 2)) ((loop (qac d) (w64 (a - 1),(b.2.2.set a.toNat f).set (w64 (a - 1)).toNat j)).bind fun g=>some g) (some ((b.2.2.set a.toNat f).set (w64 (a - 1)).toNat j))).bind fun k=>cond (decide ((w64 (c - a)) ≥ 2)) ((loop (qad c d a) (w64 (a + 1),k)).bind fun g=>some (.inl g)) (some (.inl (a,k))))) : Option ((Int × List qa) ⊕ (Bool × List qa))).bind fun m=>(match m with | .inl l=>some (.inl (l.1,w64 (b.2.1 + 1),l.2)) | .inr n=>some (.inr (.inr n)))) (some (.inr (.inl b.2.2)))
noncomputable def q6o (b : qa→qa→Option Int) (c : List qa) (a : Int) (d : Int) : Option (Bool × List qa):=
  (loop (q6p d b a) (w64 (a + 1),0,c) : Option ((List qa) ⊕ (Bool × List qa))).bind fun f=>(match f with | .inl g=>some (false,g) | .inr h=>some h)
noncomputable def qb5 (b : Int × Int × List qa) (c : Int) (d : qa→qa→Option Int) (a : Int) : Option ((Int) ⊕ (Int)):=
  (cond (decide (a≤b.2.1)) ((idx b.2.2 c).bind fun f=>(idx b.2.2 a).bind fun g=>(d f g).bind fun h=>some (!(decide (h < 0)))) (some false)).bind fun j=>cond j (some (.inl (w64 (a + 1)))) (some (.inr a))
noncomputable def qb6 (c : Int) (b : Int × Int × List qa) (d : Int) (f : qa→qa→Option Int) (a : Int) : Option ((Int) ⊕ (Int)):=
  (cond (decide (c≤a)) ((idx b.2.2 d).bind fun g=>(idx b.2.2 a).bind fun h=>(f g h).bind fun j=>some (decide (j < 0))) (some false)).bind fun k=>cond k (some (.inl (w64 (a - 1)))) (some (.inr a))
noncomputable def qb4 (d : Int) (f : qa→qa→Option Int) (a : Int × Int × List qa) : Option ((Int × Int × List qa) ⊕ (Int × List qa)):=
  (loop (qb5 a d f) a.1).bind fun b=>(loop (qb6 b a d f) a.2.1).bind fun c=>cond (decide (b > c)) (some (.inr (b,a.2.2))) ((idx a.2.2 c).bind fun g=>(idx a.2.2 b).bind fun h=>(idx a.2.2 b).bind fun _=>(idx (a.2.2.set b.toNat g) c).bind fun _=>some (.inl (w64 (b + 1),w64 (c - 1),(a.2.2.set b.toNat g).set c.toNat h)))
noncomputable def qb3 (g : qa→qa→Option Int) (b : List qa) (a : Int) (h : Int) (c : Int) : Option (Int × List qa):=
  (idx b c).bind fun d=>(idx b a).bind fun j=>(idx b a).bind fun _=>(idx (b.set a.toNat d) c).bind fun _=>(loop (qb4 a g) (w64 (a + 1),w64 (h - 1),(b.set a.toNat d).set c.toNat j)).bind fun f=>some (f.1,f.2)
noncomputable def qao (h : Int) (c : List qa) (b : Int) (d : qa) (f : Int) (g : qa) (j : qa→qa→Option Int) (a : Int) : Option ((Int) ⊕ (Int)):=
  (cond (decide (a≤(w64 (h - 1)))) ((idx ((c.set b.toNat d).set f.toNat g) a).bind fun k=>(idx ((c.set b.toNat d).set f.toNat g) b).bind fun l=>(j k l).bind fun m=>some (decide (m < 0))) (some false)).bind fun n=>cond n (some (.inl (w64 (a + 1)))) (some (.inr a))
noncomputable def qap (h : Int) (c : List qa) (b : Int) (d : qa) (f : Int) (g : qa) (j : qa→qa→Option Int) (a : Int) : Option ((Int) ⊕ (Int)):=
  (cond (decide (h≤a)) ((idx ((c.set b.toNat d).set f.toNat g) a).bind fun k=>(idx ((c.set b.toNat d).set f.toNat g) b).bind fun l=>(j k l).bind fun m=>some (!(decide (m < 0)))) (some false)).bind fun n=>cond n (some (.inl (w64 (a - 1)))) (some (.inr a))
noncomputable def qar (b : Int × Int × List qa) (c : Int) (d : qa→qa→Option Int) (a : Int) : Option ((Int) ⊕ (Int)):=
  (cond (decide (a≤b.2.1)) ((idx b.2.2 a).bind fun f=>(idx b.2.2 c).bind fun g=>(d f g).bind fun h=>some (decide (h < 0))) (some false)).bind fun j=>cond j (some (.inl (w64 (a + 1)))) (some (.inr a))
noncomputable def qas (c : Int) (b : Int × Int × List qa) (d : Int) (f : qa→qa→Option Int) (a : Int) : Option ((Int) ⊕ (Int)):=
  (cond (decide (c≤a)) ((idx b.2.2 a).bind fun g=>(idx b.2.2 d).bind fun h=>(f g h).bind fun j=>some (!(decide (j < 0)))) (some false)).bind fun k=>cond k (some (.inl (w64 (a - 1)))) (some (.inr a))
noncomputable def qaq (d : Int) (f : qa→qa→Option Int) (a : Int × Int × List qa) : Option ((Int × Int × List qa) ⊕ (Int × List qa)):=
  (loop (qar a d f) a.1).bind fun b=>(loop (qas b a d f) a.2.1).bind fun c=>cond (decide (b > c)) (some (.inr (c,a.2.2))) ((idx a.2.2 c).bind fun g=>(idx a.2.2 b).bind fun h=>(idx a.2.2 b).bind fun _=>(idx (a.2.2.set b.toNat g) c).bind fun _=>some (.inl (w64 (b + 1),w64 (c - 1),(a.2.2.set b.toNat g).set c.toNat h)))
noncomputable def qan (k : qa→qa→Option Int) (b : List qa) (a : Int) (l : Int) (c : Int) : Option (Int × Bool × List qa):=
  (idx b c).bind fun d=>(idx b a).bind fun f=>(idx b a).bind fun _=>(idx (b.set a.toNat d) c).bind fun _=>(loop (qao l b a d c f k) (w64 (a + 1))).bind fun j=>(loop (qap j b a d c f k) (w64 (l - 1))).bind fun g=>cond (decide (j > g)) ((idx ((b.set a.toNat d).set c.toNat f) a).bind fun m=>(idx ((b.set a.toNat d).set c.toNat f) g).bind fun p=>(idx ((b.set a.toNat d).set c.toNat f) g).bind fun _=>(idx (((b.set a.toNat d).set c.toNat f).set g.toNat m) a).bind fun _=>some (g,true,(((b.set a.toNat d).set c.toNat f).set g.toNat m).set a.toNat p)) ((idx ((b.set a.toNat d).set c.toNat f) g).bind fun n=>(idx ((b.set a.toNat d).set c.toNat f) j).bind fun q=>(idx ((b.set a.toNat d).set c.toNat f) j).bind fun _=>(idx (((b.set a.toNat d).set c.toNat f).set j.toNat n) g).bind fun _=>(loop (qaq a k) (w64 (j + 1),w64 (g - 1),(((b.set a.toNat d).set c.toNat f).set j.toNat n).set g.toNat q)).bind fun h=>(idx h.2 a).bind fun o=>(idx h.2 h.1).bind fun r=>(idx h.2 h.1).bind fun _=>(idx (h.2.set h.1.toNat o) a).bind fun _=>some (h.1,false,(h.2.set h.1.toNat o).set a.toNat r))
noncomputable def q9k (b : Int) (d : Int) (f : Int) (a : Int × List qa × Int) : Option ((Int × List qa × Int) ⊕ (List qa)):=
  cond (decide (a.1≤(w64 ((w64 (b + (w64 ((w64 (Int.tdiv (w64 (d - b)) 4)) * 2)))) + 1)))) ((Us a.2.2).bind fun c=>(cond (decide ((w64 (andI .u64 c (IntKind.wrap .u64 (f - 1)))) ≥ (w64 (d - b)))) (some (w64 ((w64 (andI .u64 c (IntKind.wrap .u64 (f - 1)))) - (w64 (d - b))))) (some (w64 (andI .u64 c (IntKind.wrap .u64 (f - 1)))))).bind fun g=>(idx a.2.1 (w64 (b + g))).bind fun h=>(idx a.2.1 a.1).bind fun j=>(idx a.2.1 a.1).bind fun _=>(idx (a.2.1.set a.1.toNat h) (w64 (b + g))).bind fun _=>some (.inl (w64 (a.1 + 1),(a.2.1.set a.1.toNat h).set (w64 (b + g)).toNat j,c))) (some (.inr a.2.1))
noncomputable def q9j (g : qa→qa→Option Int) (c : List qa) (a : Int) (b : Int) : Option (List qa):=
  cond (decide ((w64 (b - a)) ≥ 8)) ((Ur (w64 (b - a))).bind fun d=>(loop (q9k a b d) (w64 ((w64 (a + (w64 ((w64 (Int.tdiv (w64 (b - a)) 4)) * 2)))) - 1),c,IntKind.wrap .u64 (w64 (b - a)))).bind fun f=>some f) (some c)
noncomputable def q6w (c : qa→qa→Option Int) (rec : List qa→Int→Int→Int→Option (List qa)) (a : Int × Int × Int × Bool × Bool × List qa) : Option ((Int × Int × Int × Bool × Bool × List qa) ⊕ (List qa)):=
  cond (decide ((w64 (a.2.1 - a.1))≤12)) ((qa2 c a.2.2.2.2.2 a.1 a.2.1).bind fun l=>(Qz l.length a.2.2.2.2.2.length).bind fun _=>some (.inr l)) (cond (a.2.2.1 == 0) ((q9t c a.2.2.2.2.2 a.1 a.2.1).bind fun m=>(Qz m.length a.2.2.2.2.2.length).bind fun _=>some (.inr m)) ((cond (!a.2.2.2.1) ((q9j c a.2.2.2.2.2 a.1 a.2.1).bind fun n=>(Qz n.length a.2.2.2.2.2.length).bind fun _=>some (w64 (a.2.2.1 - 1),n)) (some (a.2.2.1,a.2.2.2.2.2))).bind fun d=>(q9o d.2 a.1 a.2.1 c).bind fun h=>(cond (h.2 == 2) ((qbd c d.2 a.1 a.2.1).bind fun o=>(Qz o.length d.2.length).bind fun _=>some (w64 ((w64 (a.2.1 - 1)) - (w64 (h.1 - a.1))),1,o)) (some (h.1,h.2,d.2))).bind fun f=>(cond a.2.2.2.1 (some a.2.2.2.2.1) (some false)).bind fun r=>(cond r (some (f.2.1 == 1)) (some false)).bind fun s=>(cond s ((q6o c f.2.2 a.1 a.2.1).bind fun j=>(Qz j.2.length f.2.2.length).bind fun _=>cond j.1 (some (.inr j.2)) (some (.inl j.2))) (some (.inl f.2.2)) : Option ((List qa) ⊕ (List qa))).bind fun t=>(match t with | .inl g=>(cond (decide (a.1 > 0)) ((idx g (w64 (a.1 - 1))).bind fun u=>(idx g f.1).bind fun v=>(c u v).bind fun w=>some (!(decide (w < 0)))) (some false)).bind fun x=>cond x ((qb3 c g a.1 a.2.1 f.1).bind fun k=>(Qz k.2.length g.length).bind fun _=>some (.inl (k.1,a.2.1,d.1,a.2.2.2.1,a.2.2.2.2.1,k.2))) ((qan c g a.1 a.2.1 f.1).bind fun b=>(Qz b.2.2.length g.length).bind fun _=>cond (decide ((w64 (b.1 - a.1)) < (w64 (a.2.1 - b.1)))) ((rec b.2.2 a.1 b.1 d.1).bind fun p=>(Qz p.length b.2.2.length).bind fun _=>some (.inl (w64 (b.1 + 1),a.2.1,d.1,decide ((w64 (b.1 - a.1)) ≥ (w64 (Int.tdiv (w64 (a.2.1 - a.1)) 8))),b.2.1,p))) ((rec b.2.2 (w64 (b.1 + 1)) a.2.1 d.1).bind fun q=>(Qz q.length b.2.2.length).bind fun _=>some (.inl (a.1,b.1,d.1,decide ((w64 (a.2.1 - b.1)) ≥ (w64 (Int.tdiv (w64 (a.2.1 - a.1)) 8))),b.2.1,q)))) | .inr y=>some (.inr y))))
noncomputable def q6x (rec : List qa→Int→Int→Int→Option (List qa)) (a : qa→qa→Option Int) (b : List qa) (c : Int) (d : Int) (f : Int) : Option (List qa):=
  (loop (q6w a rec) (c,d,f,true,true,b)).bind fun g=>some g
noncomputable def q6v : Nat→(qa→qa→Option Int)→List qa→Int→Int→Int→Option (List qa)
  | 0,_,_,_,_,_=>none
  | n + 1,a,b,c,d,f=>q6x (q6v n a) a b c d f
noncomputable def q6h (c : qa→qa→Option Int) (a : List qa) : Option (List qa):=
  (U3 (IntKind.wrap .u64 (a.length : Int))).bind fun d=>(lim (fun n=>q6v n c a 0 (a.length : Int) d)).bind fun b=>(Qz b.length a.length).bind fun _=>some b
noncomputable def q3m (c : qj) (b : Int × List qj) (d : (List (qa × Bool))) (a : Int × List qj) : Option (((List (qa × Bool))) ⊕ (Empty)):=
  (cond (decide (a.1 > c.Lo)) (some (decide (a.1 < c.Hi))) (some false)).bind fun f=>(cond f ((q1p a.2 b.1).bind fun g=>(cond g (some true) ((q1p a.2 (w64 (b.1 - 1))).bind fun h=>some h)).bind fun j=>some j) (some false)).bind fun k=>cond k (some (.inl (K9 ({X:=a.1,Y:=b.1} : qa) true d))) (some (.inl d))
noncomputable def q3l (a : Int × List qj) (b : Y9) (c : Int × (List (qa × Bool))) : Option ((Int × (List (qa × Bool))) ⊕ (((List (qa × Bool))) ⊕ (List qa × Bool))):=
  cond (decide (c.1 < (a.2.length : Int))) ((idx a.2 c.1).bind fun d=>(q3k ({X:=d.Lo,Y:=a.1} : qa) b.rows_ b.columns_ c.2).bind fun h=>(q3k ({X:=d.Hi,Y:=a.1} : qa) b.rows_ b.columns_ h).bind fun f=>(Uq (fun (x y : (List (qa × Bool)))=>List.Perm x y) (q3m d a) b.columns_ (f : (List (qa × Bool)))).bind fun _=>(Ko (q3m d a) b.columns_ (f : (List (qa × Bool)))).bind fun j=>(match j with | .inl g=>cond (decide ((g.length : Int) > 400)) (some (.inr (.inr ([],false)))) (some (.inl (w64 (c.1 + 1),g))) | .inr k=>k.elim)) (some (.inr (.inl c.2)))
noncomputable def Uv (a : Y9) (b : (List (qa × Bool))) (c : Int × List qj) : Option (((List (qa × Bool))) ⊕ (List qa × Bool)):=
  (loop (q3l c a) (0,b) : Option (((List (qa × Bool))) ⊕ (List qa × Bool))).bind fun d=>(match d with | .inl f=>some (.inl f) | .inr g=>some (.inr g))
noncomputable def q4u (b : Int × List qj) (c : Y9) (a : Int × (List (qa × Bool))) : Option ((Int × (List (qa × Bool))) ⊕ ((List (qa × Bool)))):=
  cond (decide (a.1 < (b.2.length : Int))) ((idx b.2 a.1).bind fun d=>(q3k ({X:=b.1,Y:=d.Lo} : qa) c.rows_ c.columns_ a.2).bind fun f=>(q3k ({X:=b.1,Y:=d.Hi} : qa) c.rows_ c.columns_ f).bind fun g=>some (.inl (w64 (a.1 + 1),g))) (some (.inr a.2))
noncomputable def q3n (a : Y9) (b : (List (qa × Bool))) (c : Int × List qj) : Option (((List (qa × Bool))) ⊕ (Empty)):=
  (loop (q4u c a) (0,b)).bind fun d=>some (.inl d)
noncomputable def q2o (a : List qa) (b : qa × Bool) : Option ((List qa) ⊕ Empty):=
  (app 16 a [b.1]).bind fun c=>some (.inl c)
noncomputable def q3o (a : List qa) : Option (List qa × Bool):=
  (q6h (fun c d=>q1s c d) a).bind fun b=>(Qz b.length a.length).bind fun _=>some (b,decide ((a.length : Int)≤400))
noncomputable def q7b (a : Y9) : Option (List qa × Bool):=
  (Uq (fun (x y : (List (qa × Bool)))=>List.Perm x y) (Uv a) a.rows_ (([] : List (qa × Bool)) : (List (qa × Bool)))).bind fun _=>(Ko (Uv a) a.rows_ (([] : List (qa × Bool)) : (List (qa × Bool)))).bind fun f=>(match f with | .inl c=>(Uq (fun (x y : (List (qa × Bool)))=>List.Perm x y) (q3n a) a.columns_ (c : (List (qa × Bool)))).bind fun _=>(Ko (q3n a) a.columns_ (c : (List (qa × Bool)))).bind fun g=>(match g with | .inl d=>(q4f (fun l=>(Ko (q2o) l (([] : List qa) : List qa)).bind (q7d (q3o))) d).bind fun _=>(Ko (q2o) d (([] : List qa) : List qa)).bind (q7d (q3o)) | .inr b=>b.elim) | .inr b=>some b)
noncomputable def q2n (a : qi) (b : qi) : Option Int:=
  (q1s ({X:=a.A,Y:=a.B} : qa) ({X:=b.A,Y:=b.B} : qa)).bind fun c=>some c
noncomputable def qa1 (c : Int) (d : qi→qi→Option Int) (a : Int × List qi) : Option ((Int × List qi) ⊕ (List qi)):=
  (cond (decide (a.1 > c)) ((idx a.2 a.1).bind fun f=>(idx a.2 (w64 (a.1 - 1))).bind fun g=>(d f g).bind fun h=>some (decide (h < 0))) (some false)).bind fun j=>cond j ((idx a.2 (w64 (a.1 - 1))).bind fun b=>(idx a.2 a.1).bind fun k=>(idx a.2 a.1).bind fun _=>(idx (a.2.set a.1.toNat b) (w64 (a.1 - 1))).bind fun _=>some (.inl (w64 (a.1 - 1),(a.2.set a.1.toNat b).set (w64 (a.1 - 1)).toNat k))) (some (.inr a.2))
noncomputable def qa0 (b : Int) (c : Int) (d : qi→qi→Option Int) (a : Int × List qi) : Option ((Int × List qi) ⊕ (List qi)):=
  cond (decide (a.1 < b)) (((loop (qa1 c d) (a.1,a.2)).bind fun f=>some f).bind fun g=>some (.inl (w64 (a.1 + 1),g))) (some (.inr a.2))
noncomputable def q9z (b : qi→qi→Option Int) (c : List qi) (a : Int) (d : Int) : Option (List qi):=
  (loop (qa0 d a b) (w64 (a + 1),c)).bind fun f=>some f
noncomputable def qbh (d : Int) (b : Int) (f : qi→qi→Option Int) (a : Int × List qi) : Option ((Int × List qi) ⊕ (List qi)):=
  cond (decide ((w64 ((w64 (2 * a.1)) + 1)) ≥ d)) (some (.inr a.2)) ((cond (decide ((w64 ((w64 ((w64 (2 * a.1)) + 1)) + 1)) < d)) ((idx a.2 (w64 (b + (w64 ((w64 (2 * a.1)) + 1))))).bind fun h=>(idx a.2 (w64 ((w64 (b + (w64 ((w64 (2 * a.1)) + 1)))) + 1))).bind fun j=>(f h j).bind fun k=>some (decide (k < 0))) (some false)).bind fun l=>(cond l (some (w64 ((w64 ((w64 (2 * a.1)) + 1)) + 1))) (some (w64 ((w64 (2 * a.1)) + 1)))).bind fun c=>(idx a.2 (w64 (b + a.1))).bind fun m=>(idx a.2 (w64 (b + c))).bind fun n=>(f m n).bind fun o=>cond (!(decide (o < 0))) (some (.inr a.2)) ((idx a.2 (w64 (b + c))).bind fun g=>(idx a.2 (w64 (b + a.1))).bind fun p=>(idx a.2 (w64 (b + a.1))).bind fun _=>(idx (a.2.set (w64 (b + a.1)).toNat g) (w64 (b + c))).bind fun _=>some (.inl (c,(a.2.set (w64 (b + a.1)).toNat g).set (w64 (b + c)).toNat p))))
noncomputable def q71 (a : qi→qi→Option Int) (b : List qi) (c : Int) (d : Int) (f : Int) : Option (List qi):=
  (loop (qbh d f a) (c,b)).bind fun g=>some g
noncomputable def q9r (d : qi→qi→Option Int) (f : Int) (b : Int) (a : Int × List qi) : Option ((Int × List qi) ⊕ (List qi)):=
  cond (decide (a.1 ≥ 0)) ((q71 d a.2 a.1 (w64 (f - b)) b).bind fun c=>(Qz c.length a.2.length).bind fun _=>some (.inl (w64 (a.1 - 1),c))) (some (.inr a.2))
noncomputable def q9s (b : Int) (g : qi→qi→Option Int) (a : Int × List qi) : Option ((Int × List qi) ⊕ (List qi)):=
  cond (decide (a.1 ≥ 0)) ((idx a.2 (w64 (b + a.1))).bind fun c=>(idx a.2 b).bind fun d=>(idx a.2 b).bind fun _=>(idx (a.2.set b.toNat c) (w64 (b + a.1))).bind fun _=>(q71 g ((a.2.set b.toNat c).set (w64 (b + a.1)).toNat d) 0 a.1 b).bind fun f=>(Qz f.length ((a.2.set b.toNat c).set (w64 (b + a.1)).toNat d).length).bind fun _=>some (.inl (w64 (a.1 - 1),f))) (some (.inr a.2))
noncomputable def q9q (c : qi→qi→Option Int) (d : List qi) (a : Int) (b : Int) : Option (List qi):=
  (loop (q9r c b a) (w64 (Int.tdiv (w64 ((w64 (b - a)) - 1)) 2),d)).bind fun f=>(loop (q9s a c) (w64 ((w64 (b - a)) - 1),f)).bind fun g=>some g
noncomputable def q4k (f : qi→qi→Option Int) (c : List qi) (a : Int) (b : Int) (d : Int) : Option (Int × Int × Int):=
  (idx c b).bind fun g=>(idx c a).bind fun h=>(f g h).bind fun j=>cond (decide (j < 0)) (some (b,a,w64 (d + 1))) (some (a,b,d))
noncomputable def q6j (a : qi→qi→Option Int) (b : List qi) (g : Int) (h : Int) (j : Int) (k : Int) : Option (Int × Int):=
  (q4k a b g h k).bind fun c=>(q4k a b c.2.1 j c.2.2).bind fun d=>(q4k a b c.1 d.1 d.2.2).bind fun f=>some (f.2.1,f.2.2)
noncomputable def q4h (c : qi→qi→Option Int) (d : List qi) (a : Int) (f : Int) : Option (Int × Int):=
  (q6j c d (w64 (a - 1)) a (w64 (a + 1)) f).bind fun b=>some (b.1,b.2)
noncomputable def q9n (d : List qi) (a : Int) (b : Int) (f : qi→qi→Option Int) : Option (Int × Int):=
  (cond (decide ((w64 (b - a)) ≥ 8)) ((cond (decide ((w64 (b - a)) ≥ 50)) ((q4h f d (w64 (a + (w64 ((w64 (Int.tdiv (w64 (b - a)) 4)) * 1)))) 0).bind fun h=>(q4h f d (w64 (a + (w64 ((w64 (Int.tdiv (w64 (b - a)) 4)) * 2)))) h.2).bind fun j=>(q4h f d (w64 (a + (w64 ((w64 (Int.tdiv (w64 (b - a)) 4)) * 3)))) j.2).bind fun k=>some (h.1,j.1,k.1,k.2)) (some (w64 (a + (w64 ((w64 (Int.tdiv (w64 (b - a)) 4)) * 1))),w64 (a + (w64 ((w64 (Int.tdiv (w64 (b - a)) 4)) * 2))),w64 (a + (w64 ((w64 (Int.tdiv (w64 (b - a)) 4)) * 3))),0))).bind fun g=>(q6j f d g.1 g.2.1 g.2.2.1 g.2.2.2).bind fun l=>some (l.1,l.2)) (some (w64 (a + (w64 ((w64 (Int.tdiv (w64 (b - a)) 4)) * 2))),0))).bind fun c=>cond (c.2 == 0) (some (c.1,1)) (cond (c.2 == 12) (some (c.1,2)) (some (c.1,0)))
noncomputable def qbc (a : Int × Int × List qi) : Option ((Int × Int × List qi) ⊕ (List qi)):=
  cond (decide (a.1 < a.2.1)) ((idx a.2.2 a.2.1).bind fun b=>(idx a.2.2 a.1).bind fun c=>(idx a.2.2 a.1).bind fun _=>(idx (a.2.2.set a.1.toNat b) a.2.1).bind fun _=>some (.inl (w64 (a.1 + 1),w64 (a.2.1 - 1),(a.2.2.set a.1.toNat b).set a.2.1.toNat c))) (some (.inr a.2.2))
noncomputable def qbb (f : qi→qi→Option Int) (a : List qi) (b : Int) (c : Int) : Option (List qi):=
  (loop qbc (b,w64 (c - 1),a)).bind fun d=>some d
noncomputable def qa8 (c : Int) (b : Int × Int × List qi) (d : qi→qi→Option Int) (a : Int) : Option ((Int) ⊕ (Int)):=
  (cond (decide (a < c)) ((idx b.2.2 a).bind fun f=>(idx b.2.2 (w64 (a - 1))).bind fun g=>(d f g).bind fun h=>some (!(decide (h < 0)))) (some false)).bind fun j=>cond j (some (.inl (w64 (a + 1)))) (some (.inr a))
noncomputable def qa9 (c : qi→qi→Option Int) (a : Int × List qi) : Option ((Int × List qi) ⊕ (List qi)):=
  cond (decide (a.1 ≥ 1)) ((idx a.2 a.1).bind fun d=>(idx a.2 (w64 (a.1 - 1))).bind fun f=>(c d f).bind fun g=>cond (!(decide (g < 0))) (some (.inr a.2)) ((idx a.2 (w64 (a.1 - 1))).bind fun b=>(idx a.2 a.1).bind fun h=>(idx a.2 a.1).bind fun _=>(idx (a.2.set a.1.toNat b) (w64 (a.1 - 1))).bind fun _=>some (.inl (w64 (a.1 - 1),(a.2.set a.1.toNat b).set (w64 (a.1 - 1)).toNat h)))) (some (.inr a.2))
noncomputable def qaa (d : Int) (f : qi→qi→Option Int) (b : Int) (a : Int × List qi) : Option ((Int × List qi) ⊕ (Int × List qi)):=
  cond (decide (a.1 < d)) ((idx a.2 a.1).bind fun g=>(idx a.2 (w64 (a.1 - 1))).bind fun h=>(f g h).bind fun j=>cond (!(decide (j < 0))) (some (.inr (b,a.2))) ((idx a.2 (w64 (a.1 - 1))).bind fun c=>(idx a.2 a.1).bind fun k=>(idx a.2 a.1).bind fun _=>(idx (a.2.set a.1.toNat c) (w64 (a.1 - 1))).bind fun _=>some (.inl (w64 (a.1 + 1),(a.2.set a.1.toNat c).set (w64 (a.1 - 1)).toNat k)))) (some (.inr (b,a.2)))
noncomputable def q6n (c : Int) (d : qi→qi→Option Int) (h : Int) (b : Int × Int × List qi) : Option ((Int × Int × List qi) ⊕ ((List qi) ⊕ (Bool × List qi))):=
  cond (decide (b.2.1 < 5)) (((loop (qa8 c b d) b.1).bind fun a=>cond (a == c) (some (.inr (true,b.2.2))) (cond (decide ((w64 (c - h)) < 50)) (some (.inr (false,b.2.2))) ((idx b.2.2 (w64 (a - 1))).bind fun f=>(idx b.2.2 a).bind fun j=>(idx b.2.2 a).bind fun _=>(idx (b.2.2.set a.toNat f) (w64 (a - 1))).bind fun _=>(cond (decide ((w64 (a - h)) ≥ 2)) ((loop (qa9 d) (w64 (a - 1),(b.2.2.set a.toNat f).set (w64 (a - 1)).toNat j)).bind fun g=>some g) (some ((b.2.2.set a.toNat f).set (w64 (a - 1)).toNat j))).bind fun k=>cond (decide ((w64 (c - a)) ≥ 2)) ((loop (qaa c d a) (w64 (a + 1),k)).bind fun g=>some (.inl g)) (some (.inl (a,k))))) : Option ((Int × List qi) ⊕ (Bool × List qi))).bind fun m=>(match m with | .inl l=>some (.inl (l.1,w64 (b.2.1 + 1),l.2)) | .inr n=>some (.inr (.inr n)))) (some (.inr (.inl b.2.2)))
noncomputable def q6m (b : qi→qi→Option Int) (c : List qi) (a : Int) (d : Int) : Option (Bool × List qi):=
  (loop (q6n d b a) (w64 (a + 1),0,c) : Option ((List qi) ⊕ (Bool × List qi))).bind fun f=>(match f with | .inl g=>some (false,g) | .inr h=>some h)
noncomputable def qb1 (b : Int × Int × List qi) (c : Int) (d : qi→qi→Option Int) (a : Int) : Option ((Int) ⊕ (Int)):=
  (cond (decide (a≤b.2.1)) ((idx b.2.2 c).bind fun f=>(idx b.2.2 a).bind fun g=>(d f g).bind fun h=>some (!(decide (h < 0)))) (some false)).bind fun j=>cond j (some (.inl (w64 (a + 1)))) (some (.inr a))
noncomputable def qb2 (c : Int) (b : Int × Int × List qi) (d : Int) (f : qi→qi→Option Int) (a : Int) : Option ((Int) ⊕ (Int)):=
  (cond (decide (c≤a)) ((idx b.2.2 d).bind fun g=>(idx b.2.2 a).bind fun h=>(f g h).bind fun j=>some (decide (j < 0))) (some false)).bind fun k=>cond k (some (.inl (w64 (a - 1)))) (some (.inr a))
noncomputable def qb0 (d : Int) (f : qi→qi→Option Int) (a : Int × Int × List qi) : Option ((Int × Int × List qi) ⊕ (Int × List qi)):=
  (loop (qb1 a d f) a.1).bind fun b=>(loop (qb2 b a d f) a.2.1).bind fun c=>cond (decide (b > c)) (some (.inr (b,a.2.2))) ((idx a.2.2 c).bind fun g=>(idx a.2.2 b).bind fun h=>(idx a.2.2 b).bind fun _=>(idx (a.2.2.set b.toNat g) c).bind fun _=>some (.inl (w64 (b + 1),w64 (c - 1),(a.2.2.set b.toNat g).set c.toNat h)))
noncomputable def qaz (g : qi→qi→Option Int) (b : List qi) (a : Int) (h : Int) (c : Int) : Option (Int × List qi):=
  (idx b c).bind fun d=>(idx b a).bind fun j=>(idx b a).bind fun _=>(idx (b.set a.toNat d) c).bind fun _=>(loop (qb0 a g) (w64 (a + 1),w64 (h - 1),(b.set a.toNat d).set c.toNat j)).bind fun f=>some (f.1,f.2)
noncomputable def qai (h : Int) (c : List qi) (b : Int) (d : qi) (f : Int) (g : qi) (j : qi→qi→Option Int) (a : Int) : Option ((Int) ⊕ (Int)):=
  (cond (decide (a≤(w64 (h - 1)))) ((idx ((c.set b.toNat d).set f.toNat g) a).bind fun k=>(idx ((c.set b.toNat d).set f.toNat g) b).bind fun l=>(j k l).bind fun m=>some (decide (m < 0))) (some false)).bind fun n=>cond n (some (.inl (w64 (a + 1)))) (some (.inr a))
noncomputable def qaj (h : Int) (c : List qi) (b : Int) (d : qi) (f : Int) (g : qi) (j : qi→qi→Option Int) (a : Int) : Option ((Int) ⊕ (Int)):=
  (cond (decide (h≤a)) ((idx ((c.set b.toNat d).set f.toNat g) a).bind fun k=>(idx ((c.set b.toNat d).set f.toNat g) b).bind fun l=>(j k l).bind fun m=>some (!(decide (m < 0)))) (some false)).bind fun n=>cond n (some (.inl (w64 (a - 1)))) (some (.inr a))
noncomputable def qal (b : Int × Int × List qi) (c : Int) (d : qi→qi→Option Int) (a : Int) : Option ((Int) ⊕ (Int)):=
  (cond (decide (a≤b.2.1)) ((idx b.2.2 a).bind fun f=>(idx b.2.2 c).bind fun g=>(d f g).bind fun h=>some (decide (h < 0))) (some false)).bind fun j=>cond j (some (.inl (w64 (a + 1)))) (some (.inr a))
noncomputable def qam (c : Int) (b : Int × Int × List qi) (d : Int) (f : qi→qi→Option Int) (a : Int) : Option ((Int) ⊕ (Int)):=
  (cond (decide (c≤a)) ((idx b.2.2 a).bind fun g=>(idx b.2.2 d).bind fun h=>(f g h).bind fun j=>some (!(decide (j < 0)))) (some false)).bind fun k=>cond k (some (.inl (w64 (a - 1)))) (some (.inr a))
noncomputable def qak (d : Int) (f : qi→qi→Option Int) (a : Int × Int × List qi) : Option ((Int × Int × List qi) ⊕ (Int × List qi)):=
  (loop (qal a d f) a.1).bind fun b=>(loop (qam b a d f) a.2.1).bind fun c=>cond (decide (b > c)) (some (.inr (c,a.2.2))) ((idx a.2.2 c).bind fun g=>(idx a.2.2 b).bind fun h=>(idx a.2.2 b).bind fun _=>(idx (a.2.2.set b.toNat g) c).bind fun _=>some (.inl (w64 (b + 1),w64 (c - 1),(a.2.2.set b.toNat g).set c.toNat h)))
noncomputable def qah (k : qi→qi→Option Int) (b : List qi) (a : Int) (l : Int) (c : Int) : Option (Int × Bool × List qi):=
  (idx b c).bind fun d=>(idx b a).bind fun f=>(idx b a).bind fun _=>(idx (b.set a.toNat d) c).bind fun _=>(loop (qai l b a d c f k) (w64 (a + 1))).bind fun j=>(loop (qaj j b a d c f k) (w64 (l - 1))).bind fun g=>cond (decide (j > g)) ((idx ((b.set a.toNat d).set c.toNat f) a).bind fun m=>(idx ((b.set a.toNat d).set c.toNat f) g).bind fun p=>(idx ((b.set a.toNat d).set c.toNat f) g).bind fun _=>(idx (((b.set a.toNat d).set c.toNat f).set g.toNat m) a).bind fun _=>some (g,true,(((b.set a.toNat d).set c.toNat f).set g.toNat m).set a.toNat p)) ((idx ((b.set a.toNat d).set c.toNat f) g).bind fun n=>(idx ((b.set a.toNat d).set c.toNat f) j).bind fun q=>(idx ((b.set a.toNat d).set c.toNat f) j).bind fun _=>(idx (((b.set a.toNat d).set c.toNat f).set j.toNat n) g).bind fun _=>(loop (qak a k) (w64 (j + 1),w64 (g - 1),(((b.set a.toNat d).set c.toNat f).set j.toNat n).set g.toNat q)).bind fun h=>(idx h.2 a).bind fun o=>(idx h.2 h.1).bind fun r=>(idx h.2 h.1).bind fun _=>(idx (h.2.set h.1.toNat o) a).bind fun _=>some (h.1,false,(h.2.set h.1.toNat o).set a.toNat r))
noncomputable def q9i (b : Int) (d : Int) (f : Int) (a : Int × List qi × Int) : Option ((Int × List qi × Int) ⊕ (List qi)):=
  cond (decide (a.1≤(w64 ((w64 (b + (w64 ((w64 (Int.tdiv (w64 (d - b)) 4)) * 2)))) + 1)))) ((Us a.2.2).bind fun c=>(cond (decide ((w64 (andI .u64 c (IntKind.wrap .u64 (f - 1)))) ≥ (w64 (d - b)))) (some (w64 ((w64 (andI .u64 c (IntKind.wrap .u64 (f - 1)))) - (w64 (d - b))))) (some (w64 (andI .u64 c (IntKind.wrap .u64 (f - 1)))))).bind fun g=>(idx a.2.1 (w64 (b + g))).bind fun h=>(idx a.2.1 a.1).bind fun j=>(idx a.2.1 a.1).bind fun _=>(idx (a.2.1.set a.1.toNat h) (w64 (b + g))).bind fun _=>some (.inl (w64 (a.1 + 1),(a.2.1.set a.1.toNat h).set (w64 (b + g)).toNat j,c))) (some (.inr a.2.1))
noncomputable def q9h (g : qi→qi→Option Int) (c : List qi) (a : Int) (b : Int) : Option (List qi):=
  cond (decide ((w64 (b - a)) ≥ 8)) ((Ur (w64 (b - a))).bind fun d=>(loop (q9i a b d) (w64 ((w64 (a + (w64 ((w64 (Int.tdiv (w64 (b - a)) 4)) * 2)))) - 1),c,IntKind.wrap .u64 (w64 (b - a)))).bind fun f=>some f) (some c)
noncomputable def q6t (c : qi→qi→Option Int) (rec : List qi→Int→Int→Int→Option (List qi)) (a : Int × Int × Int × Bool × Bool × List qi) : Option ((Int × Int × Int × Bool × Bool × List qi) ⊕ (List qi)):=
  cond (decide ((w64 (a.2.1 - a.1))≤12)) ((q9z c a.2.2.2.2.2 a.1 a.2.1).bind fun l=>(Qz l.length a.2.2.2.2.2.length).bind fun _=>some (.inr l)) (cond (a.2.2.1 == 0) ((q9q c a.2.2.2.2.2 a.1 a.2.1).bind fun m=>(Qz m.length a.2.2.2.2.2.length).bind fun _=>some (.inr m)) ((cond (!a.2.2.2.1) ((q9h c a.2.2.2.2.2 a.1 a.2.1).bind fun n=>(Qz n.length a.2.2.2.2.2.length).bind fun _=>some (w64 (a.2.2.1 - 1),n)) (some (a.2.2.1,a.2.2.2.2.2))).bind fun d=>(q9n d.2 a.1 a.2.1 c).bind fun h=>(cond (h.2 == 2) ((qbb c d.2 a.1 a.2.1).bind fun o=>(Qz o.length d.2.length).bind fun _=>some (w64 ((w64 (a.2.1 - 1)) - (w64 (h.1 - a.1))),1,o)) (some (h.1,h.2,d.2))).bind fun f=>(cond a.2.2.2.1 (some a.2.2.2.2.1) (some false)).bind fun r=>(cond r (some (f.2.1 == 1)) (some false)).bind fun s=>(cond s ((q6m c f.2.2 a.1 a.2.1).bind fun j=>(Qz j.2.length f.2.2.length).bind fun _=>cond j.1 (some (.inr j.2)) (some (.inl j.2))) (some (.inl f.2.2)) : Option ((List qi) ⊕ (List qi))).bind fun t=>(match t with | .inl g=>(cond (decide (a.1 > 0)) ((idx g (w64 (a.1 - 1))).bind fun u=>(idx g f.1).bind fun v=>(c u v).bind fun w=>some (!(decide (w < 0)))) (some false)).bind fun x=>cond x ((qaz c g a.1 a.2.1 f.1).bind fun k=>(Qz k.2.length g.length).bind fun _=>some (.inl (k.1,a.2.1,d.1,a.2.2.2.1,a.2.2.2.2.1,k.2))) ((qah c g a.1 a.2.1 f.1).bind fun b=>(Qz b.2.2.length g.length).bind fun _=>cond (decide ((w64 (b.1 - a.1)) < (w64 (a.2.1 - b.1)))) ((rec b.2.2 a.1 b.1 d.1).bind fun p=>(Qz p.length b.2.2.length).bind fun _=>some (.inl (w64 (b.1 + 1),a.2.1,d.1,decide ((w64 (b.1 - a.1)) ≥ (w64 (Int.tdiv (w64 (a.2.1 - a.1)) 8))),b.2.1,p))) ((rec b.2.2 (w64 (b.1 + 1)) a.2.1 d.1).bind fun q=>(Qz q.length b.2.2.length).bind fun _=>some (.inl (a.1,b.1,d.1,decide ((w64 (a.2.1 - b.1)) ≥ (w64 (Int.tdiv (w64 (a.2.1 - a.1)) 8))),b.2.1,q)))) | .inr y=>some (.inr y))))
noncomputable def q6u (rec : List qi→Int→Int→Int→Option (List qi)) (a : qi→qi→Option Int) (b : List qi) (c : Int) (d : Int) (f : Int) : Option (List qi):=
  (loop (q6t a rec) (c,d,f,true,true,b)).bind fun g=>some g
noncomputable def q6s : Nat→(qi→qi→Option Int)→List qi→Int→Int→Int→Option (List qi)
  | 0,_,_,_,_,_=>none
  | n + 1,a,b,c,d,f=>q6u (q6s n a) a b c d f
noncomputable def q4g (c : qi→qi→Option Int) (a : List qi) : Option (List qi):=
  (U3 (IntKind.wrap .u64 (a.length : Int))).bind fun d=>(lim (fun n=>q6s n c a 0 (a.length : Int) d)).bind fun b=>(Qz b.length a.length).bind fun _=>some b
noncomputable def q3j (c : List qa × Bool) (g : Y9) (a : Int × (List (Int × Int)) × (List (Int × Int)) × List qi) : Option ((Int × (List (Int × Int)) × (List (Int × Int)) × List qi) ⊕ (List qi)):=
  cond (decide (a.1 < (c.1.length : Int))) ((idx c.1 a.1).bind fun b=>(q4t g b).bind fun d=>(cond d.2.2.1 ((app 16 a.2.2.2 [({A:=K6 0 b.Y a.2.1,B:=a.1} : qi)]).bind fun h=>some h) (some a.2.2.2)).bind fun f=>(cond d.2.2.2 ((app 16 f [({A:=K6 0 b.X a.2.2.1,B:=a.1} : qi)]).bind fun j=>some j) (some f)).bind fun k=>some (.inl (w64 (a.1 + 1),K9 b.Y a.1 a.2.1,K9 b.X a.1 a.2.2.1,k))) (some (.inr a.2.2.2))
noncomputable def q3i (f : List qt) : Option (Qh × Bool):=
  (q7a f).bind fun c=>(q7b c).bind fun a=>cond (!a.2) (some (({Nodes:=[],Edges:=[]} : Qh),false)) ((loop (q3j a c) (0,[],[],[])).bind fun b=>(q4g (fun g h=>q2n g h) b).bind fun d=>(Qz d.length b.length).bind fun _=>some (({Nodes:=a.1,Edges:=d} : Qh),decide ((b.length : Int)≤800)))
noncomputable def q6f (b : List qa) (f : List qa) (a : Int) : Option ((Int) ⊕ ((Unit) ⊕ (Bool))):=
  cond (decide (a < (b.length : Int))) ((idx b a).bind fun c=>(idx f a).bind fun d=>cond (!((c.X == d.X) && ((c.Y == d.Y) && true))) (some (.inr (.inr false))) (some (.inl (w64 (a + 1))))) (some (.inr (.inl ())))
noncomputable def q9e (a : List qa) (b : List qa) : Option Bool:=
  cond ((a.length : Int) != (b.length : Int)) (some false) ((loop (q6f a b) 0 : Option ((Unit) ⊕ (Bool))).bind fun c=>(match c with | .inl _=>some true | .inr d=>some d))
noncomputable def q6e (b : List qi) (f : List qi) (a : Int) : Option ((Int) ⊕ ((Unit) ⊕ (Bool))):=
  cond (decide (a < (b.length : Int))) ((idx b a).bind fun c=>(idx f a).bind fun d=>cond (!((c.A == d.A) && ((c.B == d.B) && true))) (some (.inr (.inr false))) (some (.inl (w64 (a + 1))))) (some (.inr (.inl ())))
noncomputable def q9d (a : List qi) (b : List qi) : Option Bool:=
  cond ((a.length : Int) != (b.length : Int)) (some false) ((loop (q6e a b) 0 : Option ((Unit) ⊕ (Bool))).bind fun c=>(match c with | .inl _=>some true | .inr d=>some d))
noncomputable def qbu (a : Qh) (b : Qh) : Option Bool:=
  (q9e a.Nodes b.Nodes).bind fun c=>(cond c ((q9d a.Edges b.Edges).bind fun d=>some d) (some false)).bind fun f=>some f
noncomputable def U8 (a : Qh) : Option Int:=
  (cond (decide ((a.Nodes.length : Int) > 400)) (some true) (some (decide ((a.Edges.length : Int) > 800)))).bind fun d=>cond d (some 4) ((q4r a).bind fun b=>cond (!b.2) (some 8) ((q3i b.1).bind fun c=>(cond (!c.2) (some true) ((qbu c.1 a).bind fun f=>some (!f))).bind fun g=>cond g (some 8) (some 0)))
noncomputable def q2m (a : Qh) : Option (List qt × Int):=
  (U8 a).bind fun b=>cond (b != 0) (some ([],b)) ((q4r a).bind fun c=>some (c.1,0))
noncomputable def q5t (a : qa) : Option Bool:=
  (cond (decide (a.X ≥ (-1000000))) (some (decide (a.X≤1000000))) (some false)).bind fun b=>(cond b (some (decide (a.Y ≥ (-1000000)))) (some false)).bind fun c=>(cond c (some (decide (a.Y≤1000000))) (some false)).bind fun d=>some d
noncomputable def q4d (a : qt) : Option Bool:=
  (cond (!((a.A.X == a.B.X) && ((a.A.Y == a.B.Y) && true))) ((cond (a.A.X == a.B.X) (some true) (some (a.A.Y == a.B.Y))).bind fun b=>some b) (some false)).bind fun c=>(cond c ((q5t a.A).bind fun d=>some d) (some false)).bind fun f=>(cond f ((q5t a.B).bind fun g=>some g) (some false)).bind fun h=>some h
noncomputable def qgz (a : Qh) (c : Int × List qt) : Option ((Int × List qt) ⊕ ((List qt) ⊕ (List qt × Bool))):=
  cond (decide (c.1 < (a.Edges.length : Int))) ((idx a.Edges c.1).bind fun b=>(cond (decide (b.A < 0)) (some true) (some (decide (b.A ≥ (a.Nodes.length : Int))))).bind fun g=>(cond g (some true) (some (decide (b.B < 0)))).bind fun h=>(cond h (some true) (some (decide (b.B ≥ (a.Nodes.length : Int))))).bind fun j=>cond j (some (.inr (.inr ([],false)))) ((idx a.Nodes b.A).bind fun d=>(idx a.Nodes b.B).bind fun f=>(q4d ({A:=d,B:=f} : qt)).bind fun k=>cond (!k) (some (.inr (.inr ([],false)))) ((app 32 c.2 [({A:=d,B:=f} : qt)]).bind fun l=>some (.inl (w64 (c.1 + 1),l))))) (some (.inr (.inl c.2)))
noncomputable def qdv (a : Qh) : Option (List qt × Bool):=
  (loop (qgz a) (0,[]) : Option ((List qt) ⊕ (List qt × Bool))).bind fun b=>(match b with | .inl c=>some (c,true) | .inr d=>some d)
structure Ki where
  At : Int
  Spans : List qj
  deriving DecidableEq
noncomputable def q8u (b : Int × List Int) (c : List Int) (a : Int) : Option ((Int) ⊕ (Int)):=
  (cond (decide (a > 0)) ((idx b.2 (w64 (a - 1))).bind fun d=>(idx c b.1).bind fun f=>some (decide (d > f))) (some false)).bind fun g=>cond g (some (.inl (w64 (a - 1)))) (some (.inr a))
noncomputable def q8t (d : List Int) (a : Int × List Int) : Option ((Int × List Int) ⊕ (List Int)):=
  cond (decide (a.1 < (d.length : Int))) (((loop (q8u a d) (a.2.length : Int)).bind fun c=>(cond (decide (c > 0)) ((idx a.2 (w64 (c - 1))).bind fun h=>(idx d a.1).bind fun j=>some (h == j)) (some false)).bind fun k=>cond k (some a.2) ((app 8 a.2 [0]).bind fun b=>(sub2 b.length (w64 (c + 1)) b.length).bind fun g=>(sub2 b.length c b.length).bind fun f=>(idx d a.1).bind fun l=>(idx (cpyw b g ((b.drop f.1).take f.2)) c).bind fun _=>some ((cpyw b g ((b.drop f.1).take f.2)).set c.toNat l))).bind fun m=>some (.inl (w64 (a.1 + 1),m))) (some (.inr a.2))
noncomputable def qdp (a : List Int) : Option (List Int):=
  (loop (q8t a) (0,[])).bind fun b=>some b
noncomputable def q65 (b : Int × List qj) (a : Int × Int × Int × List qj) : Option ((Int × Int × Int × List qj) ⊕ (Int × Int × List qj)):=
  cond (decide (a.1 < (b.2.length : Int))) (((idx b.2 a.1).bind fun d=>(cond (decide (d.Hi < a.2.1)) (some true) ((idx b.2 a.1).bind fun f=>some (decide (a.2.2.1 < f.Lo)))).bind fun g=>cond g ((idx b.2 a.1).bind fun h=>(app 16 a.2.2.2 [h]).bind fun j=>some (a.2.1,a.2.2.1,j)) ((idx b.2 a.1).bind fun k=>(idx b.2 a.1).bind fun l=>some (min a.2.1 k.Lo,max a.2.2.1 l.Hi,a.2.2.2))).bind fun c=>some (.inl (w64 (a.1 + 1),c.1,c.2.1,c.2.2))) (some (.inr (a.2.1,a.2.2.1,a.2.2.2)))
noncomputable def q66 (b : Int × Int × List qj) (a : Int) : Option ((Int) ⊕ (Int)):=
  (cond (decide (a < (b.2.2.length : Int))) ((idx b.2.2 a).bind fun c=>some (decide (c.Lo < b.1))) (some false)).bind fun d=>cond d (some (.inl (w64 (a + 1)))) (some (.inr a))
noncomputable def q99 (c : List qj) (b : Int × List qj) : Option ((Int × List qj) ⊕ (List qj)):=
  cond (decide (b.1 < (c.length : Int))) ((idx c b.1).bind fun d=>(loop (q65 b) (0,d.Lo,d.Hi,[])).bind fun a=>(loop (q66 a) 0).bind fun f=>(sub2 a.2.2.length 0 f).bind fun g=>(app 16 [] ((a.2.2.drop g.1).take g.2)).bind fun j=>(app 16 j [({Lo:=a.1,Hi:=a.2.1} : qj)]).bind fun k=>(sub2 a.2.2.length f a.2.2.length).bind fun h=>(app 16 k ((a.2.2.drop h.1).take h.2)).bind fun l=>some (.inl (w64 (b.1 + 1),l))) (some (.inr b.2))
noncomputable def q98 (a : List qj) : Option (List qj):=
  (loop (q99 a) (0,[])).bind fun b=>some b
noncomputable def q91 (b : List qt) (c : Bool) (a : Int × List Int) : Option ((Int × List Int) ⊕ (List Int)):=
  cond (decide (a.1 < (b.length : Int))) (((idx b a.1).bind fun d=>(idx b a.1).bind fun f=>cond ((d.A.Y == f.B.Y) == c) (cond c ((idx b a.1).bind fun g=>(app 8 a.2 [g.A.Y]).bind fun h=>some h) ((idx b a.1).bind fun j=>(app 8 a.2 [j.A.X]).bind fun k=>some k)) (some a.2)).bind fun l=>some (.inl (w64 (a.1 + 1),l))) (some (.inr a.2))
noncomputable def q93 (b : List qt) (f : Bool) (c : List Int) (d : Int × List Ki) (a : Int × List qj) : Option ((Int × List qj) ⊕ (List qj)):=
  cond (decide (a.1 < (b.length : Int))) (((cond f ((idx b a.1).bind fun g=>(idx c d.1).bind fun h=>some (g.A.Y == h)) (some false)).bind fun j=>(cond j ((idx b a.1).bind fun k=>(idx c d.1).bind fun l=>some (k.B.Y == l)) (some false)).bind fun m=>cond m ((idx b a.1).bind fun n=>(idx b a.1).bind fun o=>(idx b a.1).bind fun p=>(idx b a.1).bind fun q=>(app 16 a.2 [({Lo:=min n.A.X o.B.X,Hi:=max p.A.X q.B.X} : qj)]).bind fun r=>some r) ((cond (!f) ((idx b a.1).bind fun s=>(idx c d.1).bind fun t=>some (s.A.X == t)) (some false)).bind fun u=>(cond u ((idx b a.1).bind fun v=>(idx c d.1).bind fun w=>some (v.B.X == w)) (some false)).bind fun x=>cond x ((idx b a.1).bind fun y=>(idx b a.1).bind fun z=>(idx b a.1).bind fun aa=>(idx b a.1).bind fun ab=>(app 16 a.2 [({Lo:=min y.A.Y z.B.Y,Hi:=max aa.A.Y ab.B.Y} : qj)]).bind fun ac=>some ac) (some a.2))).bind fun ad=>some (.inl (w64 (a.1 + 1),ad))) (some (.inr a.2))
noncomputable def q92 (b : List Int) (c : List qt) (d : Bool) (a : Int × List Ki) : Option ((Int × List Ki) ⊕ (List Ki)):=
  cond (decide (a.1 < (b.length : Int))) (((cond (decide (a.1 > 0)) ((idx b a.1).bind fun f=>(idx b (w64 (a.1 - 1))).bind fun g=>some (f == g)) (some false)).bind fun h=>cond h (some a.2) ((loop (q93 c d b a) (0,[])).bind fun j=>(q98 j).bind fun k=>(idx b a.1).bind fun l=>(app 32 a.2 [({At:=l,Spans:=k} : Ki)]).bind fun m=>some m)).bind fun n=>some (.inl (w64 (a.1 + 1),n))) (some (.inr a.2))
noncomputable def qdw (a : List qt) (b : Bool) : Option (List Ki):=
  (loop (q91 a b) (0,[])).bind fun c=>(qdp c).bind fun d=>(loop (q92 d a b) (0,[])).bind fun f=>some f
noncomputable def q60 (b : List Ki) (c : Int) (d : Int) (a : Int) : Option ((Int) ⊕ ((Unit) ⊕ (Bool))):=
  (idx b c).bind fun f=>cond (decide (a < (f.Spans.length : Int))) ((idx b c).bind fun g=>(idx g.Spans a).bind fun h=>(cond (decide (h.Lo≤d)) ((idx b c).bind fun j=>(idx j.Spans a).bind fun k=>some (decide (d < k.Hi))) (some false)).bind fun l=>cond l (some (.inr (.inr true))) (some (.inl (w64 (a + 1))))) (some (.inr (.inl ())))
noncomputable def q5z (b : List Ki) (d : Int) (f : Int) (a : Int) : Option ((Int) ⊕ ((Unit) ⊕ (Bool))):=
  cond (decide (a < (b.length : Int))) (((idx b a).bind fun g=>cond (g.At != d) (some (.inl ())) ((loop (q60 b a f) 0 : Option ((Unit) ⊕ (Bool))).bind fun h=>(match h with | .inl j=>some (.inl j) | .inr c=>some (.inr c))) : Option ((Unit) ⊕ (Bool))).bind fun k=>(match k with | .inl _=>some (.inl (w64 (a + 1))) | .inr c=>some (.inr (.inr c)))) (some (.inr (.inl ())))
noncomputable def q5y (a : List Ki) (b : Int) (c : Int) : Option Bool:=
  (loop (q5z a b c) 0 : Option ((Unit) ⊕ (Bool))).bind fun d=>(match d with | .inl _=>some false | .inr f=>some f)
noncomputable def qdq (b : List Ki) (c : List Ki) (a : qa) : Option (Bool × Bool × Bool × Bool):=
  (q5y b a.Y a.X).bind fun d=>(q5y c a.X a.Y).bind fun f=>(q5y b a.Y (w64 (a.X - 1))).bind fun g=>(q5y c a.X (w64 (a.Y - 1))).bind fun h=>some (d,f,g,h)
noncomputable def q4e (b : List Ki) (c : List Ki) (d : qa) : Option Bool:=
  (qdq b c d).bind fun a=>(cond ((a.1 == true) && ((a.2.1 == false) && ((a.2.2.1 == true) && ((a.2.2.2 == false) && true)))) (some true) (some ((a.1 == false) && ((a.2.1 == true) && ((a.2.2.1 == false) && ((a.2.2.2 == true) && true)))))).bind fun f=>(cond (!f) ((cond a.1 (some true) (some a.2.1)).bind fun g=>(cond g (some true) (some a.2.2.1)).bind fun h=>(cond h (some true) (some a.2.2.2)).bind fun j=>some j) (some false)).bind fun k=>some k
noncomputable def qds (a : qa) (b : qa) : Option Bool:=
  (cond (decide (a.X < b.X)) (some true) ((cond (a.X == b.X) (some (decide (a.Y < b.Y))) (some false)).bind fun c=>some c)).bind fun d=>some d
noncomputable def q64 (b : List qa) (c : qa) (a : Int) : Option ((Int) ⊕ (Int)):=
  (cond (decide (a < (b.length : Int))) ((idx b a).bind fun d=>(qds d ({X:=(c).X,Y:=(c).Y} : qa)).bind fun f=>some f) (some false)).bind fun g=>cond g (some (.inl (w64 (a + 1)))) (some (.inr a))
noncomputable def q63 (c : List qa) (d : qa) : Option (List qa):=
  (loop (q64 c d) 0).bind fun b=>(cond (decide (b < (c.length : Int))) ((idx c b).bind fun g=>some ((g.X == ((d).X)) && ((g.Y == ((d).Y)) && true))) (some false)).bind fun j=>cond j (some c) ((app 16 c [({X:=0,Y:=0} : qa)]).bind fun a=>(sub2 a.length (w64 (b + 1)) a.length).bind fun h=>(sub2 a.length b a.length).bind fun f=>(idx (cpyw a h ((a.drop f.1).take f.2)) b).bind fun _=>some ((cpyw a h ((a.drop f.1).take f.2)).set b.toNat ({X:=(d).X,Y:=(d).Y} : qa)))
noncomputable def q96 (b : List Ki) (c : qj) (a : Int × List Int) : Option ((Int × List Int) ⊕ (List Int)):=
  cond (decide (a.1 < (b.length : Int))) (((idx b a.1).bind fun d=>(cond (decide (d.At > c.Lo)) ((idx b a.1).bind fun f=>some (decide (f.At < c.Hi))) (some false)).bind fun g=>cond g ((idx b a.1).bind fun h=>(app 8 a.2 [h.At]).bind fun j=>some j) (some a.2)).bind fun k=>some (.inl (w64 (a.1 + 1),k))) (some (.inr a.2))
noncomputable def q61 (b : List Int) (c : List Ki) (g : Int × List qa) (h : List Ki) (a : Int × List qa) : Option ((Int × List qa) ⊕ (List qa)):=
  (cond (decide (a.1 < (b.length : Int))) (some (decide ((a.2.length : Int)≤400))) (some false)).bind fun j=>cond j (((idx b a.1).bind fun d=>(idx c g.1).bind fun f=>(q4e c h ({X:=d,Y:=f.At} : qa)).bind fun k=>cond k ((q63 a.2 ({X:=d,Y:=f.At} : qa)).bind fun l=>some l) (some a.2)).bind fun m=>some (.inl (w64 (a.1 + 1),m))) (some (.inr a.2))
noncomputable def q95 (b : List Ki) (c : Int × List qa) (f : List Ki) (a : Int × List qa) : Option ((Int × List qa) ⊕ (List qa)):=
  (idx b c.1).bind fun g=>cond (decide (a.1 < (g.Spans.length : Int))) (((idx b c.1).bind fun h=>(idx h.Spans a.1).bind fun d=>(loop (q96 f d) (0,[d.Lo,d.Hi])).bind fun j=>(loop (q61 j b c f) (0,a.2)).bind fun k=>some k).bind fun l=>some (.inl (w64 (a.1 + 1),l))) (some (.inr a.2))
noncomputable def q94 (b : List Ki) (c : List Ki) (a : Int × List qa) : Option ((Int × List qa) ⊕ (List qa)):=
  cond (decide (a.1 < (b.length : Int))) (((loop (q95 b a c) (0,a.2)).bind fun d=>some d).bind fun f=>some (.inl (w64 (a.1 + 1),f))) (some (.inr a.2))
noncomputable def q62 (b : List Ki) (c : Int × List qa) (f : List Ki) (a : Int × List qa) : Option ((Int × List qa) ⊕ (List qa)):=
  (idx b c.1).bind fun k=>(cond (decide (a.1 < (k.Spans.length : Int))) (some (decide ((a.2.length : Int)≤400))) (some false)).bind fun l=>cond l (((idx b c.1).bind fun m=>(idx m.Spans a.1).bind fun d=>(idx b c.1).bind fun g=>(idx b c.1).bind fun h=>(q4e f b ({X:=g.At,Y:=d.Lo} : qa)).bind fun n=>(cond n ((q63 a.2 ({X:=g.At,Y:=d.Lo} : qa)).bind fun o=>some o) (some a.2)).bind fun j=>(q4e f b ({X:=h.At,Y:=d.Hi} : qa)).bind fun p=>cond p ((q63 j ({X:=h.At,Y:=d.Hi} : qa)).bind fun q=>some q) (some j)).bind fun r=>some (.inl (w64 (a.1 + 1),r))) (some (.inr a.2))
noncomputable def q97 (b : List Ki) (c : List Ki) (a : Int × List qa) : Option ((Int × List qa) ⊕ (List qa)):=
  cond (decide (a.1 < (b.length : Int))) (((loop (q62 b a c) (0,a.2)).bind fun d=>some d).bind fun f=>some (.inl (w64 (a.1 + 1),f))) (some (.inr a.2))
noncomputable def qh0 (a : List Ki) (b : List Ki) : Option (List qa):=
  (loop (q94 a b) (0,[])).bind fun c=>(loop (q97 b a) (0,c)).bind fun d=>some d
noncomputable def q8z (b : List qa) (c : qa) (a : Int × Int × Int) : Option ((Int × Int × Int) ⊕ (Int × Int)):=
  cond (decide (a.2.2 < (b.length : Int))) (((idx b a.2.2).bind fun d=>(cond (d.X == c.X) (some (decide (a.1 < 0))) (some false)).bind fun h=>(cond h (some a.2.2) (some a.1)).bind fun f=>(cond (d.Y == c.Y) (some (decide (a.2.1 < 0))) (some false)).bind fun j=>cond j (some (f,a.2.2)) (some (f,a.2.1))).bind fun g=>some (.inl (g.1,g.2,w64 (a.2.2 + 1)))) (some (.inr (a.1,a.2.1)))
noncomputable def q8y (c : List qa) (h : List Ki) (j : List Ki) (a : Int × List qi) : Option ((Int × List qi) ⊕ (List qi)):=
  cond (decide (a.1 < (c.length : Int))) (((idx c a.1).bind fun d=>(qdq h j d).bind fun f=>(loop (q8z c d) ((-1),(-1),w64 (a.1 + 1))).bind fun b=>(cond f.2.1 (some (decide (b.1 ≥ 0))) (some false)).bind fun k=>(cond k ((app 16 a.2 [({A:=a.1,B:=b.1} : qi)]).bind fun l=>some l) (some a.2)).bind fun g=>(cond f.1 (some (decide (b.2 ≥ 0))) (some false)).bind fun m=>cond m ((app 16 g [({A:=a.1,B:=b.2} : qi)]).bind fun n=>some n) (some g)).bind fun o=>some (.inl (w64 (a.1 + 1),o))) (some (.inr a.2))
noncomputable def q5v (b : List qt) : Option (Qh × Bool):=
  (qdw b true).bind fun c=>(qdw b false).bind fun d=>(qh0 c d).bind fun a=>cond (decide ((a.length : Int) > 400)) (some (({Nodes:=[],Edges:=[]} : Qh),false)) ((loop (q8y a c d) (0,[])).bind fun f=>some (({Nodes:=a,Edges:=f} : Qh),decide ((f.length : Int)≤800)))
noncomputable def q5w (b : Qh) (f : Qh) (a : Int) : Option ((Int) ⊕ ((Unit) ⊕ (Bool))):=
  cond (decide (a < (b.Nodes.length : Int))) ((idx b.Nodes a).bind fun c=>(idx f.Nodes a).bind fun d=>cond (!((c.X == d.X) && ((c.Y == d.Y) && true))) (some (.inr (.inr false))) (some (.inl (w64 (a + 1))))) (some (.inr (.inl ())))
noncomputable def q5x (b : Qh) (f : Qh) (a : Int) : Option ((Int) ⊕ ((Unit) ⊕ (Bool))):=
  cond (decide (a < (b.Edges.length : Int))) ((idx b.Edges a).bind fun c=>(idx f.Edges a).bind fun d=>cond (!((c.A == d.A) && ((c.B == d.B) && true))) (some (.inr (.inr false))) (some (.inl (w64 (a + 1))))) (some (.inr (.inl ())))
noncomputable def q1k (a : Qh) (b : Qh) : Option Bool:=
  (cond ((a.Nodes.length : Int) != (b.Nodes.length : Int)) (some true) (some ((a.Edges.length : Int) != (b.Edges.length : Int)))).bind fun d=>cond d (some false) ((loop (q5w a b) 0 : Option ((Unit) ⊕ (Bool))).bind fun f=>(match f with | .inl _=>(loop (q5x a b) 0 : Option ((Unit) ⊕ (Bool))).bind fun g=>(match g with | .inl _=>some true | .inr c=>some c) | .inr c=>some c))
noncomputable def q3b (a : Qh) : Option Int:=
  (cond (decide ((a.Nodes.length : Int) > 400)) (some true) (some (decide ((a.Edges.length : Int) > 800)))).bind fun d=>cond d (some 4) ((qdv a).bind fun b=>cond (!b.2) (some 8) ((q5v b.1).bind fun c=>(cond (!c.2) (some true) ((q1k c.1 a).bind fun f=>some (!f))).bind fun g=>cond g (some 8) (some 0)))
noncomputable def q90 (a : Qh) : Option (List qt × Int):=
  (q3b a).bind fun b=>cond (b != 0) ((q3b a).bind fun c=>some ([],c)) ((qdv a).bind fun d=>some (d.1,0))
noncomputable def q6g (b : List qt) (c : qt→Option Bool) (a : Int) : Option ((Int) ⊕ ((Unit) ⊕ (Int))):=
  cond (decide (a < (b.length : Int))) ((idx b a).bind fun d=>(c d).bind fun f=>cond f (some (.inr (.inr a))) (some (.inl (w64 (a + 1))))) (some (.inr (.inl ())))
noncomputable def qoe (a : List qt) (b : qt→Option Bool) : Option Int:=
  (loop (q6g a b) 0 : Option ((Unit) ⊕ (Int))).bind fun c=>(match c with | .inl _=>some (-1) | .inr d=>some d)
noncomputable def qe3 (a : List qt) (b : qt→Option Bool) : Option Bool:=
  (qoe a b).bind fun c=>some (decide (c ≥ 0))
noncomputable def qec (a : qt) (b : qa) : Option Bool:=
  (cond (decide ((min a.A.X a.B.X)≤b.X)) (some (decide (b.X≤(max a.A.X a.B.X)))) (some false)).bind fun c=>(cond c (some (decide ((min a.A.Y a.B.Y)≤b.Y))) (some false)).bind fun d=>(cond d (some (decide (b.Y≤(max a.A.Y a.B.Y)))) (some false)).bind fun f=>some f
noncomputable def qou (a : qt) (b : qa) : Option Bool:=
  (qec a b).bind fun c=>some c
noncomputable def qot (b : Qh) (c : qa) : Option (Bool × Int):=
  (q2m b).bind fun a=>cond (a.2 != 0) (some (false,a.2)) ((qe3 a.1 (fun d=>qou d c)).bind fun f=>some (f,0))
noncomputable def qnf (a : qt) (b : qa) : Option Bool:=
  (cond (decide (b.X ≥ (min a.A.X a.B.X))) (some (decide (b.X≤(max a.A.X a.B.X)))) (some false)).bind fun c=>(cond c (some (decide (b.Y ≥ (min a.A.Y a.B.Y)))) (some false)).bind fun d=>(cond d (some (decide (b.Y≤(max a.A.Y a.B.Y)))) (some false)).bind fun f=>some f
noncomputable def q4c (b : List qt × Int) (c : qa) (a : Int) : Option ((Int) ⊕ ((Unit) ⊕ (Bool × Int))):=
  cond (decide (a < (b.1.length : Int))) ((idx b.1 a).bind fun d=>(qnf d c).bind fun f=>cond f (some (.inr (.inr (true,0)))) (some (.inl (w64 (a + 1))))) (some (.inr (.inl ())))
noncomputable def qnc (b : Qh) (c : qa) : Option (Bool × Int):=
  (q90 b).bind fun a=>cond (a.2 != 0) (some (false,a.2)) ((loop (q4c a c) 0 : Option ((Unit) ⊕ (Bool × Int))).bind fun d=>(match d with | .inl _=>some (false,0) | .inr f=>some f))
noncomputable def q3g (b : (Bool × Bool × Bool × Bool)) (a : Int × Int) : Option ((Int × Int) ⊕ (Int)):=
  cond (decide (a.2 < 4)) (((idxA 4 [b.1,b.2.1,b.2.2.1,b.2.2.2] a.2).bind fun c=>cond c (some (w64 (a.1 + 1))) (some a.1)).bind fun d=>some (.inl (d,w64 (a.2 + 1)))) (some (.inr a.1))
noncomputable def q2l (a : Qh) (b : Int) : Option (Int × Int):=
  (q2m a).bind fun c=>cond (c.2 != 0) (some (0,c.2)) ((cond (decide (b < 0)) (some true) (some (decide (b ≥ (a.Nodes.length : Int))))).bind fun d=>cond d (some (0,6)) ((q7a c.1).bind fun f=>(idx a.Nodes b).bind fun g=>(q4t f g).bind fun h=>(loop (q3g h) (0,0)).bind fun j=>some (j,0)))
noncomputable def q8v (b : Qh) (c : Int) (a : Int × Int) : Option ((Int × Int) ⊕ (Int)):=
  cond (decide (a.2 < (b.Edges.length : Int))) (((idx b.Edges a.2).bind fun d=>(cond (d.A == c) (some true) ((idx b.Edges a.2).bind fun f=>some (f.B == c))).bind fun g=>cond g (some (w64 (a.1 + 1))) (some a.1)).bind fun h=>some (.inl (h,w64 (a.2 + 1)))) (some (.inr a.1))
noncomputable def qnb (a : Qh) (b : Int) : Option (Int × Int):=
  (q3b a).bind fun c=>cond (c != 0) ((q3b a).bind fun d=>some (0,d)) ((cond (decide (b < 0)) (some true) (some (decide (b ≥ (a.Nodes.length : Int))))).bind fun f=>cond f (some (0,6)) ((loop (q8v a b) (0,0)).bind fun g=>some (g,0)))
noncomputable def q1r (c : List qt × Int) (b : Int × Int) : Option ((Int × Int) ⊕ (Int)):=
  cond (decide (b.2 < (c.1.length : Int))) ((idx c.1 b.2).bind fun a=>some (.inl (w64 (b.1 + (w64 ((w64 ((w64 ((max a.A.X a.B.X) - (min a.A.X a.B.X))) + (max a.A.Y a.B.Y))) - (min a.A.Y a.B.Y)))),w64 (b.2 + 1)))) (some (.inr b.1))
noncomputable def q77 (b : Qh) : Option (Int × Int):=
  (q2m b).bind fun a=>cond (a.2 != 0) (some (0,a.2)) ((loop (q1r a) (0,0)).bind fun c=>some (c,0))
noncomputable def qne (a : qt) : Option Int:=
  some (w64 ((max (w64 (a.A.X - a.B.X)) (w64 (a.B.X - a.A.X))) + (max (w64 (a.A.Y - a.B.Y)) (w64 (a.B.Y - a.A.Y)))))
noncomputable def qdr (b : List qt × Int) (a : Int × Int) : Option ((Int × Int) ⊕ (Int)):=
  cond (decide (a.2 < (b.1.length : Int))) ((idx b.1 a.2).bind fun c=>(qne c).bind fun d=>some (.inl (w64 (a.1 + d),w64 (a.2 + 1)))) (some (.inr a.1))
noncomputable def qnd (b : Qh) : Option (Int × Int):=
  (q90 b).bind fun a=>cond (a.2 != 0) (some (0,a.2)) ((loop (qdr a) (0,0)).bind fun c=>some (c,0))
structure Zh where
  At : qa
  Kind : Int
  Weight : Int
  Reach : Int
  deriving DecidableEq
def Y8 (x : Zh) : List DV:=[.int .i64 x.At.X,.int .i64 x.At.Y,.int .u8 x.Kind,.int .i64 x.Weight,.int .i64 x.Reach]
structure Yt where
  At : qa
  Head : Int
  Steps : Int
  deriving DecidableEq
def q2w (x : Yt) : List DV:=[.int .i64 x.At.X,.int .i64 x.At.Y,.int .u8 x.Head,.int .i64 x.Steps]
noncomputable def q41 (a : qa) : Option Bool:=
  (cond (decide ((max (max (max a.X (w64 (0 - a.X))) a.Y) (w64 (0 - a.Y)))≤1000000)) (some (decide ((min a.X a.Y) ≥ (-1000000)))) (some false)).bind fun b=>some b
noncomputable def qct (c : List Zh) (b : Int) : Option ((Int) ⊕ ((Unit) ⊕ (Int))):=
  cond (decide (b < (c.length : Int))) ((idx c b).bind fun a=>(cond (decide (a.Kind < 1)) (some true) (some (decide (a.Kind > 4)))).bind fun d=>(cond d (some true) ((q41 a.At).bind fun f=>some (!f))).bind fun g=>(cond g (some true) (some (decide (a.Weight < 1)))).bind fun h=>(cond h (some true) (some (decide (a.Weight > 1000000)))).bind fun j=>(cond j (some true) (some (decide (a.Reach < 0)))).bind fun k=>(cond k (some true) (some (decide (a.Reach > 1000000)))).bind fun l=>cond l (some (.inr (.inr 8))) (some (.inl (w64 (b + 1))))) (some (.inr (.inl ())))
noncomputable def q55 (a : List Zh) : Option Int:=
  cond (decide ((a.length : Int) > 60)) (some 4) ((loop (qct a) 0 : Option ((Unit) ⊕ (Int))).bind fun b=>(match b with | .inl _=>some 0 | .inr c=>some c))
noncomputable def qcv (d : List Zh) (b : qa) (c : Int × Int) : Option ((Int × Int) ⊕ (Int)):=
  cond (decide (c.1 < (d.length : Int))) (((idx d c.1).bind fun a=>cond (decide ((max (max (w64 (b.X - a.At.X)) (w64 (0 - (w64 (b.X - a.At.X))))) (max (w64 (b.Y - a.At.Y)) (w64 (0 - (w64 (b.Y - a.At.Y)))))) > a.Reach)) (some c.2) ((cond (a.Kind == 1) (some 1) (cond (a.Kind == 2) (some (-1)) ((cond ((a.Kind == 3) == (decide ((max (w64 (b.Y - a.At.Y)) (w64 (0 - (w64 (b.Y - a.At.Y))))) > (max (w64 (b.X - a.At.X)) (w64 (0 - (w64 (b.X - a.At.X)))))))) (some ((max (w64 (b.X - a.At.X)) (w64 (0 - (w64 (b.X - a.At.X))))) != (max (w64 (b.Y - a.At.Y)) (w64 (0 - (w64 (b.Y - a.At.Y))))))) (some false)).bind fun f=>cond f (some 1) (cond ((max (w64 (b.X - a.At.X)) (w64 (0 - (w64 (b.X - a.At.X))))) != (max (w64 (b.Y - a.At.Y)) (w64 (0 - (w64 (b.Y - a.At.Y)))))) (some (-1)) (some 0))))).bind fun g=>(some ()).bind fun _=>some (w64 (c.2 + (w64 ((w64 (g * a.Weight)) * (w64 ((w64 (a.Reach + 1)) - (max (max (w64 (b.X - a.At.X)) (w64 (0 - (w64 (b.X - a.At.X))))) (max (w64 (b.Y - a.At.Y)) (w64 (0 - (w64 (b.Y - a.At.Y)))))))))))))).bind fun h=>some (.inl (w64 (c.1 + 1),h))) (some (.inr c.2))
noncomputable def qcu (a : List Zh) (b : qa) : Option Int:=
  (some ()).bind fun _=>((loop (qcv a b) (0,0)).bind fun c=>some c).bind fun d=>some d
noncomputable def q7x (b : List Zh) (c : qa) : Option Int:=
  (qcu b c).bind fun a=>cond (decide (a > 0)) (some 0) (cond (decide (a < 0)) (some 1) (some 2))
noncomputable def q56 (g : Int) (h : List Zh) (a : Int × Int × Int × Int × List qa) : Option ((Int × Int × Int × Int × List qa) ⊕ ((List qa) ⊕ (List qa × Int))):=
  cond (decide (a.2.1 < g)) ((q7x h ({X:=a.2.2.1,Y:=a.2.2.2.1} : qa)).bind fun f=>(cond (decide (f < 2)) (some ((Int.tmod a.1 2) != f)) (some false)).bind fun j=>(cond j (some (Int.tmod (IntKind.wrap .u8 (a.1 + 1)) 4)) (some a.1)).bind fun b=>(idxA 4 [({X:=1,Y:=0} : qa),({X:=0,Y:=1} : qa),({X:=(-1),Y:=0} : qa),({X:=0,Y:=(-1)} : qa)] b).bind fun c=>(idxA 4 [({X:=1,Y:=0} : qa),({X:=0,Y:=1} : qa),({X:=(-1),Y:=0} : qa),({X:=0,Y:=(-1)} : qa)] b).bind fun d=>(q41 ({X:=w64 (a.2.2.1 + c.X),Y:=w64 (a.2.2.2.1 + d.Y)} : qa)).bind fun k=>cond (!k) (some (.inr (.inr ([],16)))) ((app 16 a.2.2.2.2 [({X:=w64 (a.2.2.1 + c.X),Y:=w64 (a.2.2.2.1 + d.Y)} : qa)]).bind fun l=>some (.inl (b,w64 (a.2.1 + 1),w64 (a.2.2.1 + c.X),w64 (a.2.2.2.1 + d.Y),l)))) (some (.inr (.inl a.2.2.2.2)))
noncomputable def q40 (c : List Zh) (a : qa) (d : Int) (b : Int) : Option (List qa × Int):=
  (q55 c).bind fun f=>cond (f != 0) (some ([],f)) ((q41 a).bind fun g=>(cond (!g) (some true) (some (decide (d > 3)))).bind fun h=>(cond h (some true) (some (decide (b < 0)))).bind fun j=>(cond j (some true) (some (decide (b > 500)))).bind fun k=>cond k (some ([],2)) ((loop (q56 b c) (d,0,a.X,a.Y,[a]) : Option ((List qa) ⊕ (List qa × Int))).bind fun l=>(match l with | .inl m=>some (m,0) | .inr n=>some n)))
noncomputable def q2h (b : List qa) (c : qa) (a : Int) : Option ((Int) ⊕ ((Unit) ⊕ (Int))):=
  cond (decide (a < (b.length : Int))) ((idx b a).bind fun d=>cond ((c.X == d.X) && ((c.Y == d.Y) && true)) (some (.inr (.inr a))) (some (.inl (w64 (a + 1))))) (some (.inr (.inl ())))
noncomputable def q9g (a : List qa) (b : qa) : Option Int:=
  (loop (q2h a b) 0 : Option ((Unit) ⊕ (Int))).bind fun c=>(match c with | .inl _=>some (-1) | .inr d=>some d)
noncomputable def Zt (c : Yt) (j : List Zh) (a : Int × Int × (List (qa × Bool)) × List qt × Int × Int) : Option ((Int × Int × (List (qa × Bool)) × List qt × Int × Int) ⊕ (((List (qa × Bool)) × List qt) ⊕ (Int × (List (qa × Bool)) × List qt))):=
  cond (decide (a.2.1 < ((c).Steps))) ((q40 j ({X:=a.2.2.2.2.1,Y:=a.2.2.2.2.2} : qa) a.1 1).bind fun d=>cond (d.2 != 0) (some (.inr (.inr (d.2,a.2.2.1,[])))) ((idx d.1 1).bind fun b=>(q9g [({X:=1,Y:=0} : qa),({X:=0,Y:=1} : qa),({X:=(-1),Y:=0} : qa),({X:=0,Y:=(-1)} : qa)] ({X:=w64 (b.X - a.2.2.2.2.1),Y:=w64 (b.Y - a.2.2.2.2.2)} : qa)).bind fun f=>(cond (decide (a.2.1 > 0)) (some ((IntKind.wrap .u8 f) == a.1)) (some false)).bind fun k=>(cond k ((idx a.2.2.2.1 (w64 ((a.2.2.2.1.length : Int) - 1))).bind fun l=>some (.inl (a.2.2.2.1.set (w64 ((a.2.2.2.1.length : Int) - 1)).toNat ({A:=l.A,B:=b} : qt)))) ((app 32 a.2.2.2.1 [({A:=({X:=a.2.2.2.2.1,Y:=a.2.2.2.2.2} : qa),B:=b} : qt)]).bind fun g=>cond (decide ((g.length : Int) > 400)) (some (.inr (4,a.2.2.1,[]))) (some (.inl g))) : Option ((List qt) ⊕ (Int × (List (qa × Bool)) × List qt))).bind fun m=>(match m with | .inl h=>(cond (K6 false b a.2.2.1) (some true) (some ((b.X == (((c).At).X)) && ((b.Y == (((c).At).Y)) && true)))).bind fun n=>cond n (some (.inr (.inl (K9 b true (K9 ({X:=a.2.2.2.2.1,Y:=a.2.2.2.2.2} : qa) true a.2.2.1),h)))) (some (.inl (IntKind.wrap .u8 f,w64 (a.2.1 + 1),K9 b true (K9 ({X:=a.2.2.2.2.1,Y:=a.2.2.2.2.2} : qa) true a.2.2.1),h,b.X,b.Y))) | .inr o=>some (.inr (.inr o))))) (some (.inr (.inl (a.2.2.1,a.2.2.2.1))))
noncomputable def q4v (c : List Zh) (a : Yt) (d : List qt) (f : List (qa × Bool)) : Option (Int × (List (qa × Bool)) × List qt):=
  (loop (Zt a c) ((a).Head,0,f,d,((a).At).X,((a).At).Y) : Option (((List (qa × Bool)) × List qt) ⊕ (Int × (List (qa × Bool)) × List qt))).bind fun g=>(match g with | .inl b=>some (0,b.1,b.2) | .inr h=>some h)
noncomputable def q78 (b : List qt) (a : Int) : Option ((Int) ⊕ ((Unit) ⊕ (Qh × Int))):=
  cond (decide (a < (b.length : Int))) ((idx b a).bind fun c=>(q7c c).bind fun d=>cond (!d) (some (.inr (.inr (({Nodes:=[],Edges:=[]} : Qh),8)))) (some (.inl (w64 (a + 1))))) (some (.inr (.inl ())))
noncomputable def Jd (a : List qt) : Option (Qh × Int):=
  cond (decide ((a.length : Int) > 400)) (some (({Nodes:=[],Edges:=[]} : Qh),4)) ((loop (q78 a) 0 : Option ((Unit) ⊕ (Qh × Int))).bind fun c=>(match c with | .inl _=>(q3i a).bind fun b=>cond (!b.2) (some (({Nodes:=[],Edges:=[]} : Qh),4)) (some (b.1,0)) | .inr d=>some d))
noncomputable def q76 (c : List Yt) (b : Int) : Option ((Int) ⊕ ((Unit) ⊕ (Qh × Int))):=
  cond (decide (b < (c.length : Int))) ((idx c b).bind fun a=>(q4s a.At).bind fun d=>(cond (!d) (some true) (some (decide (a.Head > 3)))).bind fun f=>(cond f (some true) (some (decide (a.Steps < 0)))).bind fun g=>(cond g (some true) (some (decide (a.Steps > 500)))).bind fun h=>cond h (some (.inr (.inr (({Nodes:=[],Edges:=[]} : Qh),8)))) (some (.inl (w64 (b + 1))))) (some (.inr (.inl ())))
noncomputable def q3h (c : List Yt) (d : List Zh) (a : Int × List qt × (List (qa × Bool))) : Option ((Int × List qt × (List (qa × Bool))) ⊕ ((List qt) ⊕ (Qh × Int))):=
  cond (decide (a.1 < (c.length : Int))) ((idx c a.1).bind fun f=>(q4v d f a.2.1 a.2.2).bind fun b=>cond (b.1 != 0) (some (.inr (.inr (({Nodes:=[],Edges:=[]} : Qh),b.1)))) (some (.inl (w64 (a.1 + 1),b.2.2,b.2.1)))) (some (.inr (.inl a.2.1)))
noncomputable def qbt (c : List Zh) (a : List Yt) : Option (Qh × Int):=
  (q55 c).bind fun d=>cond (d != 0) (some (({Nodes:=[],Edges:=[]} : Qh),d)) (cond (decide ((a.length : Int) > 30)) (some (({Nodes:=[],Edges:=[]} : Qh),4)) ((loop (q76 a) 0 : Option ((Unit) ⊕ (Qh × Int))).bind fun g=>(match g with | .inl _=>(loop (q3h a c) (0,[],[]) : Option ((List qt) ⊕ (Qh × Int))).bind fun h=>(match h with | .inl j=>(Jd j).bind fun f=>some (f.1,f.2) | .inr b=>some b) | .inr b=>some b)))
noncomputable def qdt (b : List qt) (a : Int) : Option ((Int) ⊕ ((Unit) ⊕ (Qh × Int))):=
  cond (decide (a < (b.length : Int))) ((idx b a).bind fun c=>(q4d c).bind fun d=>cond (!d) (some (.inr (.inr (({Nodes:=[],Edges:=[]} : Qh),8)))) (some (.inl (w64 (a + 1))))) (some (.inr (.inl ())))
noncomputable def q8x (a : List qt) : Option (Qh × Int):=
  cond (decide ((a.length : Int) > 400)) (some (({Nodes:=[],Edges:=[]} : Qh),4)) ((loop (qdt a) 0 : Option ((Unit) ⊕ (Qh × Int))).bind fun c=>(match c with | .inl _=>(q5v a).bind fun b=>cond (!b.2) (some (({Nodes:=[],Edges:=[]} : Qh),4)) (some (b.1,0)) | .inr d=>some d))
noncomputable def q34 (b : List qt) (a : Int) : Option ((Int) ⊕ ((Unit) ⊕ (Bool))):=
  cond (decide (a < (b.length : Int))) ((idx b a).bind fun c=>(q4d c).bind fun d=>cond (!d) (some (.inr (.inr false))) (some (.inl (w64 (a + 1))))) (some (.inr (.inl ())))
noncomputable def q86 (a : List qt) : Option Bool:=
  (loop (q34 a) 0 : Option ((Unit) ⊕ (Bool))).bind fun b=>(match b with | .inl _=>some (decide ((a.length : Int)≤24)) | .inr c=>some c)
noncomputable def Ya (a : Int) (b : Int) : Option qa:=
  some ({X:=a,Y:=b} : qa)
noncomputable def q1i (a : Int) (b : Int) (c : Int) (d : Int) : Option qt:=
  (Ya a b).bind fun f=>(Ya c d).bind fun g=>some ({A:=f,B:=g} : qt)
noncomputable def q5u (b : List qa) (c : qa) (a : Int) : Option ((Int) ⊕ ((Unit) ⊕ (Int))):=
  cond (decide (a < (b.length : Int))) ((idx b a).bind fun d=>cond ((d.X == c.X) && ((d.Y == c.Y) && true)) (some (.inr (.inr a))) (some (.inl (w64 (a + 1))))) (some (.inr (.inl ())))
noncomputable def q8w (a : List qa) (b : qa) : Option Int:=
  (loop (q5u a b) 0 : Option ((Unit) ⊕ (Int))).bind fun c=>(match c with | .inl _=>some (-1) | .inr d=>some d)
noncomputable def q5d (a : Qh) (c : List qt) : Option Bool:=
  (Jd c).bind fun b=>(cond (b.2 == 0) ((q1k b.1 a).bind fun d=>some d) (some false)).bind fun f=>(cond f ((U8 a).bind fun g=>some (g == 0)) (some false)).bind fun h=>some h
noncomputable def q46 : Option Bool:=
  ((Ya 0 0).bind fun g=>(Ya 2 0).bind fun h=>(Ya 2 3).bind fun j=>(Ya 4 0).bind fun k=>some [g,h,j,k]).bind fun l=>(q2l ({Nodes:=l,Edges:=[({A:=0,B:=1} : qi),({A:=1,B:=2} : qi),({A:=1,B:=3} : qi)]} : Qh) 1).bind fun b=>((Ya 0 0).bind fun m=>(Ya 2 0).bind fun n=>(Ya 2 3).bind fun o=>(Ya 4 0).bind fun p=>some [m,n,o,p]).bind fun q=>(q77 ({Nodes:=q,Edges:=[({A:=0,B:=1} : qi),({A:=1,B:=2} : qi),({A:=1,B:=3} : qi)]} : Qh)).bind fun c=>(q1i 0 0 4 0).bind fun r=>(q1i 2 3 2 0).bind fun s=>(q1i 2 (-1) 2 0).bind fun t=>(Jd [r,s,t]).bind fun a=>(Ya 2 0).bind fun u=>(q8w a.1.Nodes u).bind fun v=>(q2l a.1 v).bind fun d=>(Ya 0 0).bind fun w=>(Ya 4 0).bind fun x=>(Ya 2 2).bind fun y=>(qbt [] [({At:=({X:=0,Y:=0} : qa),Head:=0,Steps:=4} : Yt),({At:=y,Head:=3,Steps:=9} : Yt)]).bind fun f=>(Ya 0 0).bind fun z=>(Ya 2 0).bind fun aa=>(Ya 2 2).bind fun ab=>(Ya 4 0).bind fun ac=>((Ya 0 0).bind fun ad=>(Ya 2 0).bind fun ae=>(Ya 2 3).bind fun af=>(Ya 4 0).bind fun ag=>some [ad,ae,af,ag]).bind fun _=>((Ya 0 0).bind fun ah=>(Ya 2 0).bind fun ai=>(Ya 2 3).bind fun aj=>(Ya 4 0).bind fun ak=>some [ah,ai,aj,ak]).bind fun al=>(q1i 0 0 4 0).bind fun am=>(q1i 2 0 2 3).bind fun an=>(q5d ({Nodes:=al,Edges:=[({A:=0,B:=1} : qi),({A:=1,B:=2} : qi),({A:=1,B:=3} : qi)]} : Qh) [am,an]).bind fun ao=>(cond ao (some (b.2 == 0)) (some false)).bind fun ap=>(cond ap (some (b.1 == 3)) (some false)).bind fun aq=>(cond aq (some (c.2 == 0)) (some false)).bind fun ar=>(cond ar (some (c.1 == 7)) (some false)).bind fun au=>(cond au (some (a.2 == 0)) (some false)).bind fun av=>(cond av (some (d.2 == 0)) (some false)).bind fun aw=>(cond aw (some (d.1 == 4)) (some false)).bind fun ax=>cond ax ((q1i 0 0 2 0).bind fun ay=>(q1i 2 0 4 0).bind fun az=>(q5d ({Nodes:=[w,x],Edges:=[({A:=0,B:=1} : qi)]} : Qh) [ay,az]).bind fun ba=>(cond ba (some (f.2 == 0)) (some false)).bind fun bb=>(cond bb ((q1k f.1 ({Nodes:=[z,aa,ab,ac],Edges:=[({A:=0,B:=1} : qi),({A:=1,B:=2} : qi),({A:=1,B:=3} : qi)]} : Qh)).bind fun bc=>some bc) (some false)).bind fun bd=>some bd) (some false)
noncomputable def q33 (b : List qt) (d : Int) (a : Int × List qt) : Option ((Int × List qt) ⊕ (List qt)):=
  cond (decide (a.1 < (b.length : Int))) ((q6b d (b.length : Int)).bind fun f=>(q6b (w64 (a.1 + (max f 0))) (b.length : Int)).bind fun g=>(idx b g).bind fun c=>(app 32 a.2 [({A:=c.B,B:=c.A} : qt)]).bind fun h=>some (.inl (w64 (a.1 + 1),h))) (some (.inr a.2))
noncomputable def q85 (b : List qt) (g : Int) : Option Bool:=
  (q86 b).bind fun h=>cond (!h) (q46.bind fun j=>some j) ((Jd b).bind fun a=>cond (a.2 != 0) (some false) ((q2m a.1).bind fun c=>(cond (c.2 != 0) (some true) (some ((c.1.length : Int) != (a.1.Edges.length : Int)))).bind fun k=>(cond k (some true) ((U8 a.1).bind fun l=>some (l != 0))).bind fun m=>cond m (some false) ((Jd c.1).bind fun d=>(loop (q33 b g) (0,[])).bind fun n=>(Jd n).bind fun f=>(cond (d.2 == 0) ((q1k d.1 a.1).bind fun o=>some o) (some false)).bind fun p=>(cond p (some (f.2 == 0)) (some false)).bind fun q=>(cond q ((q1k f.1 a.1).bind fun r=>some r) (some false)).bind fun s=>(cond s (q46.bind fun t=>some t) (some false)).bind fun u=>some u)))
noncomputable def q4n (b : List qj) (a : Int) : Option ((Int) ⊕ ((Unit) ⊕ (Int))):=
  cond (decide (a < (b.length : Int))) ((idx b a).bind fun c=>(q3f c).bind fun d=>(cond (!d) (some true) ((cond (decide (a > 0)) ((idx b (w64 (a - 1))).bind fun f=>some (decide (f.Hi ≥ c.Lo))) (some false)).bind fun g=>some g)).bind fun h=>cond h (some (.inr (.inr 8))) (some (.inl (w64 (a + 1))))) (some (.inr (.inl ())))
noncomputable def qe7 (a : List qj) : Option Int:=
  cond (decide ((a.length : Int) > 400)) (some 4) ((loop (q4n a) 0 : Option ((Unit) ⊕ (Int))).bind fun b=>(match b with | .inl _=>some 0 | .inr c=>some c))
noncomputable def qn9 (a : qj) : Option Bool:=
  (cond (decide (a.Lo < a.Hi)) (some (decide (a.Lo ≥ (-1000000)))) (some false)).bind fun b=>(cond b (some (decide (a.Hi≤1000000))) (some false)).bind fun c=>some c
noncomputable def qgw (b : List qj) (a : Int) : Option ((Int) ⊕ ((Unit) ⊕ (Int))):=
  cond (decide (a < (b.length : Int))) ((idx b a).bind fun c=>(qn9 c).bind fun d=>(cond (!d) (some true) ((cond (decide (a > 0)) ((idx b (w64 (a - 1))).bind fun f=>(idx b a).bind fun g=>some (decide (f.Hi ≥ g.Lo))) (some false)).bind fun h=>some h)).bind fun j=>cond j (some (.inr (.inr 8))) (some (.inl (w64 (a + 1))))) (some (.inr (.inl ())))
noncomputable def qdm (a : List qj) : Option Int:=
  cond (decide ((a.length : Int) > 400)) (some 4) ((loop (qgw a) 0 : Option ((Unit) ⊕ (Int))).bind fun b=>(match b with | .inl _=>some 0 | .inr c=>some c))
noncomputable def q8p (b : List qj) (a : Int × List Int) : Option ((Int × List Int) ⊕ (List Int)):=
  cond (decide (a.1 < (b.length : Int))) ((idx b a.1).bind fun c=>(idx b a.1).bind fun d=>(app 8 a.2 [c.Lo,d.Hi]).bind fun f=>some (.inl (w64 (a.1 + 1),f))) (some (.inr a.2))
noncomputable def qn6 (b : List qj) (a : Int × List Int) : Option ((Int × List Int) ⊕ (List Int)):=
  cond (decide (a.1 < (b.length : Int))) ((idx b a.1).bind fun c=>(idx b a.1).bind fun d=>(app 8 a.2 [c.Lo,d.Hi]).bind fun f=>some (.inl (w64 (a.1 + 1),f))) (some (.inr a.2))
noncomputable def qgx (a : List qj) (b : List qj) : Option (List Int):=
  (loop (q8p a) (0,[])).bind fun c=>(loop (qn6 b) (0,c)).bind fun d=>(qdp d).bind fun f=>some f
noncomputable def q8q (b : List qj) (c : Int) (a : Int) : Option ((Int) ⊕ ((Unit) ⊕ (Bool))):=
  cond (decide (a < (b.length : Int))) ((idx b a).bind fun d=>(cond (decide (d.Lo≤c)) ((idx b a).bind fun f=>some (decide (c < f.Hi))) (some false)).bind fun g=>cond g (some (.inr (.inr true))) (some (.inl (w64 (a + 1))))) (some (.inr (.inl ())))
noncomputable def qdn (a : List qj) (b : Int) : Option Bool:=
  (loop (q8q a b) 0 : Option ((Unit) ⊕ (Bool))).bind fun c=>(match c with | .inl _=>some false | .inr d=>some d)
noncomputable def qgy (c : Int) (a : Bool) (b : Bool) : Option Bool:=
  cond (c == 1) ((cond a (some b) (some false)).bind fun d=>some d) (cond (c == 2) ((cond a (some true) (some b)).bind fun f=>some f) ((cond a (some (!b)) (some false)).bind fun g=>some g))
noncomputable def q8o (b : List Int) (c : List Bool) (a : Int × List qj) : Option ((Int × List qj) ⊕ (List qj)):=
  cond (decide ((w64 (a.1 + 1)) < (b.length : Int))) (((idx c a.1).bind fun d=>cond (!d) (some a.2) ((cond (decide ((a.2.length : Int) > 0)) ((idx a.2 (w64 ((a.2.length : Int) - 1))).bind fun f=>(idx b a.1).bind fun g=>some (f.Hi == g)) (some false)).bind fun h=>cond h ((idx b (w64 (a.1 + 1))).bind fun j=>(idx a.2 (w64 ((a.2.length : Int) - 1))).bind fun k=>some (a.2.set (w64 ((a.2.length : Int) - 1)).toNat ({Lo:=k.Lo,Hi:=j} : qj))) ((idx b a.1).bind fun l=>(idx b (w64 (a.1 + 1))).bind fun m=>(app 16 a.2 [({Lo:=l,Hi:=m} : qj)]).bind fun n=>some n))).bind fun o=>some (.inl (w64 (a.1 + 1),o))) (some (.inr a.2))
noncomputable def qgv (a : List Int) (b : List Bool) : Option (List qj):=
  (loop (q8o a b) (0,[])).bind fun c=>some c
noncomputable def q8r (b : List Int) (c : List qj) (d : List qj) (f : Int) (a : Int × List Bool) : Option ((Int × List Bool) ⊕ (List Bool)):=
  cond (decide (a.1 < (b.length : Int))) ((idx b a.1).bind fun g=>(qdn c g).bind fun h=>(idx b a.1).bind fun j=>(qdn d j).bind fun k=>(qgy f h k).bind fun l=>(app 1 a.2 [l]).bind fun m=>some (.inl (w64 (a.1 + 1),m))) (some (.inr a.2))
noncomputable def qdo (d : Int) (a : List qj) (b : List qj) : Option (List qj):=
  (qgx a b).bind fun c=>(loop (q8r c a b d) (0,[])).bind fun f=>(qgv c f).bind fun g=>some g
noncomputable def qbk (b : List qj) (a : Int × Int) : Option ((Int × Int) ⊕ (Int)):=
  cond (decide (a.2 < (b.length : Int))) ((idx b a.2).bind fun c=>some (.inl (w64 (a.1 + (w64 (c.Hi - c.Lo))),w64 (a.2 + 1)))) (some (.inr a.1))
noncomputable def qom (a : List qj) : Option (Int × Int):=
  (qe7 a).bind fun b=>cond (b != 0) (some (0,b)) ((loop (qbk a) (0,0)).bind fun c=>some (c,0))
noncomputable def q8s (b : List qj) (a : Int × Int) : Option ((Int × Int) ⊕ (Int)):=
  cond (decide (a.2 < (b.length : Int))) ((idx b a.2).bind fun c=>(idx b a.2).bind fun d=>some (.inl (w64 ((w64 (a.1 + c.Hi)) - d.Lo),w64 (a.2 + 1)))) (some (.inr a.1))
noncomputable def qn8 (a : List qj) : Option (Int × Int):=
  (qdm a).bind fun b=>cond (b != 0) ((qdm a).bind fun c=>some (0,c)) ((loop (q8s a) (0,0)).bind fun d=>some (d,0))
structure qca where
  X : Int
  Y : Int
  Z : Int
  deriving DecidableEq
structure qpq where
  Turn : Int
  At : qca
  deriving DecidableEq
structure q13w where
  Frame : qpq
  Size : qca
  deriving DecidableEq
structure q13v where
  t_ : Int
  at_ : qca
  flat_ : qca
  deriving DecidableEq
end Go.Sh
