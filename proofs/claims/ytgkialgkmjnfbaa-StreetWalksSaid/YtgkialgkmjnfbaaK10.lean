/- PX -/
import Derived.Test.YtgkialgkmjnfbaaK9
namespace Go.Sh
open Go Go.Am
structure qb where
  X : Int
  Y : Int
  deriving DecidableEq
structure K5 where
  At : qb
  Kind : Int
  Weight : Int
  Reach : Int
  deriving DecidableEq
def Kz (x : K5) : List DV:=[.int .i64 x.At.X,.int .i64 x.At.Y,.int .u8 x.Kind,.int .i64 x.Weight,.int .i64 x.Reach]
structure Ku where
  At : qb
  Head : Int
  Steps : Int
  deriving DecidableEq
noncomputable def q68 (a : qb) : Option Bool:=
  (cond (decide (a.X ≥ (-1000000))) (some (decide (a.X≤1000000))) (some false)).bind fun b=>(cond b (some (decide (a.Y ≥ (-1000000)))) (some false)).bind fun c=>(cond c (some (decide (a.Y≤1000000))) (some false)).bind fun d=>some d
noncomputable def q8y (b : List K5) (a : Int) : Option ((Int) ⊕ ((Unit) ⊕ (Int))):=
  cond (decide (a < (b.length : Int))) ((idx b a).bind fun c=>(cond (decide (c.Kind < 1)) (some true) ((idx b a).bind fun d=>some (decide (d.Kind > 4)))).bind fun f=>(cond f (some true) ((idx b a).bind fun g=>(q68 g.At).bind fun h=>some (!h))).bind fun j=>(cond j (some true) ((idx b a).bind fun k=>some (decide (k.Weight < 1)))).bind fun l=>(cond l (some true) ((idx b a).bind fun m=>some (decide (m.Weight > 1000000)))).bind fun n=>(cond n (some true) ((idx b a).bind fun o=>some (decide (o.Reach < 0)))).bind fun p=>(cond p (some true) ((idx b a).bind fun q=>some (decide (q.Reach > 1000000)))).bind fun r=>cond r (some (.inr (.inr 8))) (some (.inl (w64 (a + 1))))) (some (.inr (.inl ())))
noncomputable def q8x (a : List K5) : Option Int:=
  cond (decide ((a.length : Int) > 60)) (some 4) ((loop (q8y a) 0 : Option ((Unit) ⊕ (Int))).bind fun b=>(match b with | .inl _=>some 0 | .inr c=>some c))
noncomputable def Yb (a : Int) (b : Int) : Option qb:=
  some ({X:=a,Y:=b} : qb)
def qs (x : qb) : List DV:=[.int .i64 x.X,.int .i64 x.Y]
structure qk where
  A : Int
  B : Int
  deriving DecidableEq
def Q5 (x : qk) : List DV:=[.int .i64 x.A,.int .i64 x.B]
structure Qq where
  Nodes : List qb
  Edges : List qk
  deriving DecidableEq
structure qt where
  A : qb
  B : qb
  deriving DecidableEq
noncomputable def q52 (a : qb) : Option Bool:=
  (cond (decide ((min a.X a.Y) ≥ (-1000000))) (some (decide ((max a.X a.Y)≤1000000))) (some false)).bind fun b=>some b
noncomputable def q7g (a : qt) : Option Bool:=
  (q52 a.A).bind fun b=>(cond b ((q52 a.B).bind fun c=>some c) (some false)).bind fun d=>(cond d (some (!((a.A.X == a.B.X) == (a.A.Y == a.B.Y)))) (some false)).bind fun f=>some f
def Y5 (x : qt) : List DV:=[.int .i64 x.A.X,.int .i64 x.A.Y,.int .i64 x.B.X,.int .i64 x.B.Y]
noncomputable def q32 (b : Qq) (c : Int × List qt) : Option ((Int × List qt) ⊕ ((List qt) ⊕ (List qt × Bool))):=
  cond (decide (c.1 < (b.Edges.length : Int))) ((idx b.Edges c.1).bind fun a=>(cond (decide ((min a.A a.B) < 0)) (some true) (some (decide ((max a.A a.B) ≥ (b.Nodes.length : Int))))).bind fun g=>cond g (some (.inr (.inr ([],false)))) ((idx b.Nodes a.A).bind fun d=>(idx b.Nodes a.B).bind fun f=>(q7g ({A:=d,B:=f} : qt)).bind fun h=>cond (!h) (some (.inr (.inr ([],false)))) ((app 32 c.2 [({A:=d,B:=f} : qt)]).bind fun j=>some (.inl (w64 (c.1 + 1),j))))) (some (.inr (.inl c.2)))
noncomputable def q7e (a : Qq) : Option (List qt × Bool):=
  (loop (q32 a) (0,[]) : Option ((List qt) ⊕ (List qt × Bool))).bind fun b=>(match b with | .inl c=>some (c,true) | .inr d=>some d)
structure qm where
  Lo : Int
  Hi : Int
  deriving DecidableEq
structure Ya where
  rows_ : List (Int × List qm)
  columns_ : List (Int × List qm)
  deriving DecidableEq
def Qc (x : qm) : List DV:=[.int .i64 x.Lo,.int .i64 x.Hi]
noncomputable def q3r (b : List qm) (c : qm→Option Bool) (a : Int) : Option ((Int) ⊕ ((Unit) ⊕ (Int))):=
  cond (decide (a < (b.length : Int))) ((idx b a).bind fun d=>(c d).bind fun f=>cond f (some (.inr (.inr a))) (some (.inl (w64 (a + 1))))) (some (.inr (.inl ())))
noncomputable def q94 (a : List qm) (b : qm→Option Bool) : Option Int:=
  (loop (q3r a b) 0 : Option ((Unit) ⊕ (Int))).bind fun c=>(match c with | .inl _=>some (-1) | .inr d=>some d)
noncomputable def q6i (a : List qm) (b : qm→Option Bool) : Option Bool:=
  (q94 a b).bind fun c=>some (decide (c ≥ 0))
noncomputable def q3s (a : qm) : Option Bool:=
  (cond (decide (a.Lo < a.Hi)) (some (decide (a.Lo ≥ (-1000000)))) (some false)).bind fun b=>(cond b (some (decide (a.Hi≤1000000))) (some false)).bind fun c=>some c
noncomputable def qdm (a : qm) : Option Bool:=
  (q3s a).bind fun b=>some (!b)
def q2b (x : List qm) : List DV:=[.sl 2 (x.map Qc)]
structure qo where
  at_ : Int
  list_ : Int
  by_ : Int
  deriving DecidableEq
def Qe (x : qo) : List DV:=[.int .i64 x.at_,.int .i64 x.list_,.int .i64 x.by_]
noncomputable def qbb (a : qo) (b : qo) : Option Int:=
  some (w64 (a.at_ - b.at_))
def qbh : ByteArray:=⟨#[0,1,2,2,3,3,3,3,4,4,4,4,4,4,4,4,5,5,5,5,5,5,5,5,5,5,5,5,5,5,5,5,6,6,6,6,6,6,6,6,6,6,6,6,6,6,6,6,6,6,6,6,6,6,6,6,6,6,6,6,6,6,6,6,7,7,7,7,7,7,7,7,7,7,7,7,7,7,7,7,7,7,7,7,7,7,7,7,7,7,7,7,7,7,7,7,7,7,7,7,7,7,7,7,7,7,7,7,7,7,7,7,7,7,7,7,7,7,7,7,7,7,7,7,7,7,7,7,8,8,8,8,8,8,8,8,8,8,8,8,8,8,8,8,8,8,8,8,8,8,8,8,8,8,8,8,8,8,8,8,8,8,8,8,8,8,8,8,8,8,8,8,8,8,8,8,8,8,8,8,8,8,8,8,8,8,8,8,8,8,8,8,8,8,8,8,8,8,8,8,8,8,8,8,8,8,8,8,8,8,8,8,8,8,8,8,8,8,8,8,8,8,8,8,8,8,8,8,8,8,8,8,8,8,8,8,8,8,8,8,8,8,8,8,8,8,8,8,8,8,8,8,8,8,8,8]⟩
noncomputable def q2p (c : Int) : Option Int:=
  (cond (decide (c ≥ 4294967296)) (some (Int.fdiv c (2 ^ 32),32)) (some (c,0))).bind fun a=>(cond (decide (a.1 ≥ 65536)) (some (Int.fdiv a.1 (2 ^ 16),w64 (a.2 + 16))) (some (a.1,a.2))).bind fun b=>(cond (decide (b.1 ≥ 256)) (some (Int.fdiv b.1 (2 ^ 8),w64 (b.2 + 8))) (some (b.1,b.2))).bind fun d=>(q51 qbh (IntKind.wrap .u8 d.1)).bind fun f=>some (w64 (d.2 + (w64 f)))
noncomputable def Uh (a : Int) : Option Int:=
  (q2p a).bind fun b=>some b
noncomputable def q9w (c : Int) (d : qo→qo→Option Int) (a : Int × List qo) : Option ((Int × List qo) ⊕ (List qo)):=
  (cond (decide (a.1 > c)) ((idx a.2 a.1).bind fun f=>(idx a.2 (w64 (a.1 - 1))).bind fun g=>(d f g).bind fun h=>some (decide (h < 0))) (some false)).bind fun j=>cond j ((idx a.2 (w64 (a.1 - 1))).bind fun b=>(idx a.2 a.1).bind fun k=>(idx a.2 a.1).bind fun _=>(idx (a.2.set a.1.toNat b) (w64 (a.1 - 1))).bind fun _=>some (.inl (w64 (a.1 - 1),(a.2.set a.1.toNat b).set (w64 (a.1 - 1)).toNat k))) (some (.inr a.2))
noncomputable def q9v (b : Int) (c : Int) (d : qo→qo→Option Int) (a : Int × List qo) : Option ((Int × List qo) ⊕ (List qo)):=
  cond (decide (a.1 < b)) (((loop (q9w c d) (a.1,a.2)).bind fun f=>some f).bind fun g=>some (.inl (w64 (a.1 + 1),g))) (some (.inr a.2))
noncomputable def q9u (b : qo→qo→Option Int) (c : List qo) (a : Int) (d : Int) : Option (List qo):=
  (loop (q9v d a b) (w64 (a + 1),c)).bind fun f=>some f
noncomputable def qb8 (d : Int) (b : Int) (f : qo→qo→Option Int) (a : Int × List qo) : Option ((Int × List qo) ⊕ (List qo)):=
  cond (decide ((w64 ((w64 (2 * a.1)) + 1)) ≥ d)) (some (.inr a.2)) ((cond (decide ((w64 ((w64 ((w64 (2 * a.1)) + 1)) + 1)) < d)) ((idx a.2 (w64 (b + (w64 ((w64 (2 * a.1)) + 1))))).bind fun h=>(idx a.2 (w64 ((w64 (b + (w64 ((w64 (2 * a.1)) + 1)))) + 1))).bind fun j=>(f h j).bind fun k=>some (decide (k < 0))) (some false)).bind fun l=>(cond l (some (w64 ((w64 ((w64 (2 * a.1)) + 1)) + 1))) (some (w64 ((w64 (2 * a.1)) + 1)))).bind fun c=>(idx a.2 (w64 (b + a.1))).bind fun m=>(idx a.2 (w64 (b + c))).bind fun n=>(f m n).bind fun o=>cond (!(decide (o < 0))) (some (.inr a.2)) ((idx a.2 (w64 (b + c))).bind fun g=>(idx a.2 (w64 (b + a.1))).bind fun p=>(idx a.2 (w64 (b + a.1))).bind fun _=>(idx (a.2.set (w64 (b + a.1)).toNat g) (w64 (b + c))).bind fun _=>some (.inl (c,(a.2.set (w64 (b + a.1)).toNat g).set (w64 (b + c)).toNat p))))
noncomputable def q78 (a : qo→qo→Option Int) (b : List qo) (c : Int) (d : Int) (f : Int) : Option (List qo):=
  (loop (qb8 d f a) (c,b)).bind fun g=>some g
noncomputable def q9m (d : qo→qo→Option Int) (f : Int) (b : Int) (a : Int × List qo) : Option ((Int × List qo) ⊕ (List qo)):=
  cond (decide (a.1 ≥ 0)) ((q78 d a.2 a.1 (w64 (f - b)) b).bind fun c=>(Qy c.length a.2.length).bind fun _=>some (.inl (w64 (a.1 - 1),c))) (some (.inr a.2))
noncomputable def q9n (b : Int) (g : qo→qo→Option Int) (a : Int × List qo) : Option ((Int × List qo) ⊕ (List qo)):=
  cond (decide (a.1 ≥ 0)) ((idx a.2 (w64 (b + a.1))).bind fun c=>(idx a.2 b).bind fun d=>(idx a.2 b).bind fun _=>(idx (a.2.set b.toNat c) (w64 (b + a.1))).bind fun _=>(q78 g ((a.2.set b.toNat c).set (w64 (b + a.1)).toNat d) 0 a.1 b).bind fun f=>(Qy f.length ((a.2.set b.toNat c).set (w64 (b + a.1)).toNat d).length).bind fun _=>some (.inl (w64 (a.1 - 1),f))) (some (.inr a.2))
noncomputable def q9l (c : qo→qo→Option Int) (d : List qo) (a : Int) (b : Int) : Option (List qo):=
  (loop (q9m c b a) (w64 (Int.tdiv (w64 ((w64 (b - a)) - 1)) 2),d)).bind fun f=>(loop (q9n a c) (w64 ((w64 (b - a)) - 1),f)).bind fun g=>some g
noncomputable def q4x (f : qo→qo→Option Int) (c : List qo) (a : Int) (b : Int) (d : Int) : Option (Int × Int × Int):=
  (idx c b).bind fun g=>(idx c a).bind fun h=>(f g h).bind fun j=>cond (decide (j < 0)) (some (b,a,w64 (d + 1))) (some (a,b,d))
noncomputable def q6q (a : qo→qo→Option Int) (b : List qo) (g : Int) (h : Int) (j : Int) (k : Int) : Option (Int × Int):=
  (q4x a b g h k).bind fun c=>(q4x a b c.2.1 j c.2.2).bind fun d=>(q4x a b c.1 d.1 d.2.2).bind fun f=>some (f.2.1,f.2.2)
noncomputable def q4u (c : qo→qo→Option Int) (d : List qo) (a : Int) (f : Int) : Option (Int × Int):=
  (q6q c d (w64 (a - 1)) a (w64 (a + 1)) f).bind fun b=>some (b.1,b.2)
noncomputable def q9e (d : List qo) (a : Int) (b : Int) (f : qo→qo→Option Int) : Option (Int × Int):=
  (cond (decide ((w64 (b - a)) ≥ 8)) ((cond (decide ((w64 (b - a)) ≥ 50)) ((q4u f d (w64 (a + (w64 ((w64 (Int.tdiv (w64 (b - a)) 4)) * 1)))) 0).bind fun h=>(q4u f d (w64 (a + (w64 ((w64 (Int.tdiv (w64 (b - a)) 4)) * 2)))) h.2).bind fun j=>(q4u f d (w64 (a + (w64 ((w64 (Int.tdiv (w64 (b - a)) 4)) * 3)))) j.2).bind fun k=>some (h.1,j.1,k.1,k.2)) (some (w64 (a + (w64 ((w64 (Int.tdiv (w64 (b - a)) 4)) * 1))),w64 (a + (w64 ((w64 (Int.tdiv (w64 (b - a)) 4)) * 2))),w64 (a + (w64 ((w64 (Int.tdiv (w64 (b - a)) 4)) * 3))),0))).bind fun g=>(q6q f d g.1 g.2.1 g.2.2.1 g.2.2.2).bind fun l=>some (l.1,l.2)) (some (w64 (a + (w64 ((w64 (Int.tdiv (w64 (b - a)) 4)) * 2))),0))).bind fun c=>cond (c.2 == 0) (some (c.1,1)) (cond (c.2 == 12) (some (c.1,2)) (some (c.1,0)))
noncomputable def qb5 (a : Int × Int × List qo) : Option ((Int × Int × List qo) ⊕ (List qo)):=
  cond (decide (a.1 < a.2.1)) ((idx a.2.2 a.2.1).bind fun b=>(idx a.2.2 a.1).bind fun c=>(idx a.2.2 a.1).bind fun _=>(idx (a.2.2.set a.1.toNat b) a.2.1).bind fun _=>some (.inl (w64 (a.1 + 1),w64 (a.2.1 - 1),(a.2.2.set a.1.toNat b).set a.2.1.toNat c))) (some (.inr a.2.2))
noncomputable def qb4 (f : qo→qo→Option Int) (a : List qo) (b : Int) (c : Int) : Option (List qo):=
  (loop qb5 (b,w64 (c - 1),a)).bind fun d=>some d
noncomputable def qa3 (c : Int) (b : Int × Int × List qo) (d : qo→qo→Option Int) (a : Int) : Option ((Int) ⊕ (Int)):=
  (cond (decide (a < c)) ((idx b.2.2 a).bind fun f=>(idx b.2.2 (w64 (a - 1))).bind fun g=>(d f g).bind fun h=>some (!(decide (h < 0)))) (some false)).bind fun j=>cond j (some (.inl (w64 (a + 1)))) (some (.inr a))
noncomputable def qa4 (c : qo→qo→Option Int) (a : Int × List qo) : Option ((Int × List qo) ⊕ (List qo)):=
  cond (decide (a.1 ≥ 1)) ((idx a.2 a.1).bind fun d=>(idx a.2 (w64 (a.1 - 1))).bind fun f=>(c d f).bind fun g=>cond (!(decide (g < 0))) (some (.inr a.2)) ((idx a.2 (w64 (a.1 - 1))).bind fun b=>(idx a.2 a.1).bind fun h=>(idx a.2 a.1).bind fun _=>(idx (a.2.set a.1.toNat b) (w64 (a.1 - 1))).bind fun _=>some (.inl (w64 (a.1 - 1),(a.2.set a.1.toNat b).set (w64 (a.1 - 1)).toNat h)))) (some (.inr a.2))
noncomputable def qa5 (d : Int) (f : qo→qo→Option Int) (b : Int) (a : Int × List qo) : Option ((Int × List qo) ⊕ (Int × List qo)):=
  cond (decide (a.1 < d)) ((idx a.2 a.1).bind fun g=>(idx a.2 (w64 (a.1 - 1))).bind fun h=>(f g h).bind fun j=>cond (!(decide (j < 0))) (some (.inr (b,a.2))) ((idx a.2 (w64 (a.1 - 1))).bind fun c=>(idx a.2 a.1).bind fun k=>(idx a.2 a.1).bind fun _=>(idx (a.2.set a.1.toNat c) (w64 (a.1 - 1))).bind fun _=>some (.inl (w64 (a.1 + 1),(a.2.set a.1.toNat c).set (w64 (a.1 - 1)).toNat k)))) (some (.inr (b,a.2)))
noncomputable def q6w (c : Int) (d : qo→qo→Option Int) (h : Int) (b : Int × Int × List qo) : Option ((Int × Int × List qo) ⊕ ((List qo) ⊕ (Bool × List qo))):=
  cond (decide (b.2.1 < 5)) (((loop (qa3 c b d) b.1).bind fun a=>cond (a == c) (some (.inr (true,b.2.2))) (cond (decide ((w64 (c - h)) < 50)) (some (.inr (false,b.2.2))) ((idx b.2.2 (w64 (a - 1))).bind fun f=>(idx b.2.2 a).bind fun j=>(idx b.2.2 a).bind fun _=>(idx (b.2.2.set a.toNat f) (w64 (a - 1))).bind fun _=>(cond (decide ((w64 (a - h)) ≥ 2)) ((loop (qa4 d) (w64 (a - 1),(b.2.2.set a.toNat f).set (w64 (a - 1)).toNat j)).bind fun g=>some g) (some ((b.2.2.set a.toNat f).set (w64 (a - 1)).toNat j))).bind fun k=>cond (decide ((w64 (c - a)) ≥ 2)) ((loop (qa5 c d a) (w64 (a + 1),k)).bind fun g=>some (.inl g)) (some (.inl (a,k))))) : Option ((Int × List qo) ⊕ (Bool × List qo))).bind fun m=>(match m with | .inl l=>some (.inl (l.1,w64 (b.2.1 + 1),l.2)) | .inr n=>some (.inr (.inr n)))) (some (.inr (.inl b.2.2)))
noncomputable def q6v (b : qo→qo→Option Int) (c : List qo) (a : Int) (d : Int) : Option (Bool × List qo):=
  (loop (q6w d b a) (w64 (a + 1),0,c) : Option ((List qo) ⊕ (Bool × List qo))).bind fun f=>(match f with | .inl g=>some (false,g) | .inr h=>some h)
noncomputable def qay (b : Int × Int × List qo) (c : Int) (d : qo→qo→Option Int) (a : Int) : Option ((Int) ⊕ (Int)):=
  (cond (decide (a≤b.2.1)) ((idx b.2.2 c).bind fun f=>(idx b.2.2 a).bind fun g=>(d f g).bind fun h=>some (!(decide (h < 0)))) (some false)).bind fun j=>cond j (some (.inl (w64 (a + 1)))) (some (.inr a))
noncomputable def qaz (c : Int) (b : Int × Int × List qo) (d : Int) (f : qo→qo→Option Int) (a : Int) : Option ((Int) ⊕ (Int)):=
  (cond (decide (c≤a)) ((idx b.2.2 d).bind fun g=>(idx b.2.2 a).bind fun h=>(f g h).bind fun j=>some (decide (j < 0))) (some false)).bind fun k=>cond k (some (.inl (w64 (a - 1)))) (some (.inr a))
noncomputable def qax (d : Int) (f : qo→qo→Option Int) (a : Int × Int × List qo) : Option ((Int × Int × List qo) ⊕ (Int × List qo)):=
  (loop (qay a d f) a.1).bind fun b=>(loop (qaz b a d f) a.2.1).bind fun c=>cond (decide (b > c)) (some (.inr (b,a.2.2))) ((idx a.2.2 c).bind fun g=>(idx a.2.2 b).bind fun h=>(idx a.2.2 b).bind fun _=>(idx (a.2.2.set b.toNat g) c).bind fun _=>some (.inl (w64 (b + 1),w64 (c - 1),(a.2.2.set b.toNat g).set c.toNat h)))
noncomputable def qaw (g : qo→qo→Option Int) (b : List qo) (a : Int) (h : Int) (c : Int) : Option (Int × List qo):=
  (idx b c).bind fun d=>(idx b a).bind fun j=>(idx b a).bind fun _=>(idx (b.set a.toNat d) c).bind fun _=>(loop (qax a g) (w64 (a + 1),w64 (h - 1),(b.set a.toNat d).set c.toNat j)).bind fun f=>some (f.1,f.2)
noncomputable def qaj (h : Int) (c : List qo) (b : Int) (d : qo) (f : Int) (g : qo) (j : qo→qo→Option Int) (a : Int) : Option ((Int) ⊕ (Int)):=
  (cond (decide (a≤(w64 (h - 1)))) ((idx ((c.set b.toNat d).set f.toNat g) a).bind fun k=>(idx ((c.set b.toNat d).set f.toNat g) b).bind fun l=>(j k l).bind fun m=>some (decide (m < 0))) (some false)).bind fun n=>cond n (some (.inl (w64 (a + 1)))) (some (.inr a))
noncomputable def qak (h : Int) (c : List qo) (b : Int) (d : qo) (f : Int) (g : qo) (j : qo→qo→Option Int) (a : Int) : Option ((Int) ⊕ (Int)):=
  (cond (decide (h≤a)) ((idx ((c.set b.toNat d).set f.toNat g) a).bind fun k=>(idx ((c.set b.toNat d).set f.toNat g) b).bind fun l=>(j k l).bind fun m=>some (!(decide (m < 0)))) (some false)).bind fun n=>cond n (some (.inl (w64 (a - 1)))) (some (.inr a))
noncomputable def qam (b : Int × Int × List qo) (c : Int) (d : qo→qo→Option Int) (a : Int) : Option ((Int) ⊕ (Int)):=
  (cond (decide (a≤b.2.1)) ((idx b.2.2 a).bind fun f=>(idx b.2.2 c).bind fun g=>(d f g).bind fun h=>some (decide (h < 0))) (some false)).bind fun j=>cond j (some (.inl (w64 (a + 1)))) (some (.inr a))
noncomputable def qan (c : Int) (b : Int × Int × List qo) (d : Int) (f : qo→qo→Option Int) (a : Int) : Option ((Int) ⊕ (Int)):=
  (cond (decide (c≤a)) ((idx b.2.2 a).bind fun g=>(idx b.2.2 d).bind fun h=>(f g h).bind fun j=>some (!(decide (j < 0)))) (some false)).bind fun k=>cond k (some (.inl (w64 (a - 1)))) (some (.inr a))
noncomputable def qal (d : Int) (f : qo→qo→Option Int) (a : Int × Int × List qo) : Option ((Int × Int × List qo) ⊕ (Int × List qo)):=
  (loop (qam a d f) a.1).bind fun b=>(loop (qan b a d f) a.2.1).bind fun c=>cond (decide (b > c)) (some (.inr (c,a.2.2))) ((idx a.2.2 c).bind fun g=>(idx a.2.2 b).bind fun h=>(idx a.2.2 b).bind fun _=>(idx (a.2.2.set b.toNat g) c).bind fun _=>some (.inl (w64 (b + 1),w64 (c - 1),(a.2.2.set b.toNat g).set c.toNat h)))
noncomputable def qai (k : qo→qo→Option Int) (b : List qo) (a : Int) (l : Int) (c : Int) : Option (Int × Bool × List qo):=
  (idx b c).bind fun d=>(idx b a).bind fun f=>(idx b a).bind fun _=>(idx (b.set a.toNat d) c).bind fun _=>(loop (qaj l b a d c f k) (w64 (a + 1))).bind fun j=>(loop (qak j b a d c f k) (w64 (l - 1))).bind fun g=>cond (decide (j > g)) ((idx ((b.set a.toNat d).set c.toNat f) a).bind fun m=>(idx ((b.set a.toNat d).set c.toNat f) g).bind fun p=>(idx ((b.set a.toNat d).set c.toNat f) g).bind fun _=>(idx (((b.set a.toNat d).set c.toNat f).set g.toNat m) a).bind fun _=>some (g,true,(((b.set a.toNat d).set c.toNat f).set g.toNat m).set a.toNat p)) ((idx ((b.set a.toNat d).set c.toNat f) g).bind fun n=>(idx ((b.set a.toNat d).set c.toNat f) j).bind fun q=>(idx ((b.set a.toNat d).set c.toNat f) j).bind fun _=>(idx (((b.set a.toNat d).set c.toNat f).set j.toNat n) g).bind fun _=>(loop (qal a k) (w64 (j + 1),w64 (g - 1),(((b.set a.toNat d).set c.toNat f).set j.toNat n).set g.toNat q)).bind fun h=>(idx h.2 a).bind fun o=>(idx h.2 h.1).bind fun r=>(idx h.2 h.1).bind fun _=>(idx (h.2.set h.1.toNat o) a).bind fun _=>some (h.1,false,(h.2.set h.1.toNat o).set a.toNat r))
noncomputable def q15 (a : Int) : Option Int:=
  (Uh (IntKind.wrap .u64 a)).bind fun b=>(shlK .u64 1 b).bind fun c=>some c
noncomputable def q16 (a : Int) : Option Int:=
  some (xorI .u64 (xorI .u64 (xorI .u64 a (IntKind.wrap .u64 (a * (2 ^ 13)))) (Int.fdiv (xorI .u64 a (IntKind.wrap .u64 (a * (2 ^ 13)))) (2 ^ 7))) (IntKind.wrap .u64 ((xorI .u64 (xorI .u64 a (IntKind.wrap .u64 (a * (2 ^ 13)))) (Int.fdiv (xorI .u64 a (IntKind.wrap .u64 (a * (2 ^ 13)))) (2 ^ 7))) * (2 ^ 17))))
noncomputable def q9b (b : Int) (d : Int) (f : Int) (a : Int × List qo × Int) : Option ((Int × List qo × Int) ⊕ (List qo)):=
  cond (decide (a.1≤(w64 ((w64 (b + (w64 ((w64 (Int.tdiv (w64 (d - b)) 4)) * 2)))) + 1)))) ((q16 a.2.2).bind fun c=>(cond (decide ((w64 (andI .u64 c (IntKind.wrap .u64 (f - 1)))) ≥ (w64 (d - b)))) (some (w64 ((w64 (andI .u64 c (IntKind.wrap .u64 (f - 1)))) - (w64 (d - b))))) (some (w64 (andI .u64 c (IntKind.wrap .u64 (f - 1)))))).bind fun g=>(idx a.2.1 (w64 (b + g))).bind fun h=>(idx a.2.1 a.1).bind fun j=>(idx a.2.1 a.1).bind fun _=>(idx (a.2.1.set a.1.toNat h) (w64 (b + g))).bind fun _=>some (.inl (w64 (a.1 + 1),(a.2.1.set a.1.toNat h).set (w64 (b + g)).toNat j,c))) (some (.inr a.2.1))
noncomputable def q9a (g : qo→qo→Option Int) (c : List qo) (a : Int) (b : Int) : Option (List qo):=
  cond (decide ((w64 (b - a)) ≥ 8)) ((q15 (w64 (b - a))).bind fun d=>(loop (q9b a b d) (w64 ((w64 (a + (w64 ((w64 (Int.tdiv (w64 (b - a)) 4)) * 2)))) - 1),c,IntKind.wrap .u64 (w64 (b - a)))).bind fun f=>some f) (some c)
noncomputable def q74 (c : qo→qo→Option Int) (rec : List qo→Int→Int→Int→Option (List qo)) (a : Int × Int × Int × Bool × Bool × List qo) : Option ((Int × Int × Int × Bool × Bool × List qo) ⊕ (List qo)):=
  cond (decide ((w64 (a.2.1 - a.1))≤12)) ((q9u c a.2.2.2.2.2 a.1 a.2.1).bind fun l=>(Qy l.length a.2.2.2.2.2.length).bind fun _=>some (.inr l)) (cond (a.2.2.1 == 0) ((q9l c a.2.2.2.2.2 a.1 a.2.1).bind fun m=>(Qy m.length a.2.2.2.2.2.length).bind fun _=>some (.inr m)) ((cond (!a.2.2.2.1) ((q9a c a.2.2.2.2.2 a.1 a.2.1).bind fun n=>(Qy n.length a.2.2.2.2.2.length).bind fun _=>some (w64 (a.2.2.1 - 1),n)) (some (a.2.2.1,a.2.2.2.2.2))).bind fun d=>(q9e d.2 a.1 a.2.1 c).bind fun h=>(cond (h.2 == 2) ((qb4 c d.2 a.1 a.2.1).bind fun o=>(Qy o.length d.2.length).bind fun _=>some (w64 ((w64 (a.2.1 - 1)) - (w64 (h.1 - a.1))),1,o)) (some (h.1,h.2,d.2))).bind fun f=>(cond a.2.2.2.1 (some a.2.2.2.2.1) (some false)).bind fun r=>(cond r (some (f.2.1 == 1)) (some false)).bind fun s=>(cond s ((q6v c f.2.2 a.1 a.2.1).bind fun j=>(Qy j.2.length f.2.2.length).bind fun _=>cond j.1 (some (.inr j.2)) (some (.inl j.2))) (some (.inl f.2.2)) : Option ((List qo) ⊕ (List qo))).bind fun t=>(match t with | .inl g=>(cond (decide (a.1 > 0)) ((idx g (w64 (a.1 - 1))).bind fun u=>(idx g f.1).bind fun v=>(c u v).bind fun w=>some (!(decide (w < 0)))) (some false)).bind fun x=>cond x ((qaw c g a.1 a.2.1 f.1).bind fun k=>(Qy k.2.length g.length).bind fun _=>some (.inl (k.1,a.2.1,d.1,a.2.2.2.1,a.2.2.2.2.1,k.2))) ((qai c g a.1 a.2.1 f.1).bind fun b=>(Qy b.2.2.length g.length).bind fun _=>cond (decide ((w64 (b.1 - a.1)) < (w64 (a.2.1 - b.1)))) ((rec b.2.2 a.1 b.1 d.1).bind fun p=>(Qy p.length b.2.2.length).bind fun _=>some (.inl (w64 (b.1 + 1),a.2.1,d.1,decide ((w64 (b.1 - a.1)) ≥ (w64 (Int.tdiv (w64 (a.2.1 - a.1)) 8))),b.2.1,p))) ((rec b.2.2 (w64 (b.1 + 1)) a.2.1 d.1).bind fun q=>(Qy q.length b.2.2.length).bind fun _=>some (.inl (a.1,b.1,d.1,decide ((w64 (a.2.1 - b.1)) ≥ (w64 (Int.tdiv (w64 (a.2.1 - a.1)) 8))),b.2.1,q)))) | .inr y=>some (.inr y))))
noncomputable def q75 (rec : List qo→Int→Int→Int→Option (List qo)) (a : qo→qo→Option Int) (b : List qo) (c : Int) (d : Int) (f : Int) : Option (List qo):=
  (loop (q74 a rec) (c,d,f,true,true,b)).bind fun g=>some g
noncomputable def q73 : Nat→(qo→qo→Option Int)→List qo→Int→Int→Int→Option (List qo)
  | 0,_,_,_,_,_=>none
  | n + 1,a,b,c,d,f=>q75 (q73 n a) a b c d f
noncomputable def q6n (c : qo→qo→Option Int) (a : List qo) : Option (List qo):=
  (Uh (IntKind.wrap .u64 (a.length : Int))).bind fun d=>(lim (fun n=>q73 n c a 0 (a.length : Int) d)).bind fun b=>(Qy b.length a.length).bind fun _=>some b
noncomputable def qdi (a : List qo) : Option (List qo):=
  some a
noncomputable def q4z (b : List qm) (c : Int × List qo) (a : Int × List qo) : Option ((Int × List qo) ⊕ (List qo)):=
  cond (decide (a.1 < (b.length : Int))) ((idx b a.1).bind fun d=>(app 24 a.2 [({at_:=d.Lo,list_:=c.1,by_:=1} : qo),({at_:=d.Hi,list_:=c.1,by_:=(-1)} : qo)]).bind fun f=>some (.inl (w64 (a.1 + 1),f))) (some (.inr a.2))
noncomputable def q22 (b : List (List qm)) (a : Int × List qo) : Option ((Int × List qo) ⊕ (List qo)):=
  cond (decide (a.1 < (b.length : Int))) (((idx b a.1).bind fun c=>(loop (q4z c a) (0,a.2)).bind fun d=>some d).bind fun f=>some (.inl (w64 (a.1 + 1),f))) (some (.inr a.2))
noncomputable def qbc (b : List (List qm)) : Option (List (List qm) × List qo):=
  (loop (q22 b) (0,[])).bind fun c=>(q6n (fun f g=>qbb f g) c).bind fun a=>(Qy a.length c.length).bind fun _=>(qdi a).bind fun d=>(Qy d.length a.length).bind fun _=>some (b,d)
noncomputable def qbd (b : Int) (d : Bool) (c : Int) (a : List qm) : Option (List qm):=
  (cond (!d) (some true) (some (c == b))).bind fun f=>cond f (some a) ((cond (decide ((a.length : Int) > 0)) ((idx a (w64 ((a.length : Int) - 1))).bind fun g=>some (g.Hi == c)) (some false)).bind fun h=>cond h ((idx a (w64 ((a.length : Int) - 1))).bind fun j=>some (a.set (w64 ((a.length : Int) - 1)).toNat ({Lo:=j.Lo,Hi:=b} : qm))) ((app 16 a [({Lo:=c,Hi:=b} : qm)]).bind fun k=>some k))
noncomputable def q50 (f : List (List qm) × List qo) (g : Bool→Bool→Option Bool) (a : Int × List Int × Int × Bool × List qm) : Option ((Int × List Int × Int × Bool × List qm) ⊕ (List qm)):=
  cond (decide (a.1 < (f.2.length : Int))) ((idx f.2 a.1).bind fun b=>((qbd b.at_ a.2.2.2.1 a.2.2.1 a.2.2.2.2).bind fun h=>(idxA 2 a.2.1 b.list_).bind fun c=>(idxA 2 a.2.1 b.list_).bind fun _=>(idxA 2 (a.2.1.set b.list_.toNat (w64 (c + b.by_))) 0).bind fun j=>(idxA 2 (a.2.1.set b.list_.toNat (w64 (c + b.by_))) 1).bind fun k=>(g (decide (j > 0)) (decide (k > 0))).bind fun l=>some (a.2.1.set b.list_.toNat (w64 (c + b.by_)),l,h)).bind fun d=>some (.inl (w64 (a.1 + 1),d.1,b.at_,d.2.1,d.2.2))) (some (.inr a.2.2.2.2))
noncomputable def q7a (a : List qm) (b : List qm) (d : Bool→Bool→Option Bool) : Option (List qm):=
  (qbc [a,b]).bind fun c=>(Qy c.1.length [a,b].length).bind fun _=>((loop (q50 c d) (0,[0,0],0,false,[])).bind fun f=>some f).bind fun g=>some g
noncomputable def qba (a : Bool) (b : Bool) : Option Bool:=
  some a
noncomputable def q2y (a : List qm) : Option (List qm × Int):=
  cond (decide ((a.length : Int) > 400)) (some ([],4)) ((q6i a (fun b=>qdm b)).bind fun c=>cond c (some ([],8)) ((q7a a [] (fun b d=>qba b d)).bind fun f=>some (f,0)))
noncomputable def q1i (r : Ya) (s : qt) : Option Ya:=
  cond (s.A.Y == s.B.Y) ((app 16 (K4 [] s.A.Y r.rows_) [({Lo:=min s.A.X s.B.X,Hi:=max s.A.X s.B.X} : qm)]).bind fun l=>some {rows_:=K8 s.A.Y l r.rows_,columns_:=r.columns_})
    ((app 16 (K4 [] s.A.X r.columns_) [({Lo:=min s.A.Y s.B.Y,Hi:=max s.A.Y s.B.Y} : qm)]).bind fun l=>some {rows_:=r.rows_,columns_:=K8 s.A.X l r.columns_})
noncomputable def q26 : List qt→Ya→Option Ya
  | [],r=>some r
  | s::l,r=>(q1i r s).bind (q26 l)
noncomputable def U8 : List (Int × List qm)→Option (List (Int × List qm))
  | []=>some []
  | e::l=>(q2y e.2).bind fun x=>(U8 l).bind fun y=>some ((e.1,x.1)::y)
noncomputable def q7d (c : List qt) : Option Ya:=
  cond (decide (c.length≤1000000)) ((q26 c {rows_:=[],columns_:=[]}).bind fun r=>(U8 r.rows_).bind fun a=>(U8 r.columns_).bind fun b=>some {rows_:=a,columns_:=b}) none
noncomputable def qdl (a : qm) (b : Int) : Option Bool:=
  (cond (decide (a.Lo≤b)) (some (decide (b < a.Hi))) (some false)).bind fun c=>some c
noncomputable def q21 (a : List qm) (b : Int) : Option Bool:=
  (q6i a (fun c=>qdl c b)).bind fun d=>some d
noncomputable def q54 (b : Ya) (a : qb) : Option (Bool × Bool × Bool × Bool):=
  (q21 (K4 [] a.Y b.rows_) a.X).bind fun c=>(q21 (K4 [] a.X b.columns_) a.Y).bind fun d=>(q21 (K4 [] a.Y b.rows_) (w64 (a.X - 1))).bind fun f=>(q21 (K4 [] a.X b.columns_) (w64 (a.Y - 1))).bind fun g=>some (c,d,f,g)
noncomputable def qbj (b : Ya) (c : qb) : Option Bool:=
  (q54 b c).bind fun a=>(cond ((a.1 == false) && ((a.2.1 == false) && ((a.2.2.1 == false) && ((a.2.2.2 == false) && true)))) (some ((a.1 == false) && ((a.2.1 == false) && ((a.2.2.1 == false) && ((a.2.2.2 == false) && true))))) (cond ((a.1 == true) && ((a.2.1 == false) && ((a.2.2.1 == true) && ((a.2.2.2 == false) && true)))) (some ((a.1 == true) && ((a.2.1 == false) && ((a.2.2.1 == true) && ((a.2.2.2 == false) && true))))) (some ((a.1 == false) && ((a.2.1 == true) && ((a.2.2.1 == false) && ((a.2.2.2 == true) && true))))))).bind fun d=>cond d (some false) (some true)
noncomputable def q3x (a : qb) (c : List (Int × List qm)) (d : List (Int × List qm)) (b : List (qb × Bool)) : Option (List (qb × Bool)):=
  (qbj ({rows_:=c,columns_:=d} : Ya) ({X:=(a).X,Y:=(a).Y} : qb)).bind fun f=>cond f (some (K8 ({X:=(a).X,Y:=(a).Y} : qb) true b)) (some b)
noncomputable def q23 (a : qb) (b : qb) : Option Int:=
  cond (a.X != b.X) (some (w64 (a.X - b.X))) (some (w64 (a.Y - b.Y)))
noncomputable def q9t (c : Int) (d : qb→qb→Option Int) (a : Int × List qb) : Option ((Int × List qb) ⊕ (List qb)):=
  (cond (decide (a.1 > c)) ((idx a.2 a.1).bind fun f=>(idx a.2 (w64 (a.1 - 1))).bind fun g=>(d f g).bind fun h=>some (decide (h < 0))) (some false)).bind fun j=>cond j ((idx a.2 (w64 (a.1 - 1))).bind fun b=>(idx a.2 a.1).bind fun k=>(idx a.2 a.1).bind fun _=>(idx (a.2.set a.1.toNat b) (w64 (a.1 - 1))).bind fun _=>some (.inl (w64 (a.1 - 1),(a.2.set a.1.toNat b).set (w64 (a.1 - 1)).toNat k))) (some (.inr a.2))
noncomputable def q9s (b : Int) (c : Int) (d : qb→qb→Option Int) (a : Int × List qb) : Option ((Int × List qb) ⊕ (List qb)):=
  cond (decide (a.1 < b)) (((loop (q9t c d) (a.1,a.2)).bind fun f=>some f).bind fun g=>some (.inl (w64 (a.1 + 1),g))) (some (.inr a.2))
noncomputable def q9r (b : qb→qb→Option Int) (c : List qb) (a : Int) (d : Int) : Option (List qb):=
  (loop (q9s d a b) (w64 (a + 1),c)).bind fun f=>some f
noncomputable def qb7 (d : Int) (b : Int) (f : qb→qb→Option Int) (a : Int × List qb) : Option ((Int × List qb) ⊕ (List qb)):=
  cond (decide ((w64 ((w64 (2 * a.1)) + 1)) ≥ d)) (some (.inr a.2)) ((cond (decide ((w64 ((w64 ((w64 (2 * a.1)) + 1)) + 1)) < d)) ((idx a.2 (w64 (b + (w64 ((w64 (2 * a.1)) + 1))))).bind fun h=>(idx a.2 (w64 ((w64 (b + (w64 ((w64 (2 * a.1)) + 1)))) + 1))).bind fun j=>(f h j).bind fun k=>some (decide (k < 0))) (some false)).bind fun l=>(cond l (some (w64 ((w64 ((w64 (2 * a.1)) + 1)) + 1))) (some (w64 ((w64 (2 * a.1)) + 1)))).bind fun c=>(idx a.2 (w64 (b + a.1))).bind fun m=>(idx a.2 (w64 (b + c))).bind fun n=>(f m n).bind fun o=>cond (!(decide (o < 0))) (some (.inr a.2)) ((idx a.2 (w64 (b + c))).bind fun g=>(idx a.2 (w64 (b + a.1))).bind fun p=>(idx a.2 (w64 (b + a.1))).bind fun _=>(idx (a.2.set (w64 (b + a.1)).toNat g) (w64 (b + c))).bind fun _=>some (.inl (c,(a.2.set (w64 (b + a.1)).toNat g).set (w64 (b + c)).toNat p))))
noncomputable def q77 (a : qb→qb→Option Int) (b : List qb) (c : Int) (d : Int) (f : Int) : Option (List qb):=
  (loop (qb7 d f a) (c,b)).bind fun g=>some g
noncomputable def q9j (d : qb→qb→Option Int) (f : Int) (b : Int) (a : Int × List qb) : Option ((Int × List qb) ⊕ (List qb)):=
  cond (decide (a.1 ≥ 0)) ((q77 d a.2 a.1 (w64 (f - b)) b).bind fun c=>(Qy c.length a.2.length).bind fun _=>some (.inl (w64 (a.1 - 1),c))) (some (.inr a.2))
noncomputable def q9k (b : Int) (g : qb→qb→Option Int) (a : Int × List qb) : Option ((Int × List qb) ⊕ (List qb)):=
  cond (decide (a.1 ≥ 0)) ((idx a.2 (w64 (b + a.1))).bind fun c=>(idx a.2 b).bind fun d=>(idx a.2 b).bind fun _=>(idx (a.2.set b.toNat c) (w64 (b + a.1))).bind fun _=>(q77 g ((a.2.set b.toNat c).set (w64 (b + a.1)).toNat d) 0 a.1 b).bind fun f=>(Qy f.length ((a.2.set b.toNat c).set (w64 (b + a.1)).toNat d).length).bind fun _=>some (.inl (w64 (a.1 - 1),f))) (some (.inr a.2))
noncomputable def q9i (c : qb→qb→Option Int) (d : List qb) (a : Int) (b : Int) : Option (List qb):=
  (loop (q9j c b a) (w64 (Int.tdiv (w64 ((w64 (b - a)) - 1)) 2),d)).bind fun f=>(loop (q9k a c) (w64 ((w64 (b - a)) - 1),f)).bind fun g=>some g
noncomputable def q4w (f : qb→qb→Option Int) (c : List qb) (a : Int) (b : Int) (d : Int) : Option (Int × Int × Int):=
  (idx c b).bind fun g=>(idx c a).bind fun h=>(f g h).bind fun j=>cond (decide (j < 0)) (some (b,a,w64 (d + 1))) (some (a,b,d))
noncomputable def q6p (a : qb→qb→Option Int) (b : List qb) (g : Int) (h : Int) (j : Int) (k : Int) : Option (Int × Int):=
  (q4w a b g h k).bind fun c=>(q4w a b c.2.1 j c.2.2).bind fun d=>(q4w a b c.1 d.1 d.2.2).bind fun f=>some (f.2.1,f.2.2)
noncomputable def q4t (c : qb→qb→Option Int) (d : List qb) (a : Int) (f : Int) : Option (Int × Int):=
  (q6p c d (w64 (a - 1)) a (w64 (a + 1)) f).bind fun b=>some (b.1,b.2)
noncomputable def q9d (d : List qb) (a : Int) (b : Int) (f : qb→qb→Option Int) : Option (Int × Int):=
  (cond (decide ((w64 (b - a)) ≥ 8)) ((cond (decide ((w64 (b - a)) ≥ 50)) ((q4t f d (w64 (a + (w64 ((w64 (Int.tdiv (w64 (b - a)) 4)) * 1)))) 0).bind fun h=>(q4t f d (w64 (a + (w64 ((w64 (Int.tdiv (w64 (b - a)) 4)) * 2)))) h.2).bind fun j=>(q4t f d (w64 (a + (w64 ((w64 (Int.tdiv (w64 (b - a)) 4)) * 3)))) j.2).bind fun k=>some (h.1,j.1,k.1,k.2)) (some (w64 (a + (w64 ((w64 (Int.tdiv (w64 (b - a)) 4)) * 1))),w64 (a + (w64 ((w64 (Int.tdiv (w64 (b - a)) 4)) * 2))),w64 (a + (w64 ((w64 (Int.tdiv (w64 (b - a)) 4)) * 3))),0))).bind fun g=>(q6p f d g.1 g.2.1 g.2.2.1 g.2.2.2).bind fun l=>some (l.1,l.2)) (some (w64 (a + (w64 ((w64 (Int.tdiv (w64 (b - a)) 4)) * 2))),0))).bind fun c=>cond (c.2 == 0) (some (c.1,1)) (cond (c.2 == 12) (some (c.1,2)) (some (c.1,0)))
noncomputable def qb3 (a : Int × Int × List qb) : Option ((Int × Int × List qb) ⊕ (List qb)):=
  cond (decide (a.1 < a.2.1)) ((idx a.2.2 a.2.1).bind fun b=>(idx a.2.2 a.1).bind fun c=>(idx a.2.2 a.1).bind fun _=>(idx (a.2.2.set a.1.toNat b) a.2.1).bind fun _=>some (.inl (w64 (a.1 + 1),w64 (a.2.1 - 1),(a.2.2.set a.1.toNat b).set a.2.1.toNat c))) (some (.inr a.2.2))
noncomputable def qb2 (f : qb→qb→Option Int) (a : List qb) (b : Int) (c : Int) : Option (List qb):=
  (loop qb3 (b,w64 (c - 1),a)).bind fun d=>some d
noncomputable def qa0 (c : Int) (b : Int × Int × List qb) (d : qb→qb→Option Int) (a : Int) : Option ((Int) ⊕ (Int)):=
  (cond (decide (a < c)) ((idx b.2.2 a).bind fun f=>(idx b.2.2 (w64 (a - 1))).bind fun g=>(d f g).bind fun h=>some (!(decide (h < 0)))) (some false)).bind fun j=>cond j (some (.inl (w64 (a + 1)))) (some (.inr a))
noncomputable def qa1 (c : qb→qb→Option Int) (a : Int × List qb) : Option ((Int × List qb) ⊕ (List qb)):=
  cond (decide (a.1 ≥ 1)) ((idx a.2 a.1).bind fun d=>(idx a.2 (w64 (a.1 - 1))).bind fun f=>(c d f).bind fun g=>cond (!(decide (g < 0))) (some (.inr a.2)) ((idx a.2 (w64 (a.1 - 1))).bind fun b=>(idx a.2 a.1).bind fun h=>(idx a.2 a.1).bind fun _=>(idx (a.2.set a.1.toNat b) (w64 (a.1 - 1))).bind fun _=>some (.inl (w64 (a.1 - 1),(a.2.set a.1.toNat b).set (w64 (a.1 - 1)).toNat h)))) (some (.inr a.2))
noncomputable def qa2 (d : Int) (f : qb→qb→Option Int) (b : Int) (a : Int × List qb) : Option ((Int × List qb) ⊕ (Int × List qb)):=
  cond (decide (a.1 < d)) ((idx a.2 a.1).bind fun g=>(idx a.2 (w64 (a.1 - 1))).bind fun h=>(f g h).bind fun j=>cond (!(decide (j < 0))) (some (.inr (b,a.2))) ((idx a.2 (w64 (a.1 - 1))).bind fun c=>(idx a.2 a.1).bind fun k=>(idx a.2 a.1).bind fun _=>(idx (a.2.set a.1.toNat c) (w64 (a.1 - 1))).bind fun _=>some (.inl (w64 (a.1 + 1),(a.2.set a.1.toNat c).set (w64 (a.1 - 1)).toNat k)))) (some (.inr (b,a.2)))
noncomputable def q6u (c : Int) (d : qb→qb→Option Int) (h : Int) (b : Int × Int × List qb) : Option ((Int × Int × List qb) ⊕ ((List qb) ⊕ (Bool × List qb))):=
  cond (decide (b.2.1 < 5)) (((loop (qa0 c b d) b.1).bind fun a=>cond (a == c) (some (.inr (true,b.2.2))) (cond (decide ((w64 (c - h)) < 50)) (some (.inr (false,b.2.2))) ((idx b.2.2 (w64 (a - 1))).bind fun f=>(idx b.2.2 a).bind fun j=>(idx b.2.2 a).bind fun _=>(idx (b.2.2.set a.toNat f) (w64 (a - 1))).bind fun _=>(cond (decide ((w64 (a - h)) ≥ 2)) ((loop (qa1 d) (w64 (a - 1),(b.2.2.set a.toNat f).set (w64 (a - 1)).toNat j)).bind fun g=>some g) (some ((b.2.2.set a.toNat f).set (w64 (a - 1)).toNat j))).bind fun k=>cond (decide ((w64 (c - a)) ≥ 2)) ((loop (qa2 c d a) (w64 (a + 1),k)).bind fun g=>some (.inl g)) (some (.inl (a,k))))) : Option ((Int × List qb) ⊕ (Bool × List qb))).bind fun m=>(match m with | .inl l=>some (.inl (l.1,w64 (b.2.1 + 1),l.2)) | .inr n=>some (.inr (.inr n)))) (some (.inr (.inl b.2.2)))
noncomputable def q6t (b : qb→qb→Option Int) (c : List qb) (a : Int) (d : Int) : Option (Bool × List qb):=
  (loop (q6u d b a) (w64 (a + 1),0,c) : Option ((List qb) ⊕ (Bool × List qb))).bind fun f=>(match f with | .inl g=>some (false,g) | .inr h=>some h)
noncomputable def qau (b : Int × Int × List qb) (c : Int) (d : qb→qb→Option Int) (a : Int) : Option ((Int) ⊕ (Int)):=
  (cond (decide (a≤b.2.1)) ((idx b.2.2 c).bind fun f=>(idx b.2.2 a).bind fun g=>(d f g).bind fun h=>some (!(decide (h < 0)))) (some false)).bind fun j=>cond j (some (.inl (w64 (a + 1)))) (some (.inr a))
noncomputable def qav (c : Int) (b : Int × Int × List qb) (d : Int) (f : qb→qb→Option Int) (a : Int) : Option ((Int) ⊕ (Int)):=
  (cond (decide (c≤a)) ((idx b.2.2 d).bind fun g=>(idx b.2.2 a).bind fun h=>(f g h).bind fun j=>some (decide (j < 0))) (some false)).bind fun k=>cond k (some (.inl (w64 (a - 1)))) (some (.inr a))
noncomputable def qat (d : Int) (f : qb→qb→Option Int) (a : Int × Int × List qb) : Option ((Int × Int × List qb) ⊕ (Int × List qb)):=
  (loop (qau a d f) a.1).bind fun b=>(loop (qav b a d f) a.2.1).bind fun c=>cond (decide (b > c)) (some (.inr (b,a.2.2))) ((idx a.2.2 c).bind fun g=>(idx a.2.2 b).bind fun h=>(idx a.2.2 b).bind fun _=>(idx (a.2.2.set b.toNat g) c).bind fun _=>some (.inl (w64 (b + 1),w64 (c - 1),(a.2.2.set b.toNat g).set c.toNat h)))
noncomputable def qas (g : qb→qb→Option Int) (b : List qb) (a : Int) (h : Int) (c : Int) : Option (Int × List qb):=
  (idx b c).bind fun d=>(idx b a).bind fun j=>(idx b a).bind fun _=>(idx (b.set a.toNat d) c).bind fun _=>(loop (qat a g) (w64 (a + 1),w64 (h - 1),(b.set a.toNat d).set c.toNat j)).bind fun f=>some (f.1,f.2)
noncomputable def qad (h : Int) (c : List qb) (b : Int) (d : qb) (f : Int) (g : qb) (j : qb→qb→Option Int) (a : Int) : Option ((Int) ⊕ (Int)):=
  (cond (decide (a≤(w64 (h - 1)))) ((idx ((c.set b.toNat d).set f.toNat g) a).bind fun k=>(idx ((c.set b.toNat d).set f.toNat g) b).bind fun l=>(j k l).bind fun m=>some (decide (m < 0))) (some false)).bind fun n=>cond n (some (.inl (w64 (a + 1)))) (some (.inr a))
noncomputable def qae (h : Int) (c : List qb) (b : Int) (d : qb) (f : Int) (g : qb) (j : qb→qb→Option Int) (a : Int) : Option ((Int) ⊕ (Int)):=
  (cond (decide (h≤a)) ((idx ((c.set b.toNat d).set f.toNat g) a).bind fun k=>(idx ((c.set b.toNat d).set f.toNat g) b).bind fun l=>(j k l).bind fun m=>some (!(decide (m < 0)))) (some false)).bind fun n=>cond n (some (.inl (w64 (a - 1)))) (some (.inr a))
noncomputable def qag (b : Int × Int × List qb) (c : Int) (d : qb→qb→Option Int) (a : Int) : Option ((Int) ⊕ (Int)):=
  (cond (decide (a≤b.2.1)) ((idx b.2.2 a).bind fun f=>(idx b.2.2 c).bind fun g=>(d f g).bind fun h=>some (decide (h < 0))) (some false)).bind fun j=>cond j (some (.inl (w64 (a + 1)))) (some (.inr a))
noncomputable def qah (c : Int) (b : Int × Int × List qb) (d : Int) (f : qb→qb→Option Int) (a : Int) : Option ((Int) ⊕ (Int)):=
  (cond (decide (c≤a)) ((idx b.2.2 a).bind fun g=>(idx b.2.2 d).bind fun h=>(f g h).bind fun j=>some (!(decide (j < 0)))) (some false)).bind fun k=>cond k (some (.inl (w64 (a - 1)))) (some (.inr a))
noncomputable def qaf (d : Int) (f : qb→qb→Option Int) (a : Int × Int × List qb) : Option ((Int × Int × List qb) ⊕ (Int × List qb)):=
  (loop (qag a d f) a.1).bind fun b=>(loop (qah b a d f) a.2.1).bind fun c=>cond (decide (b > c)) (some (.inr (c,a.2.2))) ((idx a.2.2 c).bind fun g=>(idx a.2.2 b).bind fun h=>(idx a.2.2 b).bind fun _=>(idx (a.2.2.set b.toNat g) c).bind fun _=>some (.inl (w64 (b + 1),w64 (c - 1),(a.2.2.set b.toNat g).set c.toNat h)))
noncomputable def qac (k : qb→qb→Option Int) (b : List qb) (a : Int) (l : Int) (c : Int) : Option (Int × Bool × List qb):=
  (idx b c).bind fun d=>(idx b a).bind fun f=>(idx b a).bind fun _=>(idx (b.set a.toNat d) c).bind fun _=>(loop (qad l b a d c f k) (w64 (a + 1))).bind fun j=>(loop (qae j b a d c f k) (w64 (l - 1))).bind fun g=>cond (decide (j > g)) ((idx ((b.set a.toNat d).set c.toNat f) a).bind fun m=>(idx ((b.set a.toNat d).set c.toNat f) g).bind fun p=>(idx ((b.set a.toNat d).set c.toNat f) g).bind fun _=>(idx (((b.set a.toNat d).set c.toNat f).set g.toNat m) a).bind fun _=>some (g,true,(((b.set a.toNat d).set c.toNat f).set g.toNat m).set a.toNat p)) ((idx ((b.set a.toNat d).set c.toNat f) g).bind fun n=>(idx ((b.set a.toNat d).set c.toNat f) j).bind fun q=>(idx ((b.set a.toNat d).set c.toNat f) j).bind fun _=>(idx (((b.set a.toNat d).set c.toNat f).set j.toNat n) g).bind fun _=>(loop (qaf a k) (w64 (j + 1),w64 (g - 1),(((b.set a.toNat d).set c.toNat f).set j.toNat n).set g.toNat q)).bind fun h=>(idx h.2 a).bind fun o=>(idx h.2 h.1).bind fun r=>(idx h.2 h.1).bind fun _=>(idx (h.2.set h.1.toNat o) a).bind fun _=>some (h.1,false,(h.2.set h.1.toNat o).set a.toNat r))
noncomputable def q99 (b : Int) (d : Int) (f : Int) (a : Int × List qb × Int) : Option ((Int × List qb × Int) ⊕ (List qb)):=
  cond (decide (a.1≤(w64 ((w64 (b + (w64 ((w64 (Int.tdiv (w64 (d - b)) 4)) * 2)))) + 1)))) ((q16 a.2.2).bind fun c=>(cond (decide ((w64 (andI .u64 c (IntKind.wrap .u64 (f - 1)))) ≥ (w64 (d - b)))) (some (w64 ((w64 (andI .u64 c (IntKind.wrap .u64 (f - 1)))) - (w64 (d - b))))) (some (w64 (andI .u64 c (IntKind.wrap .u64 (f - 1)))))).bind fun g=>(idx a.2.1 (w64 (b + g))).bind fun h=>(idx a.2.1 a.1).bind fun j=>(idx a.2.1 a.1).bind fun _=>(idx (a.2.1.set a.1.toNat h) (w64 (b + g))).bind fun _=>some (.inl (w64 (a.1 + 1),(a.2.1.set a.1.toNat h).set (w64 (b + g)).toNat j,c))) (some (.inr a.2.1))
noncomputable def q98 (g : qb→qb→Option Int) (c : List qb) (a : Int) (b : Int) : Option (List qb):=
  cond (decide ((w64 (b - a)) ≥ 8)) ((q15 (w64 (b - a))).bind fun d=>(loop (q99 a b d) (w64 ((w64 (a + (w64 ((w64 (Int.tdiv (w64 (b - a)) 4)) * 2)))) - 1),c,IntKind.wrap .u64 (w64 (b - a)))).bind fun f=>some f) (some c)
noncomputable def q71 (c : qb→qb→Option Int) (rec : List qb→Int→Int→Int→Option (List qb)) (a : Int × Int × Int × Bool × Bool × List qb) : Option ((Int × Int × Int × Bool × Bool × List qb) ⊕ (List qb)):=
  cond (decide ((w64 (a.2.1 - a.1))≤12)) ((q9r c a.2.2.2.2.2 a.1 a.2.1).bind fun l=>(Qy l.length a.2.2.2.2.2.length).bind fun _=>some (.inr l)) (cond (a.2.2.1 == 0) ((q9i c a.2.2.2.2.2 a.1 a.2.1).bind fun m=>(Qy m.length a.2.2.2.2.2.length).bind fun _=>some (.inr m)) ((cond (!a.2.2.2.1) ((q98 c a.2.2.2.2.2 a.1 a.2.1).bind fun n=>(Qy n.length a.2.2.2.2.2.length).bind fun _=>some (w64 (a.2.2.1 - 1),n)) (some (a.2.2.1,a.2.2.2.2.2))).bind fun d=>(q9d d.2 a.1 a.2.1 c).bind fun h=>(cond (h.2 == 2) ((qb2 c d.2 a.1 a.2.1).bind fun o=>(Qy o.length d.2.length).bind fun _=>some (w64 ((w64 (a.2.1 - 1)) - (w64 (h.1 - a.1))),1,o)) (some (h.1,h.2,d.2))).bind fun f=>(cond a.2.2.2.1 (some a.2.2.2.2.1) (some false)).bind fun r=>(cond r (some (f.2.1 == 1)) (some false)).bind fun s=>(cond s ((q6t c f.2.2 a.1 a.2.1).bind fun j=>(Qy j.2.length f.2.2.length).bind fun _=>cond j.1 (some (.inr j.2)) (some (.inl j.2))) (some (.inl f.2.2)) : Option ((List qb) ⊕ (List qb))).bind fun t=>(match t with | .inl g=>(cond (decide (a.1 > 0)) ((idx g (w64 (a.1 - 1))).bind fun u=>(idx g f.1).bind fun v=>(c u v).bind fun w=>some (!(decide (w < 0)))) (some false)).bind fun x=>cond x ((qas c g a.1 a.2.1 f.1).bind fun k=>(Qy k.2.length g.length).bind fun _=>some (.inl (k.1,a.2.1,d.1,a.2.2.2.1,a.2.2.2.2.1,k.2))) ((qac c g a.1 a.2.1 f.1).bind fun b=>(Qy b.2.2.length g.length).bind fun _=>cond (decide ((w64 (b.1 - a.1)) < (w64 (a.2.1 - b.1)))) ((rec b.2.2 a.1 b.1 d.1).bind fun p=>(Qy p.length b.2.2.length).bind fun _=>some (.inl (w64 (b.1 + 1),a.2.1,d.1,decide ((w64 (b.1 - a.1)) ≥ (w64 (Int.tdiv (w64 (a.2.1 - a.1)) 8))),b.2.1,p))) ((rec b.2.2 (w64 (b.1 + 1)) a.2.1 d.1).bind fun q=>(Qy q.length b.2.2.length).bind fun _=>some (.inl (a.1,b.1,d.1,decide ((w64 (a.2.1 - b.1)) ≥ (w64 (Int.tdiv (w64 (a.2.1 - a.1)) 8))),b.2.1,q)))) | .inr y=>some (.inr y))))
noncomputable def q72 (rec : List qb→Int→Int→Int→Option (List qb)) (a : qb→qb→Option Int) (b : List qb) (c : Int) (d : Int) (f : Int) : Option (List qb):=
  (loop (q71 a rec) (c,d,f,true,true,b)).bind fun g=>some g
noncomputable def q70 : Nat→(qb→qb→Option Int)→List qb→Int→Int→Int→Option (List qb)
  | 0,_,_,_,_,_=>none
  | n + 1,a,b,c,d,f=>q72 (q70 n a) a b c d f
noncomputable def q6m (c : qb→qb→Option Int) (a : List qb) : Option (List qb):=
  (Uh (IntKind.wrap .u64 (a.length : Int))).bind fun d=>(lim (fun n=>q70 n c a 0 (a.length : Int) d)).bind fun b=>(Qy b.length a.length).bind fun _=>some b
noncomputable def q3z (c : qm) (b : Int × List qm) (d : (List (qb × Bool))) (a : Int × List qm) : Option (((List (qb × Bool))) ⊕ (Empty)):=
  (cond (decide (a.1 > c.Lo)) (some (decide (a.1 < c.Hi))) (some false)).bind fun f=>(cond f ((q21 a.2 b.1).bind fun g=>(cond g (some true) ((q21 a.2 (w64 (b.1 - 1))).bind fun h=>some h)).bind fun j=>some j) (some false)).bind fun k=>cond k (some (.inl (K8 ({X:=a.1,Y:=b.1} : qb) true d))) (some (.inl d))
noncomputable def q3y (a : Int × List qm) (b : Ya) (c : Int × (List (qb × Bool))) : Option ((Int × (List (qb × Bool))) ⊕ (((List (qb × Bool))) ⊕ (List qb × Bool))):=
  cond (decide (c.1 < (a.2.length : Int))) ((idx a.2 c.1).bind fun d=>(q3x ({X:=d.Lo,Y:=a.1} : qb) b.rows_ b.columns_ c.2).bind fun h=>(q3x ({X:=d.Hi,Y:=a.1} : qb) b.rows_ b.columns_ h).bind fun f=>(q14 (fun (x y : (List (qb × Bool)))=>List.Perm x y) (q3z d a) b.columns_ (f : (List (qb × Bool)))).bind fun _=>(Kp (q3z d a) b.columns_ (f : (List (qb × Bool)))).bind fun j=>(match j with | .inl g=>cond (decide ((g.length : Int) > 400)) (some (.inr (.inr ([],false)))) (some (.inl (w64 (c.1 + 1),g))) | .inr k=>k.elim)) (some (.inr (.inl c.2)))
noncomputable def q1a (a : Ya) (b : (List (qb × Bool))) (c : Int × List qm) : Option (((List (qb × Bool))) ⊕ (List qb × Bool)):=
  (loop (q3y c a) (0,b) : Option (((List (qb × Bool))) ⊕ (List qb × Bool))).bind fun d=>(match d with | .inl f=>some (.inl f) | .inr g=>some (.inr g))
noncomputable def q55 (b : Int × List qm) (c : Ya) (a : Int × (List (qb × Bool))) : Option ((Int × (List (qb × Bool))) ⊕ ((List (qb × Bool)))):=
  cond (decide (a.1 < (b.2.length : Int))) ((idx b.2 a.1).bind fun d=>(q3x ({X:=b.1,Y:=d.Lo} : qb) c.rows_ c.columns_ a.2).bind fun f=>(q3x ({X:=b.1,Y:=d.Hi} : qb) c.rows_ c.columns_ f).bind fun g=>some (.inl (w64 (a.1 + 1),g))) (some (.inr a.2))
noncomputable def q40 (a : Ya) (b : (List (qb × Bool))) (c : Int × List qm) : Option (((List (qb × Bool))) ⊕ (Empty)):=
  (loop (q55 c a) (0,b)).bind fun d=>some (.inl d)
noncomputable def q34 (a : List qb) (b : qb × Bool) : Option ((List qb) ⊕ Empty):=
  (app 16 a [b.1]).bind fun c=>some (.inl c)
noncomputable def q41 (a : List qb) : Option (List qb × Bool):=
  (q6m (fun c d=>q23 c d) a).bind fun b=>(Qy b.length a.length).bind fun _=>some (b,decide ((a.length : Int)≤400))
noncomputable def q7f (a : Ya) : Option (List qb × Bool):=
  (q14 (fun (x y : (List (qb × Bool)))=>List.Perm x y) (q1a a) a.rows_ (([] : List (qb × Bool)) : (List (qb × Bool)))).bind fun _=>(Kp (q1a a) a.rows_ (([] : List (qb × Bool)) : (List (qb × Bool)))).bind fun f=>(match f with | .inl c=>(q14 (fun (x y : (List (qb × Bool)))=>List.Perm x y) (q40 a) a.columns_ (c : (List (qb × Bool)))).bind fun _=>(Kp (q40 a) a.columns_ (c : (List (qb × Bool)))).bind fun g=>(match g with | .inl d=>(q4q (fun l=>(Kp (q34) l (([] : List qb) : List qb)).bind (q7h (q41))) d).bind fun _=>(Kp (q34) d (([] : List qb) : List qb)).bind (q7h (q41)) | .inr b=>b.elim) | .inr b=>some b)
noncomputable def q33 (a : qk) (b : qk) : Option Int:=
  (q23 ({X:=a.A,Y:=a.B} : qb) ({X:=b.A,Y:=b.B} : qb)).bind fun c=>some c
noncomputable def q9q (c : Int) (d : qk→qk→Option Int) (a : Int × List qk) : Option ((Int × List qk) ⊕ (List qk)):=
  (cond (decide (a.1 > c)) ((idx a.2 a.1).bind fun f=>(idx a.2 (w64 (a.1 - 1))).bind fun g=>(d f g).bind fun h=>some (decide (h < 0))) (some false)).bind fun j=>cond j ((idx a.2 (w64 (a.1 - 1))).bind fun b=>(idx a.2 a.1).bind fun k=>(idx a.2 a.1).bind fun _=>(idx (a.2.set a.1.toNat b) (w64 (a.1 - 1))).bind fun _=>some (.inl (w64 (a.1 - 1),(a.2.set a.1.toNat b).set (w64 (a.1 - 1)).toNat k))) (some (.inr a.2))
noncomputable def q9p (b : Int) (c : Int) (d : qk→qk→Option Int) (a : Int × List qk) : Option ((Int × List qk) ⊕ (List qk)):=
  cond (decide (a.1 < b)) (((loop (q9q c d) (a.1,a.2)).bind fun f=>some f).bind fun g=>some (.inl (w64 (a.1 + 1),g))) (some (.inr a.2))
noncomputable def q9o (b : qk→qk→Option Int) (c : List qk) (a : Int) (d : Int) : Option (List qk):=
  (loop (q9p d a b) (w64 (a + 1),c)).bind fun f=>some f
noncomputable def qb6 (d : Int) (b : Int) (f : qk→qk→Option Int) (a : Int × List qk) : Option ((Int × List qk) ⊕ (List qk)):=
  cond (decide ((w64 ((w64 (2 * a.1)) + 1)) ≥ d)) (some (.inr a.2)) ((cond (decide ((w64 ((w64 ((w64 (2 * a.1)) + 1)) + 1)) < d)) ((idx a.2 (w64 (b + (w64 ((w64 (2 * a.1)) + 1))))).bind fun h=>(idx a.2 (w64 ((w64 (b + (w64 ((w64 (2 * a.1)) + 1)))) + 1))).bind fun j=>(f h j).bind fun k=>some (decide (k < 0))) (some false)).bind fun l=>(cond l (some (w64 ((w64 ((w64 (2 * a.1)) + 1)) + 1))) (some (w64 ((w64 (2 * a.1)) + 1)))).bind fun c=>(idx a.2 (w64 (b + a.1))).bind fun m=>(idx a.2 (w64 (b + c))).bind fun n=>(f m n).bind fun o=>cond (!(decide (o < 0))) (some (.inr a.2)) ((idx a.2 (w64 (b + c))).bind fun g=>(idx a.2 (w64 (b + a.1))).bind fun p=>(idx a.2 (w64 (b + a.1))).bind fun _=>(idx (a.2.set (w64 (b + a.1)).toNat g) (w64 (b + c))).bind fun _=>some (.inl (c,(a.2.set (w64 (b + a.1)).toNat g).set (w64 (b + c)).toNat p))))
noncomputable def q76 (a : qk→qk→Option Int) (b : List qk) (c : Int) (d : Int) (f : Int) : Option (List qk):=
  (loop (qb6 d f a) (c,b)).bind fun g=>some g
noncomputable def q9g (d : qk→qk→Option Int) (f : Int) (b : Int) (a : Int × List qk) : Option ((Int × List qk) ⊕ (List qk)):=
  cond (decide (a.1 ≥ 0)) ((q76 d a.2 a.1 (w64 (f - b)) b).bind fun c=>(Qy c.length a.2.length).bind fun _=>some (.inl (w64 (a.1 - 1),c))) (some (.inr a.2))
noncomputable def q9h (b : Int) (g : qk→qk→Option Int) (a : Int × List qk) : Option ((Int × List qk) ⊕ (List qk)):=
  cond (decide (a.1 ≥ 0)) ((idx a.2 (w64 (b + a.1))).bind fun c=>(idx a.2 b).bind fun d=>(idx a.2 b).bind fun _=>(idx (a.2.set b.toNat c) (w64 (b + a.1))).bind fun _=>(q76 g ((a.2.set b.toNat c).set (w64 (b + a.1)).toNat d) 0 a.1 b).bind fun f=>(Qy f.length ((a.2.set b.toNat c).set (w64 (b + a.1)).toNat d).length).bind fun _=>some (.inl (w64 (a.1 - 1),f))) (some (.inr a.2))
noncomputable def q9f (c : qk→qk→Option Int) (d : List qk) (a : Int) (b : Int) : Option (List qk):=
  (loop (q9g c b a) (w64 (Int.tdiv (w64 ((w64 (b - a)) - 1)) 2),d)).bind fun f=>(loop (q9h a c) (w64 ((w64 (b - a)) - 1),f)).bind fun g=>some g
noncomputable def q4v (f : qk→qk→Option Int) (c : List qk) (a : Int) (b : Int) (d : Int) : Option (Int × Int × Int):=
  (idx c b).bind fun g=>(idx c a).bind fun h=>(f g h).bind fun j=>cond (decide (j < 0)) (some (b,a,w64 (d + 1))) (some (a,b,d))
noncomputable def q6o (a : qk→qk→Option Int) (b : List qk) (g : Int) (h : Int) (j : Int) (k : Int) : Option (Int × Int):=
  (q4v a b g h k).bind fun c=>(q4v a b c.2.1 j c.2.2).bind fun d=>(q4v a b c.1 d.1 d.2.2).bind fun f=>some (f.2.1,f.2.2)
noncomputable def q4s (c : qk→qk→Option Int) (d : List qk) (a : Int) (f : Int) : Option (Int × Int):=
  (q6o c d (w64 (a - 1)) a (w64 (a + 1)) f).bind fun b=>some (b.1,b.2)
noncomputable def q9c (d : List qk) (a : Int) (b : Int) (f : qk→qk→Option Int) : Option (Int × Int):=
  (cond (decide ((w64 (b - a)) ≥ 8)) ((cond (decide ((w64 (b - a)) ≥ 50)) ((q4s f d (w64 (a + (w64 ((w64 (Int.tdiv (w64 (b - a)) 4)) * 1)))) 0).bind fun h=>(q4s f d (w64 (a + (w64 ((w64 (Int.tdiv (w64 (b - a)) 4)) * 2)))) h.2).bind fun j=>(q4s f d (w64 (a + (w64 ((w64 (Int.tdiv (w64 (b - a)) 4)) * 3)))) j.2).bind fun k=>some (h.1,j.1,k.1,k.2)) (some (w64 (a + (w64 ((w64 (Int.tdiv (w64 (b - a)) 4)) * 1))),w64 (a + (w64 ((w64 (Int.tdiv (w64 (b - a)) 4)) * 2))),w64 (a + (w64 ((w64 (Int.tdiv (w64 (b - a)) 4)) * 3))),0))).bind fun g=>(q6o f d g.1 g.2.1 g.2.2.1 g.2.2.2).bind fun l=>some (l.1,l.2)) (some (w64 (a + (w64 ((w64 (Int.tdiv (w64 (b - a)) 4)) * 2))),0))).bind fun c=>cond (c.2 == 0) (some (c.1,1)) (cond (c.2 == 12) (some (c.1,2)) (some (c.1,0)))
noncomputable def qb1 (a : Int × Int × List qk) : Option ((Int × Int × List qk) ⊕ (List qk)):=
  cond (decide (a.1 < a.2.1)) ((idx a.2.2 a.2.1).bind fun b=>(idx a.2.2 a.1).bind fun c=>(idx a.2.2 a.1).bind fun _=>(idx (a.2.2.set a.1.toNat b) a.2.1).bind fun _=>some (.inl (w64 (a.1 + 1),w64 (a.2.1 - 1),(a.2.2.set a.1.toNat b).set a.2.1.toNat c))) (some (.inr a.2.2))
noncomputable def qb0 (f : qk→qk→Option Int) (a : List qk) (b : Int) (c : Int) : Option (List qk):=
  (loop qb1 (b,w64 (c - 1),a)).bind fun d=>some d
noncomputable def q9x (c : Int) (b : Int × Int × List qk) (d : qk→qk→Option Int) (a : Int) : Option ((Int) ⊕ (Int)):=
  (cond (decide (a < c)) ((idx b.2.2 a).bind fun f=>(idx b.2.2 (w64 (a - 1))).bind fun g=>(d f g).bind fun h=>some (!(decide (h < 0)))) (some false)).bind fun j=>cond j (some (.inl (w64 (a + 1)))) (some (.inr a))
noncomputable def q9y (c : qk→qk→Option Int) (a : Int × List qk) : Option ((Int × List qk) ⊕ (List qk)):=
  cond (decide (a.1 ≥ 1)) ((idx a.2 a.1).bind fun d=>(idx a.2 (w64 (a.1 - 1))).bind fun f=>(c d f).bind fun g=>cond (!(decide (g < 0))) (some (.inr a.2)) ((idx a.2 (w64 (a.1 - 1))).bind fun b=>(idx a.2 a.1).bind fun h=>(idx a.2 a.1).bind fun _=>(idx (a.2.set a.1.toNat b) (w64 (a.1 - 1))).bind fun _=>some (.inl (w64 (a.1 - 1),(a.2.set a.1.toNat b).set (w64 (a.1 - 1)).toNat h)))) (some (.inr a.2))
noncomputable def q9z (d : Int) (f : qk→qk→Option Int) (b : Int) (a : Int × List qk) : Option ((Int × List qk) ⊕ (Int × List qk)):=
  cond (decide (a.1 < d)) ((idx a.2 a.1).bind fun g=>(idx a.2 (w64 (a.1 - 1))).bind fun h=>(f g h).bind fun j=>cond (!(decide (j < 0))) (some (.inr (b,a.2))) ((idx a.2 (w64 (a.1 - 1))).bind fun c=>(idx a.2 a.1).bind fun k=>(idx a.2 a.1).bind fun _=>(idx (a.2.set a.1.toNat c) (w64 (a.1 - 1))).bind fun _=>some (.inl (w64 (a.1 + 1),(a.2.set a.1.toNat c).set (w64 (a.1 - 1)).toNat k)))) (some (.inr (b,a.2)))
noncomputable def q6s (c : Int) (d : qk→qk→Option Int) (h : Int) (b : Int × Int × List qk) : Option ((Int × Int × List qk) ⊕ ((List qk) ⊕ (Bool × List qk))):=
  cond (decide (b.2.1 < 5)) (((loop (q9x c b d) b.1).bind fun a=>cond (a == c) (some (.inr (true,b.2.2))) (cond (decide ((w64 (c - h)) < 50)) (some (.inr (false,b.2.2))) ((idx b.2.2 (w64 (a - 1))).bind fun f=>(idx b.2.2 a).bind fun j=>(idx b.2.2 a).bind fun _=>(idx (b.2.2.set a.toNat f) (w64 (a - 1))).bind fun _=>(cond (decide ((w64 (a - h)) ≥ 2)) ((loop (q9y d) (w64 (a - 1),(b.2.2.set a.toNat f).set (w64 (a - 1)).toNat j)).bind fun g=>some g) (some ((b.2.2.set a.toNat f).set (w64 (a - 1)).toNat j))).bind fun k=>cond (decide ((w64 (c - a)) ≥ 2)) ((loop (q9z c d a) (w64 (a + 1),k)).bind fun g=>some (.inl g)) (some (.inl (a,k))))) : Option ((Int × List qk) ⊕ (Bool × List qk))).bind fun m=>(match m with | .inl l=>some (.inl (l.1,w64 (b.2.1 + 1),l.2)) | .inr n=>some (.inr (.inr n)))) (some (.inr (.inl b.2.2)))
noncomputable def q6r (b : qk→qk→Option Int) (c : List qk) (a : Int) (d : Int) : Option (Bool × List qk):=
  (loop (q6s d b a) (w64 (a + 1),0,c) : Option ((List qk) ⊕ (Bool × List qk))).bind fun f=>(match f with | .inl g=>some (false,g) | .inr h=>some h)
noncomputable def qaq (b : Int × Int × List qk) (c : Int) (d : qk→qk→Option Int) (a : Int) : Option ((Int) ⊕ (Int)):=
  (cond (decide (a≤b.2.1)) ((idx b.2.2 c).bind fun f=>(idx b.2.2 a).bind fun g=>(d f g).bind fun h=>some (!(decide (h < 0)))) (some false)).bind fun j=>cond j (some (.inl (w64 (a + 1)))) (some (.inr a))
noncomputable def qar (c : Int) (b : Int × Int × List qk) (d : Int) (f : qk→qk→Option Int) (a : Int) : Option ((Int) ⊕ (Int)):=
  (cond (decide (c≤a)) ((idx b.2.2 d).bind fun g=>(idx b.2.2 a).bind fun h=>(f g h).bind fun j=>some (decide (j < 0))) (some false)).bind fun k=>cond k (some (.inl (w64 (a - 1)))) (some (.inr a))
noncomputable def qap (d : Int) (f : qk→qk→Option Int) (a : Int × Int × List qk) : Option ((Int × Int × List qk) ⊕ (Int × List qk)):=
  (loop (qaq a d f) a.1).bind fun b=>(loop (qar b a d f) a.2.1).bind fun c=>cond (decide (b > c)) (some (.inr (b,a.2.2))) ((idx a.2.2 c).bind fun g=>(idx a.2.2 b).bind fun h=>(idx a.2.2 b).bind fun _=>(idx (a.2.2.set b.toNat g) c).bind fun _=>some (.inl (w64 (b + 1),w64 (c - 1),(a.2.2.set b.toNat g).set c.toNat h)))
noncomputable def qao (g : qk→qk→Option Int) (b : List qk) (a : Int) (h : Int) (c : Int) : Option (Int × List qk):=
  (idx b c).bind fun d=>(idx b a).bind fun j=>(idx b a).bind fun _=>(idx (b.set a.toNat d) c).bind fun _=>(loop (qap a g) (w64 (a + 1),w64 (h - 1),(b.set a.toNat d).set c.toNat j)).bind fun f=>some (f.1,f.2)
noncomputable def qa7 (h : Int) (c : List qk) (b : Int) (d : qk) (f : Int) (g : qk) (j : qk→qk→Option Int) (a : Int) : Option ((Int) ⊕ (Int)):=
  (cond (decide (a≤(w64 (h - 1)))) ((idx ((c.set b.toNat d).set f.toNat g) a).bind fun k=>(idx ((c.set b.toNat d).set f.toNat g) b).bind fun l=>(j k l).bind fun m=>some (decide (m < 0))) (some false)).bind fun n=>cond n (some (.inl (w64 (a + 1)))) (some (.inr a))
noncomputable def qa8 (h : Int) (c : List qk) (b : Int) (d : qk) (f : Int) (g : qk) (j : qk→qk→Option Int) (a : Int) : Option ((Int) ⊕ (Int)):=
  (cond (decide (h≤a)) ((idx ((c.set b.toNat d).set f.toNat g) a).bind fun k=>(idx ((c.set b.toNat d).set f.toNat g) b).bind fun l=>(j k l).bind fun m=>some (!(decide (m < 0)))) (some false)).bind fun n=>cond n (some (.inl (w64 (a - 1)))) (some (.inr a))
noncomputable def qaa (b : Int × Int × List qk) (c : Int) (d : qk→qk→Option Int) (a : Int) : Option ((Int) ⊕ (Int)):=
  (cond (decide (a≤b.2.1)) ((idx b.2.2 a).bind fun f=>(idx b.2.2 c).bind fun g=>(d f g).bind fun h=>some (decide (h < 0))) (some false)).bind fun j=>cond j (some (.inl (w64 (a + 1)))) (some (.inr a))
noncomputable def qab (c : Int) (b : Int × Int × List qk) (d : Int) (f : qk→qk→Option Int) (a : Int) : Option ((Int) ⊕ (Int)):=
  (cond (decide (c≤a)) ((idx b.2.2 a).bind fun g=>(idx b.2.2 d).bind fun h=>(f g h).bind fun j=>some (!(decide (j < 0)))) (some false)).bind fun k=>cond k (some (.inl (w64 (a - 1)))) (some (.inr a))
noncomputable def qa9 (d : Int) (f : qk→qk→Option Int) (a : Int × Int × List qk) : Option ((Int × Int × List qk) ⊕ (Int × List qk)):=
  (loop (qaa a d f) a.1).bind fun b=>(loop (qab b a d f) a.2.1).bind fun c=>cond (decide (b > c)) (some (.inr (c,a.2.2))) ((idx a.2.2 c).bind fun g=>(idx a.2.2 b).bind fun h=>(idx a.2.2 b).bind fun _=>(idx (a.2.2.set b.toNat g) c).bind fun _=>some (.inl (w64 (b + 1),w64 (c - 1),(a.2.2.set b.toNat g).set c.toNat h)))
noncomputable def qa6 (k : qk→qk→Option Int) (b : List qk) (a : Int) (l : Int) (c : Int) : Option (Int × Bool × List qk):=
  (idx b c).bind fun d=>(idx b a).bind fun f=>(idx b a).bind fun _=>(idx (b.set a.toNat d) c).bind fun _=>(loop (qa7 l b a d c f k) (w64 (a + 1))).bind fun j=>(loop (qa8 j b a d c f k) (w64 (l - 1))).bind fun g=>cond (decide (j > g)) ((idx ((b.set a.toNat d).set c.toNat f) a).bind fun m=>(idx ((b.set a.toNat d).set c.toNat f) g).bind fun p=>(idx ((b.set a.toNat d).set c.toNat f) g).bind fun _=>(idx (((b.set a.toNat d).set c.toNat f).set g.toNat m) a).bind fun _=>some (g,true,(((b.set a.toNat d).set c.toNat f).set g.toNat m).set a.toNat p)) ((idx ((b.set a.toNat d).set c.toNat f) g).bind fun n=>(idx ((b.set a.toNat d).set c.toNat f) j).bind fun q=>(idx ((b.set a.toNat d).set c.toNat f) j).bind fun _=>(idx (((b.set a.toNat d).set c.toNat f).set j.toNat n) g).bind fun _=>(loop (qa9 a k) (w64 (j + 1),w64 (g - 1),(((b.set a.toNat d).set c.toNat f).set j.toNat n).set g.toNat q)).bind fun h=>(idx h.2 a).bind fun o=>(idx h.2 h.1).bind fun r=>(idx h.2 h.1).bind fun _=>(idx (h.2.set h.1.toNat o) a).bind fun _=>some (h.1,false,(h.2.set h.1.toNat o).set a.toNat r))
noncomputable def q97 (b : Int) (d : Int) (f : Int) (a : Int × List qk × Int) : Option ((Int × List qk × Int) ⊕ (List qk)):=
  cond (decide (a.1≤(w64 ((w64 (b + (w64 ((w64 (Int.tdiv (w64 (d - b)) 4)) * 2)))) + 1)))) ((q16 a.2.2).bind fun c=>(cond (decide ((w64 (andI .u64 c (IntKind.wrap .u64 (f - 1)))) ≥ (w64 (d - b)))) (some (w64 ((w64 (andI .u64 c (IntKind.wrap .u64 (f - 1)))) - (w64 (d - b))))) (some (w64 (andI .u64 c (IntKind.wrap .u64 (f - 1)))))).bind fun g=>(idx a.2.1 (w64 (b + g))).bind fun h=>(idx a.2.1 a.1).bind fun j=>(idx a.2.1 a.1).bind fun _=>(idx (a.2.1.set a.1.toNat h) (w64 (b + g))).bind fun _=>some (.inl (w64 (a.1 + 1),(a.2.1.set a.1.toNat h).set (w64 (b + g)).toNat j,c))) (some (.inr a.2.1))
noncomputable def q96 (g : qk→qk→Option Int) (c : List qk) (a : Int) (b : Int) : Option (List qk):=
  cond (decide ((w64 (b - a)) ≥ 8)) ((q15 (w64 (b - a))).bind fun d=>(loop (q97 a b d) (w64 ((w64 (a + (w64 ((w64 (Int.tdiv (w64 (b - a)) 4)) * 2)))) - 1),c,IntKind.wrap .u64 (w64 (b - a)))).bind fun f=>some f) (some c)
noncomputable def q6y (c : qk→qk→Option Int) (rec : List qk→Int→Int→Int→Option (List qk)) (a : Int × Int × Int × Bool × Bool × List qk) : Option ((Int × Int × Int × Bool × Bool × List qk) ⊕ (List qk)):=
  cond (decide ((w64 (a.2.1 - a.1))≤12)) ((q9o c a.2.2.2.2.2 a.1 a.2.1).bind fun l=>(Qy l.length a.2.2.2.2.2.length).bind fun _=>some (.inr l)) (cond (a.2.2.1 == 0) ((q9f c a.2.2.2.2.2 a.1 a.2.1).bind fun m=>(Qy m.length a.2.2.2.2.2.length).bind fun _=>some (.inr m)) ((cond (!a.2.2.2.1) ((q96 c a.2.2.2.2.2 a.1 a.2.1).bind fun n=>(Qy n.length a.2.2.2.2.2.length).bind fun _=>some (w64 (a.2.2.1 - 1),n)) (some (a.2.2.1,a.2.2.2.2.2))).bind fun d=>(q9c d.2 a.1 a.2.1 c).bind fun h=>(cond (h.2 == 2) ((qb0 c d.2 a.1 a.2.1).bind fun o=>(Qy o.length d.2.length).bind fun _=>some (w64 ((w64 (a.2.1 - 1)) - (w64 (h.1 - a.1))),1,o)) (some (h.1,h.2,d.2))).bind fun f=>(cond a.2.2.2.1 (some a.2.2.2.2.1) (some false)).bind fun r=>(cond r (some (f.2.1 == 1)) (some false)).bind fun s=>(cond s ((q6r c f.2.2 a.1 a.2.1).bind fun j=>(Qy j.2.length f.2.2.length).bind fun _=>cond j.1 (some (.inr j.2)) (some (.inl j.2))) (some (.inl f.2.2)) : Option ((List qk) ⊕ (List qk))).bind fun t=>(match t with | .inl g=>(cond (decide (a.1 > 0)) ((idx g (w64 (a.1 - 1))).bind fun u=>(idx g f.1).bind fun v=>(c u v).bind fun w=>some (!(decide (w < 0)))) (some false)).bind fun x=>cond x ((qao c g a.1 a.2.1 f.1).bind fun k=>(Qy k.2.length g.length).bind fun _=>some (.inl (k.1,a.2.1,d.1,a.2.2.2.1,a.2.2.2.2.1,k.2))) ((qa6 c g a.1 a.2.1 f.1).bind fun b=>(Qy b.2.2.length g.length).bind fun _=>cond (decide ((w64 (b.1 - a.1)) < (w64 (a.2.1 - b.1)))) ((rec b.2.2 a.1 b.1 d.1).bind fun p=>(Qy p.length b.2.2.length).bind fun _=>some (.inl (w64 (b.1 + 1),a.2.1,d.1,decide ((w64 (b.1 - a.1)) ≥ (w64 (Int.tdiv (w64 (a.2.1 - a.1)) 8))),b.2.1,p))) ((rec b.2.2 (w64 (b.1 + 1)) a.2.1 d.1).bind fun q=>(Qy q.length b.2.2.length).bind fun _=>some (.inl (a.1,b.1,d.1,decide ((w64 (a.2.1 - b.1)) ≥ (w64 (Int.tdiv (w64 (a.2.1 - a.1)) 8))),b.2.1,q)))) | .inr y=>some (.inr y))))
noncomputable def q6z (rec : List qk→Int→Int→Int→Option (List qk)) (a : qk→qk→Option Int) (b : List qk) (c : Int) (d : Int) (f : Int) : Option (List qk):=
  (loop (q6y a rec) (c,d,f,true,true,b)).bind fun g=>some g
noncomputable def q6x : Nat→(qk→qk→Option Int)→List qk→Int→Int→Int→Option (List qk)
  | 0,_,_,_,_,_=>none
  | n + 1,a,b,c,d,f=>q6z (q6x n a) a b c d f
noncomputable def q4r (c : qk→qk→Option Int) (a : List qk) : Option (List qk):=
  (Uh (IntKind.wrap .u64 (a.length : Int))).bind fun d=>(lim (fun n=>q6x n c a 0 (a.length : Int) d)).bind fun b=>(Qy b.length a.length).bind fun _=>some b
noncomputable def q3w (c : List qb × Bool) (g : Ya) (a : Int × (List (Int × Int)) × (List (Int × Int)) × List qk) : Option ((Int × (List (Int × Int)) × (List (Int × Int)) × List qk) ⊕ (List qk)):=
  cond (decide (a.1 < (c.1.length : Int))) ((idx c.1 a.1).bind fun b=>(q54 g b).bind fun d=>(cond d.2.2.1 ((app 16 a.2.2.2 [({A:=K4 0 b.Y a.2.1,B:=a.1} : qk)]).bind fun h=>some h) (some a.2.2.2)).bind fun f=>(cond d.2.2.2 ((app 16 f [({A:=K4 0 b.X a.2.2.1,B:=a.1} : qk)]).bind fun j=>some j) (some f)).bind fun k=>some (.inl (w64 (a.1 + 1),K8 b.Y a.1 a.2.1,K8 b.X a.1 a.2.2.1,k))) (some (.inr a.2.2.2))
noncomputable def q53 (f : List qt) : Option (Qq × Bool):=
  (q7d f).bind fun c=>(q7f c).bind fun a=>cond (!a.2) (some (({Nodes:=[],Edges:=[]} : Qq),false)) ((loop (q3w a c) (0,[],[],[])).bind fun b=>(q4r (fun g h=>q33 g h) b).bind fun d=>(Qy d.length b.length).bind fun _=>some (({Nodes:=a.1,Edges:=d} : Qq),decide ((b.length : Int)≤800)))
noncomputable def q6k (b : List qb) (f : List qb) (a : Int) : Option ((Int) ⊕ ((Unit) ⊕ (Bool))):=
  cond (decide (a < (b.length : Int))) ((idx b a).bind fun c=>(idx f a).bind fun d=>cond (!((c.X == d.X) && ((c.Y == d.Y) && true))) (some (.inr (.inr false))) (some (.inl (w64 (a + 1))))) (some (.inr (.inl ())))
noncomputable def q93 (a : List qb) (b : List qb) : Option Bool:=
  cond ((a.length : Int) != (b.length : Int)) (some false) ((loop (q6k a b) 0 : Option ((Unit) ⊕ (Bool))).bind fun c=>(match c with | .inl _=>some true | .inr d=>some d))
noncomputable def q6j (b : List qk) (f : List qk) (a : Int) : Option ((Int) ⊕ ((Unit) ⊕ (Bool))):=
  cond (decide (a < (b.length : Int))) ((idx b a).bind fun c=>(idx f a).bind fun d=>cond (!((c.A == d.A) && ((c.B == d.B) && true))) (some (.inr (.inr false))) (some (.inl (w64 (a + 1))))) (some (.inr (.inl ())))
noncomputable def q92 (a : List qk) (b : List qk) : Option Bool:=
  cond ((a.length : Int) != (b.length : Int)) (some false) ((loop (q6j a b) 0 : Option ((Unit) ⊕ (Bool))).bind fun c=>(match c with | .inl _=>some true | .inr d=>some d))
noncomputable def qbi (a : Qq) (b : Qq) : Option Bool:=
  (q93 a.Nodes b.Nodes).bind fun c=>(cond c ((q92 a.Edges b.Edges).bind fun d=>some d) (some false)).bind fun f=>some f
noncomputable def q18 (a : Qq) : Option Int:=
  (cond (decide ((a.Nodes.length : Int) > 400)) (some true) (some (decide ((a.Edges.length : Int) > 800)))).bind fun d=>cond d (some 4) ((q7e a).bind fun b=>cond (!b.2) (some 8) ((q53 b.1).bind fun c=>(cond (!c.2) (some true) ((qbi c.1 a).bind fun f=>some (!f))).bind fun g=>cond g (some 8) (some 0)))
noncomputable def q3v (a : Qq) : Option (List qt × Int):=
  (q18 a).bind fun b=>cond (b != 0) (some ([],b)) ((q7e a).bind fun c=>some (c.1,0))
noncomputable def q3t (b : (Bool × Bool × Bool × Bool)) (a : Int × Int) : Option ((Int × Int) ⊕ (Int)):=
  cond (decide (a.2 < 4)) (((idxA 4 [b.1,b.2.1,b.2.2.1,b.2.2.2] a.2).bind fun c=>cond c (some (w64 (a.1 + 1))) (some a.1)).bind fun d=>some (.inl (d,w64 (a.2 + 1)))) (some (.inr a.1))
noncomputable def q30 (a : Qq) (b : Int) : Option (Int × Int):=
  (q3v a).bind fun c=>cond (c.2 != 0) (some (0,c.2)) ((cond (decide (b < 0)) (some true) (some (decide (b ≥ (a.Nodes.length : Int))))).bind fun d=>cond d (some (0,6)) ((q7d c.1).bind fun f=>(idx a.Nodes b).bind fun g=>(q54 f g).bind fun h=>(loop (q3t h) (0,0)).bind fun j=>some (j,0)))
noncomputable def q3u (c : List qt × Int) (b : Int × Int) : Option ((Int × Int) ⊕ (Int)):=
  cond (decide (b.2 < (c.1.length : Int))) ((idx c.1 b.2).bind fun a=>some (.inl (w64 (b.1 + (w64 ((w64 ((w64 ((max a.A.X a.B.X) - (min a.A.X a.B.X))) + (max a.A.Y a.B.Y))) - (min a.A.Y a.B.Y)))),w64 (b.2 + 1)))) (some (.inr b.1))
noncomputable def q7b (b : Qq) : Option (Int × Int):=
  (q3v b).bind fun a=>cond (a.2 != 0) (some (0,a.2)) ((loop (q3u a) (0,0)).bind fun c=>some (c,0))
noncomputable def q1v (a : Int) (b : Int) (c : Int) (d : Int) : Option qt:=
  (Yb a b).bind fun f=>(Yb c d).bind fun g=>some ({A:=f,B:=g} : qt)
noncomputable def q7c (b : List qt) (a : Int) : Option ((Int) ⊕ ((Unit) ⊕ (Qq × Int))):=
  cond (decide (a < (b.length : Int))) ((idx b a).bind fun c=>(q7g c).bind fun d=>cond (!d) (some (.inr (.inr (({Nodes:=[],Edges:=[]} : Qq),8)))) (some (.inl (w64 (a + 1))))) (some (.inr (.inl ())))
noncomputable def Jm (a : List qt) : Option (Qq × Int):=
  cond (decide ((a.length : Int) > 400)) (some (({Nodes:=[],Edges:=[]} : Qq),4)) ((loop (q7c a) 0 : Option ((Unit) ⊕ (Qq × Int))).bind fun c=>(match c with | .inl _=>(q53 a).bind fun b=>cond (!b.2) (some (({Nodes:=[],Edges:=[]} : Qq),4)) (some (b.1,0)) | .inr d=>some d))
noncomputable def q69 (b : List qb) (c : qb) (a : Int) : Option ((Int) ⊕ ((Unit) ⊕ (Int))):=
  cond (decide (a < (b.length : Int))) ((idx b a).bind fun d=>cond ((d.X == c.X) && ((d.Y == c.Y) && true)) (some (.inr (.inr a))) (some (.inl (w64 (a + 1))))) (some (.inr (.inl ())))
noncomputable def q8z (a : List qb) (b : qb) : Option Int:=
  (loop (q69 a b) 0 : Option ((Unit) ⊕ (Int))).bind fun c=>(match c with | .inl _=>some (-1) | .inr d=>some d)
def Zx (x : Ku) : List DV:=[.int .i64 x.At.X,.int .i64 x.At.Y,.int .u8 x.Head,.int .i64 x.Steps]
noncomputable def q3f (a : qb) : Option Bool:=
  (cond (decide ((max (max (max a.X (w64 (0 - a.X))) a.Y) (w64 (0 - a.Y)))≤1000000)) (some (decide ((min a.X a.Y) ≥ (-1000000)))) (some false)).bind fun b=>some b
noncomputable def q5h (c : List K5) (b : Int) : Option ((Int) ⊕ ((Unit) ⊕ (Int))):=
  cond (decide (b < (c.length : Int))) ((idx c b).bind fun a=>(cond (decide (a.Kind < 1)) (some true) (some (decide (a.Kind > 4)))).bind fun d=>(cond d (some true) ((q3f a.At).bind fun f=>some (!f))).bind fun g=>(cond g (some true) (some (decide (a.Weight < 1)))).bind fun h=>(cond h (some true) (some (decide (a.Weight > 1000000)))).bind fun j=>(cond j (some true) (some (decide (a.Reach < 0)))).bind fun k=>(cond k (some true) (some (decide (a.Reach > 1000000)))).bind fun l=>cond l (some (.inr (.inr 8))) (some (.inl (w64 (b + 1))))) (some (.inr (.inl ())))
noncomputable def q2d (a : List K5) : Option Int:=
  cond (decide ((a.length : Int) > 60)) (some 4) ((loop (q5h a) 0 : Option ((Unit) ⊕ (Int))).bind fun b=>(match b with | .inl _=>some 0 | .inr c=>some c))
noncomputable def q3g (d : List K5) (b : qb) (c : Int × Int) : Option ((Int × Int) ⊕ (Int)):=
  cond (decide (c.1 < (d.length : Int))) (((idx d c.1).bind fun a=>cond (decide ((max (max (w64 (b.X - a.At.X)) (w64 (0 - (w64 (b.X - a.At.X))))) (max (w64 (b.Y - a.At.Y)) (w64 (0 - (w64 (b.Y - a.At.Y)))))) > a.Reach)) (some c.2) ((cond (a.Kind == 1) (some 1) (cond (a.Kind == 2) (some (-1)) ((cond ((a.Kind == 3) == (decide ((max (w64 (b.Y - a.At.Y)) (w64 (0 - (w64 (b.Y - a.At.Y))))) > (max (w64 (b.X - a.At.X)) (w64 (0 - (w64 (b.X - a.At.X)))))))) (some ((max (w64 (b.X - a.At.X)) (w64 (0 - (w64 (b.X - a.At.X))))) != (max (w64 (b.Y - a.At.Y)) (w64 (0 - (w64 (b.Y - a.At.Y))))))) (some false)).bind fun f=>cond f (some 1) (cond ((max (w64 (b.X - a.At.X)) (w64 (0 - (w64 (b.X - a.At.X))))) != (max (w64 (b.Y - a.At.Y)) (w64 (0 - (w64 (b.Y - a.At.Y)))))) (some (-1)) (some 0))))).bind fun g=>(some ()).bind fun _=>some (w64 (c.2 + (w64 ((w64 (g * a.Weight)) * (w64 ((w64 (a.Reach + 1)) - (max (max (w64 (b.X - a.At.X)) (w64 (0 - (w64 (b.X - a.At.X))))) (max (w64 (b.Y - a.At.Y)) (w64 (0 - (w64 (b.Y - a.At.Y)))))))))))))).bind fun h=>some (.inl (w64 (c.1 + 1),h))) (some (.inr c.2))
noncomputable def q5i (a : List K5) (b : qb) : Option Int:=
  (some ()).bind fun _=>((loop (q3g a b) (0,0)).bind fun c=>some c).bind fun d=>some d
noncomputable def q2e (b : List K5) (c : qb) : Option Int:=
  (q5i b c).bind fun a=>cond (decide (a > 0)) (some 0) (cond (decide (a < 0)) (some 1) (some 2))
noncomputable def J8 (g : Int) (h : List K5) (a : Int × Int × Int × Int × List qb) : Option ((Int × Int × Int × Int × List qb) ⊕ ((List qb) ⊕ (List qb × Int))):=
  cond (decide (a.2.1 < g)) ((q2e h ({X:=a.2.2.1,Y:=a.2.2.2.1} : qb)).bind fun f=>(cond (decide (f < 2)) (some ((Int.tmod a.1 2) != f)) (some false)).bind fun j=>(cond j (some (Int.tmod (IntKind.wrap .u8 (a.1 + 1)) 4)) (some a.1)).bind fun b=>(idxA 4 [({X:=1,Y:=0} : qb),({X:=0,Y:=1} : qb),({X:=(-1),Y:=0} : qb),({X:=0,Y:=(-1)} : qb)] b).bind fun c=>(idxA 4 [({X:=1,Y:=0} : qb),({X:=0,Y:=1} : qb),({X:=(-1),Y:=0} : qb),({X:=0,Y:=(-1)} : qb)] b).bind fun d=>(q3f ({X:=w64 (a.2.2.1 + c.X),Y:=w64 (a.2.2.2.1 + d.Y)} : qb)).bind fun k=>cond (!k) (some (.inr (.inr ([],16)))) ((app 16 a.2.2.2.2 [({X:=w64 (a.2.2.1 + c.X),Y:=w64 (a.2.2.2.1 + d.Y)} : qb)]).bind fun l=>some (.inl (b,w64 (a.2.1 + 1),w64 (a.2.2.1 + c.X),w64 (a.2.2.2.1 + d.Y),l)))) (some (.inr (.inl a.2.2.2.2)))
noncomputable def Ju (c : List K5) (a : qb) (d : Int) (b : Int) : Option (List qb × Int):=
  (q2d c).bind fun f=>cond (f != 0) (some ([],f)) ((q3f a).bind fun g=>(cond (!g) (some true) (some (decide (d > 3)))).bind fun h=>(cond h (some true) (some (decide (b < 0)))).bind fun j=>(cond j (some true) (some (decide (b > 500)))).bind fun k=>cond k (some ([],2)) ((loop (J8 b c) (d,0,a.X,a.Y,[a]) : Option ((List qb) ⊕ (List qb × Int))).bind fun l=>(match l with | .inl m=>some (m,0) | .inr n=>some n)))
noncomputable def q2x (b : List qb) (c : qb) (a : Int) : Option ((Int) ⊕ ((Unit) ⊕ (Int))):=
  cond (decide (a < (b.length : Int))) ((idx b a).bind fun d=>cond ((c.X == d.X) && ((c.Y == d.Y) && true)) (some (.inr (.inr a))) (some (.inl (w64 (a + 1))))) (some (.inr (.inl ())))
noncomputable def q95 (a : List qb) (b : qb) : Option Int:=
  (loop (q2x a b) 0 : Option ((Unit) ⊕ (Int))).bind fun c=>(match c with | .inl _=>some (-1) | .inr d=>some d)
noncomputable def Z4 (c : Ku) (j : List K5) (a : Int × Int × (List (qb × Bool)) × List qt × Int × Int) : Option ((Int × Int × (List (qb × Bool)) × List qt × Int × Int) ⊕ (((List (qb × Bool)) × List qt) ⊕ (Int × (List (qb × Bool)) × List qt))):=
  cond (decide (a.2.1 < ((c).Steps))) ((Ju j ({X:=a.2.2.2.2.1,Y:=a.2.2.2.2.2} : qb) a.1 1).bind fun d=>cond (d.2 != 0) (some (.inr (.inr (d.2,a.2.2.1,[])))) ((idx d.1 1).bind fun b=>(q95 [({X:=1,Y:=0} : qb),({X:=0,Y:=1} : qb),({X:=(-1),Y:=0} : qb),({X:=0,Y:=(-1)} : qb)] ({X:=w64 (b.X - a.2.2.2.2.1),Y:=w64 (b.Y - a.2.2.2.2.2)} : qb)).bind fun f=>(cond (decide (a.2.1 > 0)) (some ((IntKind.wrap .u8 f) == a.1)) (some false)).bind fun k=>(cond k ((idx a.2.2.2.1 (w64 ((a.2.2.2.1.length : Int) - 1))).bind fun l=>some (.inl (a.2.2.2.1.set (w64 ((a.2.2.2.1.length : Int) - 1)).toNat ({A:=l.A,B:=b} : qt)))) ((app 32 a.2.2.2.1 [({A:=({X:=a.2.2.2.2.1,Y:=a.2.2.2.2.2} : qb),B:=b} : qt)]).bind fun g=>cond (decide ((g.length : Int) > 400)) (some (.inr (4,a.2.2.1,[]))) (some (.inl g))) : Option ((List qt) ⊕ (Int × (List (qb × Bool)) × List qt))).bind fun m=>(match m with | .inl h=>(cond (K4 false b a.2.2.1) (some true) (some ((b.X == (((c).At).X)) && ((b.Y == (((c).At).Y)) && true)))).bind fun n=>cond n (some (.inr (.inl (K8 b true (K8 ({X:=a.2.2.2.2.1,Y:=a.2.2.2.2.2} : qb) true a.2.2.1),h)))) (some (.inl (IntKind.wrap .u8 f,w64 (a.2.1 + 1),K8 b true (K8 ({X:=a.2.2.2.2.1,Y:=a.2.2.2.2.2} : qb) true a.2.2.1),h,b.X,b.Y))) | .inr o=>some (.inr (.inr o))))) (some (.inr (.inl (a.2.2.1,a.2.2.2.1))))
noncomputable def q35 (c : List K5) (a : Ku) (d : List qt) (f : List (qb × Bool)) : Option (Int × (List (qb × Bool)) × List qt):=
  (loop (Z4 a c) ((a).Head,0,f,d,((a).At).X,((a).At).Y) : Option (((List (qb × Bool)) × List qt) ⊕ (Int × (List (qb × Bool)) × List qt))).bind fun g=>(match g with | .inl b=>some (0,b.1,b.2) | .inr h=>some h)
noncomputable def q31 (c : List Ku) (b : Int) : Option ((Int) ⊕ ((Unit) ⊕ (Qq × Int))):=
  cond (decide (b < (c.length : Int))) ((idx c b).bind fun a=>(q52 a.At).bind fun d=>(cond (!d) (some true) (some (decide (a.Head > 3)))).bind fun f=>(cond f (some true) (some (decide (a.Steps < 0)))).bind fun g=>(cond g (some true) (some (decide (a.Steps > 500)))).bind fun h=>cond h (some (.inr (.inr (({Nodes:=[],Edges:=[]} : Qq),8)))) (some (.inl (w64 (b + 1))))) (some (.inr (.inl ())))
noncomputable def Jl (c : List Ku) (d : List K5) (a : Int × List qt × (List (qb × Bool))) : Option ((Int × List qt × (List (qb × Bool))) ⊕ ((List qt) ⊕ (Qq × Int))):=
  cond (decide (a.1 < (c.length : Int))) ((idx c a.1).bind fun f=>(q35 d f a.2.1 a.2.2).bind fun b=>cond (b.1 != 0) (some (.inr (.inr (({Nodes:=[],Edges:=[]} : Qq),b.1)))) (some (.inl (w64 (a.1 + 1),b.2.2,b.2.1)))) (some (.inr (.inl a.2.1)))
noncomputable def q19 (c : List K5) (a : List Ku) : Option (Qq × Int):=
  (q2d c).bind fun d=>cond (d != 0) (some (({Nodes:=[],Edges:=[]} : Qq),d)) (cond (decide ((a.length : Int) > 30)) (some (({Nodes:=[],Edges:=[]} : Qq),4)) ((loop (q31 a) 0 : Option ((Unit) ⊕ (Qq × Int))).bind fun g=>(match g with | .inl _=>(loop (Jl a c) (0,[],[]) : Option ((List qt) ⊕ (Qq × Int))).bind fun h=>(match h with | .inl j=>(Jm j).bind fun f=>some (f.1,f.2) | .inr b=>some b) | .inr b=>some b)))
noncomputable def q6a (b : Qq) (f : Qq) (a : Int) : Option ((Int) ⊕ ((Unit) ⊕ (Bool))):=
  cond (decide (a < (b.Nodes.length : Int))) ((idx b.Nodes a).bind fun c=>(idx f.Nodes a).bind fun d=>cond (!((c.X == d.X) && ((c.Y == d.Y) && true))) (some (.inr (.inr false))) (some (.inl (w64 (a + 1))))) (some (.inr (.inl ())))
noncomputable def q6b (b : Qq) (f : Qq) (a : Int) : Option ((Int) ⊕ ((Unit) ⊕ (Bool))):=
  cond (decide (a < (b.Edges.length : Int))) ((idx b.Edges a).bind fun c=>(idx f.Edges a).bind fun d=>cond (!((c.A == d.A) && ((c.B == d.B) && true))) (some (.inr (.inr false))) (some (.inl (w64 (a + 1))))) (some (.inr (.inl ())))
noncomputable def q2u (a : Qq) (b : Qq) : Option Bool:=
  (cond ((a.Nodes.length : Int) != (b.Nodes.length : Int)) (some true) (some ((a.Edges.length : Int) != (b.Edges.length : Int)))).bind fun d=>cond d (some false) ((loop (q6a a b) 0 : Option ((Unit) ⊕ (Bool))).bind fun f=>(match f with | .inl _=>(loop (q6b a b) 0 : Option ((Unit) ⊕ (Bool))).bind fun g=>(match g with | .inl _=>some true | .inr c=>some c) | .inr c=>some c))
noncomputable def q5p (a : Qq) (c : List qt) : Option Bool:=
  (Jm c).bind fun b=>(cond (b.2 == 0) ((q2u b.1 a).bind fun d=>some d) (some false)).bind fun f=>(cond f ((q18 a).bind fun g=>some (g == 0)) (some false)).bind fun h=>some h
noncomputable def q4k : Option Bool:=
  ((Yb 0 0).bind fun g=>(Yb 2 0).bind fun h=>(Yb 2 3).bind fun j=>(Yb 4 0).bind fun k=>some [g,h,j,k]).bind fun l=>(q30 ({Nodes:=l,Edges:=[({A:=0,B:=1} : qk),({A:=1,B:=2} : qk),({A:=1,B:=3} : qk)]} : Qq) 1).bind fun b=>((Yb 0 0).bind fun m=>(Yb 2 0).bind fun n=>(Yb 2 3).bind fun o=>(Yb 4 0).bind fun p=>some [m,n,o,p]).bind fun q=>(q7b ({Nodes:=q,Edges:=[({A:=0,B:=1} : qk),({A:=1,B:=2} : qk),({A:=1,B:=3} : qk)]} : Qq)).bind fun c=>(q1v 0 0 4 0).bind fun r=>(q1v 2 3 2 0).bind fun s=>(q1v 2 (-1) 2 0).bind fun t=>(Jm [r,s,t]).bind fun a=>(Yb 2 0).bind fun u=>(q8z a.1.Nodes u).bind fun v=>(q30 a.1 v).bind fun d=>(Yb 0 0).bind fun w=>(Yb 4 0).bind fun x=>(Yb 2 2).bind fun y=>(q19 [] [({At:=({X:=0,Y:=0} : qb),Head:=0,Steps:=4} : Ku),({At:=y,Head:=3,Steps:=9} : Ku)]).bind fun f=>(Yb 0 0).bind fun z=>(Yb 2 0).bind fun aa=>(Yb 2 2).bind fun ab=>(Yb 4 0).bind fun ac=>((Yb 0 0).bind fun ad=>(Yb 2 0).bind fun ae=>(Yb 2 3).bind fun af=>(Yb 4 0).bind fun ag=>some [ad,ae,af,ag]).bind fun _=>((Yb 0 0).bind fun ah=>(Yb 2 0).bind fun ai=>(Yb 2 3).bind fun aj=>(Yb 4 0).bind fun ak=>some [ah,ai,aj,ak]).bind fun al=>(q1v 0 0 4 0).bind fun am=>(q1v 2 0 2 3).bind fun an=>(q5p ({Nodes:=al,Edges:=[({A:=0,B:=1} : qk),({A:=1,B:=2} : qk),({A:=1,B:=3} : qk)]} : Qq) [am,an]).bind fun ao=>(cond ao (some (b.2 == 0)) (some false)).bind fun ap=>(cond ap (some (b.1 == 3)) (some false)).bind fun aq=>(cond aq (some (c.2 == 0)) (some false)).bind fun ar=>(cond ar (some (c.1 == 7)) (some false)).bind fun au=>(cond au (some (a.2 == 0)) (some false)).bind fun av=>(cond av (some (d.2 == 0)) (some false)).bind fun aw=>(cond aw (some (d.1 == 4)) (some false)).bind fun ax=>cond ax ((q1v 0 0 2 0).bind fun ay=>(q1v 2 0 4 0).bind fun az=>(q5p ({Nodes:=[w,x],Edges:=[({A:=0,B:=1} : qk)]} : Qq) [ay,az]).bind fun ba=>(cond ba (some (f.2 == 0)) (some false)).bind fun bb=>(cond bb ((q2u f.1 ({Nodes:=[z,aa,ab,ac],Edges:=[({A:=0,B:=1} : qk),({A:=1,B:=2} : qk),({A:=1,B:=3} : qk)]} : Qq)).bind fun bc=>some bc) (some false)).bind fun bd=>some bd) (some false)
noncomputable def q4j (b : Int × List qt) (c : List qb × Int) (a : Bool × Int) : Option ((Bool × Int) ⊕ (Bool)):=
  cond (decide (a.2 < b.1)) ((cond a.1 (some true) ((idx c.1 a.2).bind fun d=>(idx c.1 b.1).bind fun f=>some ((d.X == f.X) && ((d.Y == f.Y) && true)))).bind fun g=>some (.inl (g,w64 (a.2 + 1)))) (some (.inr a.1))
noncomputable def q3n (b : List qb × Int) (a : Int × List qt) : Option ((Int × List qt) ⊕ (List qt)):=
  cond (decide (a.1 < (b.1.length : Int))) ((idx b.1 (w64 (a.1 - 1))).bind fun d=>(idx b.1 a.1).bind fun f=>(app 32 a.2 [({A:=d,B:=f} : qt)]).bind fun c=>(loop (q4j a b) (false,0)).bind fun g=>cond g (some (.inr c)) (some (.inl (w64 (a.1 + 1),c)))) (some (.inr a.2))
noncomputable def qco (b : List K5) (a : Ku) : Option Bool:=
  (q8x b).bind fun h=>(cond (h != 0) (some true) ((q68 a.At).bind fun j=>some (!j))).bind fun k=>(cond k (some true) (some (decide (a.Head > 3)))).bind fun l=>(cond l (some true) (some (decide (a.Steps < 0)))).bind fun m=>(cond m (some true) (some (decide (a.Steps > 60)))).bind fun n=>cond n (q4k.bind fun o=>some o) ((Ju b a.At a.Head a.Steps).bind fun d=>cond (d.2 != 0) (q4k.bind fun p=>some p) ((loop (q3n d) (1,[])).bind fun q=>(q19 b [a]).bind fun c=>(Jm q).bind fun f=>(q19 b [a,a]).bind fun g=>(cond (c.2 != 0) (some true) (some (f.2 != 0))).bind fun r=>(cond r (some true) ((q2u c.1 f.1).bind fun s=>some (!s))).bind fun t=>(cond t (some true) (some (g.2 != 0))).bind fun u=>cond u (some false) ((q2u g.1 c.1).bind fun v=>(cond v (q4k.bind fun w=>some w) (some false)).bind fun x=>some x)))
noncomputable def q4y (b : List qm) (a : Int) : Option ((Int) ⊕ ((Unit) ⊕ (Int))):=
  cond (decide (a < (b.length : Int))) ((idx b a).bind fun c=>(q3s c).bind fun d=>(cond (!d) (some true) ((cond (decide (a > 0)) ((idx b (w64 (a - 1))).bind fun f=>some (decide (f.Hi ≥ c.Lo))) (some false)).bind fun g=>some g)).bind fun h=>cond h (some (.inr (.inr 8))) (some (.inl (w64 (a + 1))))) (some (.inr (.inl ())))
noncomputable def qdk (a : List qm) : Option Int:=
  cond (decide ((a.length : Int) > 400)) (some 4) ((loop (q4y a) 0 : Option ((Unit) ⊕ (Int))).bind fun b=>(match b with | .inl _=>some 0 | .inr c=>some c))
noncomputable def qmz (a : qm) : Option Bool:=
  (cond (decide (a.Lo < a.Hi)) (some (decide (a.Lo ≥ (-1000000)))) (some false)).bind fun b=>(cond b (some (decide (a.Hi≤1000000))) (some false)).bind fun c=>some c
noncomputable def qgh (b : List qm) (a : Int) : Option ((Int) ⊕ ((Unit) ⊕ (Int))):=
  cond (decide (a < (b.length : Int))) ((idx b a).bind fun c=>(qmz c).bind fun d=>(cond (!d) (some true) ((cond (decide (a > 0)) ((idx b (w64 (a - 1))).bind fun f=>(idx b a).bind fun g=>some (decide (f.Hi ≥ g.Lo))) (some false)).bind fun h=>some h)).bind fun j=>cond j (some (.inr (.inr 8))) (some (.inl (w64 (a + 1))))) (some (.inr (.inl ())))
noncomputable def qd9 (a : List qm) : Option Int:=
  cond (decide ((a.length : Int) > 400)) (some 4) ((loop (qgh a) 0 : Option ((Unit) ⊕ (Int))).bind fun b=>(match b with | .inl _=>some 0 | .inr c=>some c))
noncomputable def q8w (b : Int × List Int) (c : List Int) (a : Int) : Option ((Int) ⊕ (Int)):=
  (cond (decide (a > 0)) ((idx b.2 (w64 (a - 1))).bind fun d=>(idx c b.1).bind fun f=>some (decide (d > f))) (some false)).bind fun g=>cond g (some (.inl (w64 (a - 1)))) (some (.inr a))
noncomputable def q8v (d : List Int) (a : Int × List Int) : Option ((Int × List Int) ⊕ (List Int)):=
  cond (decide (a.1 < (d.length : Int))) (((loop (q8w a d) (a.2.length : Int)).bind fun c=>(cond (decide (c > 0)) ((idx a.2 (w64 (c - 1))).bind fun h=>(idx d a.1).bind fun j=>some (h == j)) (some false)).bind fun k=>cond k (some a.2) ((app 8 a.2 [0]).bind fun b=>(sub2 b.length (w64 (c + 1)) b.length).bind fun g=>(sub2 b.length c b.length).bind fun f=>(idx d a.1).bind fun l=>(idx (cpyw b g ((b.drop f.1).take f.2)) c).bind fun _=>some ((cpyw b g ((b.drop f.1).take f.2)).set c.toNat l))).bind fun m=>some (.inl (w64 (a.1 + 1),m))) (some (.inr a.2))
noncomputable def qgk (a : List Int) : Option (List Int):=
  (loop (q8v a) (0,[])).bind fun b=>some b
noncomputable def q8r (b : List qm) (a : Int × List Int) : Option ((Int × List Int) ⊕ (List Int)):=
  cond (decide (a.1 < (b.length : Int))) ((idx b a.1).bind fun c=>(idx b a.1).bind fun d=>(app 8 a.2 [c.Lo,d.Hi]).bind fun f=>some (.inl (w64 (a.1 + 1),f))) (some (.inr a.2))
noncomputable def qmw (b : List qm) (a : Int × List Int) : Option ((Int × List Int) ⊕ (List Int)):=
  cond (decide (a.1 < (b.length : Int))) ((idx b a.1).bind fun c=>(idx b a.1).bind fun d=>(app 8 a.2 [c.Lo,d.Hi]).bind fun f=>some (.inl (w64 (a.1 + 1),f))) (some (.inr a.2))
noncomputable def qgi (a : List qm) (b : List qm) : Option (List Int):=
  (loop (q8r a) (0,[])).bind fun c=>(loop (qmw b) (0,c)).bind fun d=>(qgk d).bind fun f=>some f
noncomputable def q8s (b : List qm) (c : Int) (a : Int) : Option ((Int) ⊕ ((Unit) ⊕ (Bool))):=
  cond (decide (a < (b.length : Int))) ((idx b a).bind fun d=>(cond (decide (d.Lo≤c)) ((idx b a).bind fun f=>some (decide (c < f.Hi))) (some false)).bind fun g=>cond g (some (.inr (.inr true))) (some (.inl (w64 (a + 1))))) (some (.inr (.inl ())))
noncomputable def qda (a : List qm) (b : Int) : Option Bool:=
  (loop (q8s a b) 0 : Option ((Unit) ⊕ (Bool))).bind fun c=>(match c with | .inl _=>some false | .inr d=>some d)
noncomputable def qgj (c : Int) (a : Bool) (b : Bool) : Option Bool:=
  cond (c == 1) ((cond a (some b) (some false)).bind fun d=>some d) (cond (c == 2) ((cond a (some true) (some b)).bind fun f=>some f) ((cond a (some (!b)) (some false)).bind fun g=>some g))
noncomputable def q8q (b : List Int) (c : List Bool) (a : Int × List qm) : Option ((Int × List qm) ⊕ (List qm)):=
  cond (decide ((w64 (a.1 + 1)) < (b.length : Int))) (((idx c a.1).bind fun d=>cond (!d) (some a.2) ((cond (decide ((a.2.length : Int) > 0)) ((idx a.2 (w64 ((a.2.length : Int) - 1))).bind fun f=>(idx b a.1).bind fun g=>some (f.Hi == g)) (some false)).bind fun h=>cond h ((idx b (w64 (a.1 + 1))).bind fun j=>(idx a.2 (w64 ((a.2.length : Int) - 1))).bind fun k=>some (a.2.set (w64 ((a.2.length : Int) - 1)).toNat ({Lo:=k.Lo,Hi:=j} : qm))) ((idx b a.1).bind fun l=>(idx b (w64 (a.1 + 1))).bind fun m=>(app 16 a.2 [({Lo:=l,Hi:=m} : qm)]).bind fun n=>some n))).bind fun o=>some (.inl (w64 (a.1 + 1),o))) (some (.inr a.2))
noncomputable def qgg (a : List Int) (b : List Bool) : Option (List qm):=
  (loop (q8q a b) (0,[])).bind fun c=>some c
noncomputable def q8t (b : List Int) (c : List qm) (d : List qm) (f : Int) (a : Int × List Bool) : Option ((Int × List Bool) ⊕ (List Bool)):=
  cond (decide (a.1 < (b.length : Int))) ((idx b a.1).bind fun g=>(qda c g).bind fun h=>(idx b a.1).bind fun j=>(qda d j).bind fun k=>(qgj f h k).bind fun l=>(app 1 a.2 [l]).bind fun m=>some (.inl (w64 (a.1 + 1),m))) (some (.inr a.2))
noncomputable def qdb (d : Int) (a : List qm) (b : List qm) : Option (List qm):=
  (qgi a b).bind fun c=>(loop (q8t c a b d) (0,[])).bind fun f=>(qgg c f).bind fun g=>some g
noncomputable def qb9 (b : List qm) (a : Int × Int) : Option ((Int × Int) ⊕ (Int)):=
  cond (decide (a.2 < (b.length : Int))) ((idx b a.2).bind fun c=>some (.inl (w64 (a.1 + (w64 (c.Hi - c.Lo))),w64 (a.2 + 1)))) (some (.inr a.1))
noncomputable def qo4 (a : List qm) : Option (Int × Int):=
  (qdk a).bind fun b=>cond (b != 0) (some (0,b)) ((loop (qb9 a) (0,0)).bind fun c=>some (c,0))
noncomputable def q8u (b : List qm) (a : Int × Int) : Option ((Int × Int) ⊕ (Int)):=
  cond (decide (a.2 < (b.length : Int))) ((idx b a.2).bind fun c=>(idx b a.2).bind fun d=>some (.inl (w64 ((w64 (a.1 + c.Hi)) - d.Lo),w64 (a.2 + 1)))) (some (.inr a.1))
noncomputable def qmy (a : List qm) : Option (Int × Int):=
  (qd9 a).bind fun b=>cond (b != 0) ((qd9 a).bind fun c=>some (0,c)) ((loop (q8u a) (0,0)).bind fun d=>some (d,0))
structure qbz where
  X : Int
  Y : Int
  Z : Int
  deriving DecidableEq
structure qp8 where
  Turn : Int
  At : qbz
  deriving DecidableEq
structure q13j where
  Frame : qp8
  Size : qbz
  deriving DecidableEq
structure q13i where
  t_ : Int
  at_ : qbz
  flat_ : qbz
  deriving DecidableEq
structure qgl where
  At : Int
  Spans : List qm
  deriving DecidableEq
noncomputable def q6l (b : List qt) (c : qt→Option Bool) (a : Int) : Option ((Int) ⊕ ((Unit) ⊕ (Int))):=
  cond (decide (a < (b.length : Int))) ((idx b a).bind fun d=>(c d).bind fun f=>cond f (some (.inr (.inr a))) (some (.inl (w64 (a + 1))))) (some (.inr (.inl ())))
noncomputable def qnx (a : List qt) (b : qt→Option Bool) : Option Int:=
  (loop (q6l a b) 0 : Option ((Unit) ⊕ (Int))).bind fun c=>(match c with | .inl _=>some (-1) | .inr d=>some d)
noncomputable def qdh (a : List qt) (b : qt→Option Bool) : Option Bool:=
  (qnx a b).bind fun c=>some (decide (c ≥ 0))
noncomputable def qdq (a : qt) (b : qb) : Option Bool:=
  (cond (decide ((min a.A.X a.B.X)≤b.X)) (some (decide (b.X≤(max a.A.X a.B.X)))) (some false)).bind fun c=>(cond c (some (decide ((min a.A.Y a.B.Y)≤b.Y))) (some false)).bind fun d=>(cond d (some (decide (b.Y≤(max a.A.Y a.B.Y)))) (some false)).bind fun f=>some f
noncomputable def qod (a : qt) (b : qb) : Option Bool:=
  (qdq a b).bind fun c=>some c
noncomputable def qoc (b : Qq) (c : qb) : Option (Bool × Int):=
  (q3v b).bind fun a=>cond (a.2 != 0) (some (false,a.2)) ((qdh a.1 (fun d=>qod d c)).bind fun f=>some (f,0))
end Go.Sh
