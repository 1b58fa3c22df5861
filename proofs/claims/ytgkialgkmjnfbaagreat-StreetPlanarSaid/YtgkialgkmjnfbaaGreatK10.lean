/- PX -/
import Derived.Test.YtgkialgkmjnfbaaGreatK9
namespace Go.Sh
open Go Go.Am
structure qa where
  X : Int
  Y : Int
  deriving DecidableEq
structure qj where
  A : Int
  B : Int
  deriving DecidableEq
structure Qh where
  Nodes : List qa
  Edges : List qj
  deriving DecidableEq
def qr (x : qa) : List DV:=[.int .i64 x.X,.int .i64 x.Y]
def Q6 (x : qj) : List DV:=[.int .i64 x.A,.int .i64 x.B]
structure qu where
  A : qa
  B : qa
  deriving DecidableEq
noncomputable def q4w (a : qa) : Option Bool:=
  (cond (decide ((min a.X a.Y) ≥ (-1000000))) (some (decide ((max a.X a.Y)≤1000000))) (some false)).bind fun b=>some b
noncomputable def q7f (a : qu) : Option Bool:=
  (q4w a.A).bind fun b=>(cond b ((q4w a.B).bind fun c=>some c) (some false)).bind fun d=>(cond d (some (!((a.A.X == a.B.X) == (a.A.Y == a.B.Y)))) (some false)).bind fun f=>some f
def Kv (x : qu) : List DV:=[.int .i64 x.A.X,.int .i64 x.A.Y,.int .i64 x.B.X,.int .i64 x.B.Y]
noncomputable def Ux (b : Qh) (c : Int × List qu) : Option ((Int × List qu) ⊕ ((List qu) ⊕ (List qu × Bool))):=
  cond (decide (c.1 < (b.Edges.length : Int))) ((idx b.Edges c.1).bind fun a=>(cond (decide ((min a.A a.B) < 0)) (some true) (some (decide ((max a.A a.B) ≥ (b.Nodes.length : Int))))).bind fun g=>cond g (some (.inr (.inr ([],false)))) ((idx b.Nodes a.A).bind fun d=>(idx b.Nodes a.B).bind fun f=>(q7f ({A:=d,B:=f} : qu)).bind fun h=>cond (!h) (some (.inr (.inr ([],false)))) ((app 32 c.2 [({A:=d,B:=f} : qu)]).bind fun j=>some (.inl (w64 (c.1 + 1),j))))) (some (.inr (.inl c.2)))
noncomputable def q4v (a : Qh) : Option (List qu × Bool):=
  (loop (Ux a) (0,[]) : Option ((List qu) ⊕ (List qu × Bool))).bind fun b=>(match b with | .inl c=>some (c,true) | .inr d=>some d)
structure qi where
  Lo : Int
  Hi : Int
  deriving DecidableEq
structure Yb where
  rows_ : List (Int × List qi)
  columns_ : List (Int × List qi)
  deriving DecidableEq
def Qc (x : qi) : List DV:=[.int .i64 x.Lo,.int .i64 x.Hi]
noncomputable def q3d (b : List qi) (c : qi→Option Bool) (a : Int) : Option ((Int) ⊕ ((Unit) ⊕ (Int))):=
  cond (decide (a < (b.length : Int))) ((idx b a).bind fun d=>(c d).bind fun f=>cond f (some (.inr (.inr a))) (some (.inl (w64 (a + 1))))) (some (.inr (.inl ())))
noncomputable def q9k (a : List qi) (b : qi→Option Bool) : Option Int:=
  (loop (q3d a b) 0 : Option ((Unit) ⊕ (Int))).bind fun c=>(match c with | .inl _=>some (-1) | .inr d=>some d)
noncomputable def q6i (a : List qi) (b : qi→Option Bool) : Option Bool:=
  (q9k a b).bind fun c=>some (decide (c ≥ 0))
noncomputable def q3e (a : qi) : Option Bool:=
  (cond (decide (a.Lo < a.Hi)) (some (decide (a.Lo ≥ (-1000000)))) (some false)).bind fun b=>(cond b (some (decide (a.Hi≤1000000))) (some false)).bind fun c=>some c
noncomputable def qee (a : qi) : Option Bool:=
  (q3e a).bind fun b=>some (!b)
def q21 (x : List qi) : List DV:=[.sl 2 (x.map Qc)]
structure qo where
  at_ : Int
  list_ : Int
  by_ : Int
  deriving DecidableEq
def Qd (x : qo) : List DV:=[.int .i64 x.at_,.int .i64 x.list_,.int .i64 x.by_]
noncomputable def qbr (a : qo) (b : qo) : Option Int:=
  some (w64 (a.at_ - b.at_))
def qbx : ByteArray:=⟨#[0,1,2,2,3,3,3,3,4,4,4,4,4,4,4,4,5,5,5,5,5,5,5,5,5,5,5,5,5,5,5,5,6,6,6,6,6,6,6,6,6,6,6,6,6,6,6,6,6,6,6,6,6,6,6,6,6,6,6,6,6,6,6,6,7,7,7,7,7,7,7,7,7,7,7,7,7,7,7,7,7,7,7,7,7,7,7,7,7,7,7,7,7,7,7,7,7,7,7,7,7,7,7,7,7,7,7,7,7,7,7,7,7,7,7,7,7,7,7,7,7,7,7,7,7,7,7,7,8,8,8,8,8,8,8,8,8,8,8,8,8,8,8,8,8,8,8,8,8,8,8,8,8,8,8,8,8,8,8,8,8,8,8,8,8,8,8,8,8,8,8,8,8,8,8,8,8,8,8,8,8,8,8,8,8,8,8,8,8,8,8,8,8,8,8,8,8,8,8,8,8,8,8,8,8,8,8,8,8,8,8,8,8,8,8,8,8,8,8,8,8,8,8,8,8,8,8,8,8,8,8,8,8,8,8,8,8,8,8,8,8,8,8,8,8,8,8,8,8,8,8,8,8,8,8,8]⟩
noncomputable def q2c (c : Int) : Option Int:=
  (cond (decide (c ≥ 4294967296)) (some (Int.fdiv c (2 ^ 32),32)) (some (c,0))).bind fun a=>(cond (decide (a.1 ≥ 65536)) (some (Int.fdiv a.1 (2 ^ 16),w64 (a.2 + 16))) (some (a.1,a.2))).bind fun b=>(cond (decide (b.1 ≥ 256)) (some (Int.fdiv b.1 (2 ^ 8),w64 (b.2 + 8))) (some (b.1,b.2))).bind fun d=>(q4t qbx (IntKind.wrap .u8 d.1)).bind fun f=>some (w64 (d.2 + (w64 f)))
noncomputable def U6 (a : Int) : Option Int:=
  (q2c a).bind fun b=>some b
noncomputable def qac (c : Int) (d : qo→qo→Option Int) (a : Int × List qo) : Option ((Int × List qo) ⊕ (List qo)):=
  (cond (decide (a.1 > c)) ((idx a.2 a.1).bind fun f=>(idx a.2 (w64 (a.1 - 1))).bind fun g=>(d f g).bind fun h=>some (decide (h < 0))) (some false)).bind fun j=>cond j ((idx a.2 (w64 (a.1 - 1))).bind fun b=>(idx a.2 a.1).bind fun k=>(idx a.2 a.1).bind fun _=>(idx (a.2.set a.1.toNat b) (w64 (a.1 - 1))).bind fun _=>some (.inl (w64 (a.1 - 1),(a.2.set a.1.toNat b).set (w64 (a.1 - 1)).toNat k))) (some (.inr a.2))
noncomputable def qab (b : Int) (c : Int) (d : qo→qo→Option Int) (a : Int × List qo) : Option ((Int × List qo) ⊕ (List qo)):=
  cond (decide (a.1 < b)) (((loop (qac c d) (a.1,a.2)).bind fun f=>some f).bind fun g=>some (.inl (w64 (a.1 + 1),g))) (some (.inr a.2))
noncomputable def qaa (b : qo→qo→Option Int) (c : List qo) (a : Int) (d : Int) : Option (List qo):=
  (loop (qab d a b) (w64 (a + 1),c)).bind fun f=>some f
noncomputable def qbo (d : Int) (b : Int) (f : qo→qo→Option Int) (a : Int × List qo) : Option ((Int × List qo) ⊕ (List qo)):=
  cond (decide ((w64 ((w64 (2 * a.1)) + 1)) ≥ d)) (some (.inr a.2)) ((cond (decide ((w64 ((w64 ((w64 (2 * a.1)) + 1)) + 1)) < d)) ((idx a.2 (w64 (b + (w64 ((w64 (2 * a.1)) + 1))))).bind fun h=>(idx a.2 (w64 ((w64 (b + (w64 ((w64 (2 * a.1)) + 1)))) + 1))).bind fun j=>(f h j).bind fun k=>some (decide (k < 0))) (some false)).bind fun l=>(cond l (some (w64 ((w64 ((w64 (2 * a.1)) + 1)) + 1))) (some (w64 ((w64 (2 * a.1)) + 1)))).bind fun c=>(idx a.2 (w64 (b + a.1))).bind fun m=>(idx a.2 (w64 (b + c))).bind fun n=>(f m n).bind fun o=>cond (!(decide (o < 0))) (some (.inr a.2)) ((idx a.2 (w64 (b + c))).bind fun g=>(idx a.2 (w64 (b + a.1))).bind fun p=>(idx a.2 (w64 (b + a.1))).bind fun _=>(idx (a.2.set (w64 (b + a.1)).toNat g) (w64 (b + c))).bind fun _=>some (.inl (c,(a.2.set (w64 (b + a.1)).toNat g).set (w64 (b + c)).toNat p))))
noncomputable def q78 (a : qo→qo→Option Int) (b : List qo) (c : Int) (d : Int) (f : Int) : Option (List qo):=
  (loop (qbo d f a) (c,b)).bind fun g=>some g
noncomputable def qa2 (d : qo→qo→Option Int) (f : Int) (b : Int) (a : Int × List qo) : Option ((Int × List qo) ⊕ (List qo)):=
  cond (decide (a.1 ≥ 0)) ((q78 d a.2 a.1 (w64 (f - b)) b).bind fun c=>(Qz c.length a.2.length).bind fun _=>some (.inl (w64 (a.1 - 1),c))) (some (.inr a.2))
noncomputable def qa3 (b : Int) (g : qo→qo→Option Int) (a : Int × List qo) : Option ((Int × List qo) ⊕ (List qo)):=
  cond (decide (a.1 ≥ 0)) ((idx a.2 (w64 (b + a.1))).bind fun c=>(idx a.2 b).bind fun d=>(idx a.2 b).bind fun _=>(idx (a.2.set b.toNat c) (w64 (b + a.1))).bind fun _=>(q78 g ((a.2.set b.toNat c).set (w64 (b + a.1)).toNat d) 0 a.1 b).bind fun f=>(Qz f.length ((a.2.set b.toNat c).set (w64 (b + a.1)).toNat d).length).bind fun _=>some (.inl (w64 (a.1 - 1),f))) (some (.inr a.2))
noncomputable def qa1 (c : qo→qo→Option Int) (d : List qo) (a : Int) (b : Int) : Option (List qo):=
  (loop (qa2 c b a) (w64 (Int.tdiv (w64 ((w64 (b - a)) - 1)) 2),d)).bind fun f=>(loop (qa3 a c) (w64 ((w64 (b - a)) - 1),f)).bind fun g=>some g
noncomputable def q4p (f : qo→qo→Option Int) (c : List qo) (a : Int) (b : Int) (d : Int) : Option (Int × Int × Int):=
  (idx c b).bind fun g=>(idx c a).bind fun h=>(f g h).bind fun j=>cond (decide (j < 0)) (some (b,a,w64 (d + 1))) (some (a,b,d))
noncomputable def q6q (a : qo→qo→Option Int) (b : List qo) (g : Int) (h : Int) (j : Int) (k : Int) : Option (Int × Int):=
  (q4p a b g h k).bind fun c=>(q4p a b c.2.1 j c.2.2).bind fun d=>(q4p a b c.1 d.1 d.2.2).bind fun f=>some (f.2.1,f.2.2)
noncomputable def q4m (c : qo→qo→Option Int) (d : List qo) (a : Int) (f : Int) : Option (Int × Int):=
  (q6q c d (w64 (a - 1)) a (w64 (a + 1)) f).bind fun b=>some (b.1,b.2)
noncomputable def q9u (d : List qo) (a : Int) (b : Int) (f : qo→qo→Option Int) : Option (Int × Int):=
  (cond (decide ((w64 (b - a)) ≥ 8)) ((cond (decide ((w64 (b - a)) ≥ 50)) ((q4m f d (w64 (a + (w64 ((w64 (Int.tdiv (w64 (b - a)) 4)) * 1)))) 0).bind fun h=>(q4m f d (w64 (a + (w64 ((w64 (Int.tdiv (w64 (b - a)) 4)) * 2)))) h.2).bind fun j=>(q4m f d (w64 (a + (w64 ((w64 (Int.tdiv (w64 (b - a)) 4)) * 3)))) j.2).bind fun k=>some (h.1,j.1,k.1,k.2)) (some (w64 (a + (w64 ((w64 (Int.tdiv (w64 (b - a)) 4)) * 1))),w64 (a + (w64 ((w64 (Int.tdiv (w64 (b - a)) 4)) * 2))),w64 (a + (w64 ((w64 (Int.tdiv (w64 (b - a)) 4)) * 3))),0))).bind fun g=>(q6q f d g.1 g.2.1 g.2.2.1 g.2.2.2).bind fun l=>some (l.1,l.2)) (some (w64 (a + (w64 ((w64 (Int.tdiv (w64 (b - a)) 4)) * 2))),0))).bind fun c=>cond (c.2 == 0) (some (c.1,1)) (cond (c.2 == 12) (some (c.1,2)) (some (c.1,0)))
noncomputable def qbl (a : Int × Int × List qo) : Option ((Int × Int × List qo) ⊕ (List qo)):=
  cond (decide (a.1 < a.2.1)) ((idx a.2.2 a.2.1).bind fun b=>(idx a.2.2 a.1).bind fun c=>(idx a.2.2 a.1).bind fun _=>(idx (a.2.2.set a.1.toNat b) a.2.1).bind fun _=>some (.inl (w64 (a.1 + 1),w64 (a.2.1 - 1),(a.2.2.set a.1.toNat b).set a.2.1.toNat c))) (some (.inr a.2.2))
noncomputable def qbk (f : qo→qo→Option Int) (a : List qo) (b : Int) (c : Int) : Option (List qo):=
  (loop qbl (b,w64 (c - 1),a)).bind fun d=>some d
noncomputable def qaj (c : Int) (b : Int × Int × List qo) (d : qo→qo→Option Int) (a : Int) : Option ((Int) ⊕ (Int)):=
  (cond (decide (a < c)) ((idx b.2.2 a).bind fun f=>(idx b.2.2 (w64 (a - 1))).bind fun g=>(d f g).bind fun h=>some (!(decide (h < 0)))) (some false)).bind fun j=>cond j (some (.inl (w64 (a + 1)))) (some (.inr a))
noncomputable def qak (c : qo→qo→Option Int) (a : Int × List qo) : Option ((Int × List qo) ⊕ (List qo)):=
  cond (decide (a.1 ≥ 1)) ((idx a.2 a.1).bind fun d=>(idx a.2 (w64 (a.1 - 1))).bind fun f=>(c d f).bind fun g=>cond (!(decide (g < 0))) (some (.inr a.2)) ((idx a.2 (w64 (a.1 - 1))).bind fun b=>(idx a.2 a.1).bind fun h=>(idx a.2 a.1).bind fun _=>(idx (a.2.set a.1.toNat b) (w64 (a.1 - 1))).bind fun _=>some (.inl (w64 (a.1 - 1),(a.2.set a.1.toNat b).set (w64 (a.1 - 1)).toNat h)))) (some (.inr a.2))
noncomputable def qal (d : Int) (f : qo→qo→Option Int) (b : Int) (a : Int × List qo) : Option ((Int × List qo) ⊕ (Int × List qo)):=
  cond (decide (a.1 < d)) ((idx a.2 a.1).bind fun g=>(idx a.2 (w64 (a.1 - 1))).bind fun h=>(f g h).bind fun j=>cond (!(decide (j < 0))) (some (.inr (b,a.2))) ((idx a.2 (w64 (a.1 - 1))).bind fun c=>(idx a.2 a.1).bind fun k=>(idx a.2 a.1).bind fun _=>(idx (a.2.set a.1.toNat c) (w64 (a.1 - 1))).bind fun _=>some (.inl (w64 (a.1 + 1),(a.2.set a.1.toNat c).set (w64 (a.1 - 1)).toNat k)))) (some (.inr (b,a.2)))
noncomputable def q6w (c : Int) (d : qo→qo→Option Int) (h : Int) (b : Int × Int × List qo) : Option ((Int × Int × List qo) ⊕ ((List qo) ⊕ (Bool × List qo))):=
  cond (decide (b.2.1 < 5)) (((loop (qaj c b d) b.1).bind fun a=>cond (a == c) (some (.inr (true,b.2.2))) (cond (decide ((w64 (c - h)) < 50)) (some (.inr (false,b.2.2))) ((idx b.2.2 (w64 (a - 1))).bind fun f=>(idx b.2.2 a).bind fun j=>(idx b.2.2 a).bind fun _=>(idx (b.2.2.set a.toNat f) (w64 (a - 1))).bind fun _=>(cond (decide ((w64 (a - h)) ≥ 2)) ((loop (qak d) (w64 (a - 1),(b.2.2.set a.toNat f).set (w64 (a - 1)).toNat j)).bind fun g=>some g) (some ((b.2.2.set a.toNat f).set (w64 (a - 1)).toNat j))).bind fun k=>cond (decide ((w64 (c - a)) ≥ 2)) ((loop (qal c d a) (w64 (a + 1),k)).bind fun g=>some (.inl g)) (some (.inl (a,k))))) : Option ((Int × List qo) ⊕ (Bool × List qo))).bind fun m=>(match m with | .inl l=>some (.inl (l.1,w64 (b.2.1 + 1),l.2)) | .inr n=>some (.inr (.inr n)))) (some (.inr (.inl b.2.2)))
noncomputable def q6v (b : qo→qo→Option Int) (c : List qo) (a : Int) (d : Int) : Option (Bool × List qo):=
  (loop (q6w d b a) (w64 (a + 1),0,c) : Option ((List qo) ⊕ (Bool × List qo))).bind fun f=>(match f with | .inl g=>some (false,g) | .inr h=>some h)
noncomputable def qbe (b : Int × Int × List qo) (c : Int) (d : qo→qo→Option Int) (a : Int) : Option ((Int) ⊕ (Int)):=
  (cond (decide (a≤b.2.1)) ((idx b.2.2 c).bind fun f=>(idx b.2.2 a).bind fun g=>(d f g).bind fun h=>some (!(decide (h < 0)))) (some false)).bind fun j=>cond j (some (.inl (w64 (a + 1)))) (some (.inr a))
noncomputable def qbf (c : Int) (b : Int × Int × List qo) (d : Int) (f : qo→qo→Option Int) (a : Int) : Option ((Int) ⊕ (Int)):=
  (cond (decide (c≤a)) ((idx b.2.2 d).bind fun g=>(idx b.2.2 a).bind fun h=>(f g h).bind fun j=>some (decide (j < 0))) (some false)).bind fun k=>cond k (some (.inl (w64 (a - 1)))) (some (.inr a))
noncomputable def qbd (d : Int) (f : qo→qo→Option Int) (a : Int × Int × List qo) : Option ((Int × Int × List qo) ⊕ (Int × List qo)):=
  (loop (qbe a d f) a.1).bind fun b=>(loop (qbf b a d f) a.2.1).bind fun c=>cond (decide (b > c)) (some (.inr (b,a.2.2))) ((idx a.2.2 c).bind fun g=>(idx a.2.2 b).bind fun h=>(idx a.2.2 b).bind fun _=>(idx (a.2.2.set b.toNat g) c).bind fun _=>some (.inl (w64 (b + 1),w64 (c - 1),(a.2.2.set b.toNat g).set c.toNat h)))
noncomputable def qbc (g : qo→qo→Option Int) (b : List qo) (a : Int) (h : Int) (c : Int) : Option (Int × List qo):=
  (idx b c).bind fun d=>(idx b a).bind fun j=>(idx b a).bind fun _=>(idx (b.set a.toNat d) c).bind fun _=>(loop (qbd a g) (w64 (a + 1),w64 (h - 1),(b.set a.toNat d).set c.toNat j)).bind fun f=>some (f.1,f.2)
noncomputable def qaz (h : Int) (c : List qo) (b : Int) (d : qo) (f : Int) (g : qo) (j : qo→qo→Option Int) (a : Int) : Option ((Int) ⊕ (Int)):=
  (cond (decide (a≤(w64 (h - 1)))) ((idx ((c.set b.toNat d).set f.toNat g) a).bind fun k=>(idx ((c.set b.toNat d).set f.toNat g) b).bind fun l=>(j k l).bind fun m=>some (decide (m < 0))) (some false)).bind fun n=>cond n (some (.inl (w64 (a + 1)))) (some (.inr a))
noncomputable def qb0 (h : Int) (c : List qo) (b : Int) (d : qo) (f : Int) (g : qo) (j : qo→qo→Option Int) (a : Int) : Option ((Int) ⊕ (Int)):=
  (cond (decide (h≤a)) ((idx ((c.set b.toNat d).set f.toNat g) a).bind fun k=>(idx ((c.set b.toNat d).set f.toNat g) b).bind fun l=>(j k l).bind fun m=>some (!(decide (m < 0)))) (some false)).bind fun n=>cond n (some (.inl (w64 (a - 1)))) (some (.inr a))
noncomputable def qb2 (b : Int × Int × List qo) (c : Int) (d : qo→qo→Option Int) (a : Int) : Option ((Int) ⊕ (Int)):=
  (cond (decide (a≤b.2.1)) ((idx b.2.2 a).bind fun f=>(idx b.2.2 c).bind fun g=>(d f g).bind fun h=>some (decide (h < 0))) (some false)).bind fun j=>cond j (some (.inl (w64 (a + 1)))) (some (.inr a))
noncomputable def qb3 (c : Int) (b : Int × Int × List qo) (d : Int) (f : qo→qo→Option Int) (a : Int) : Option ((Int) ⊕ (Int)):=
  (cond (decide (c≤a)) ((idx b.2.2 a).bind fun g=>(idx b.2.2 d).bind fun h=>(f g h).bind fun j=>some (!(decide (j < 0)))) (some false)).bind fun k=>cond k (some (.inl (w64 (a - 1)))) (some (.inr a))
noncomputable def qb1 (d : Int) (f : qo→qo→Option Int) (a : Int × Int × List qo) : Option ((Int × Int × List qo) ⊕ (Int × List qo)):=
  (loop (qb2 a d f) a.1).bind fun b=>(loop (qb3 b a d f) a.2.1).bind fun c=>cond (decide (b > c)) (some (.inr (c,a.2.2))) ((idx a.2.2 c).bind fun g=>(idx a.2.2 b).bind fun h=>(idx a.2.2 b).bind fun _=>(idx (a.2.2.set b.toNat g) c).bind fun _=>some (.inl (w64 (b + 1),w64 (c - 1),(a.2.2.set b.toNat g).set c.toNat h)))
noncomputable def qay (k : qo→qo→Option Int) (b : List qo) (a : Int) (l : Int) (c : Int) : Option (Int × Bool × List qo):=
  (idx b c).bind fun d=>(idx b a).bind fun f=>(idx b a).bind fun _=>(idx (b.set a.toNat d) c).bind fun _=>(loop (qaz l b a d c f k) (w64 (a + 1))).bind fun j=>(loop (qb0 j b a d c f k) (w64 (l - 1))).bind fun g=>cond (decide (j > g)) ((idx ((b.set a.toNat d).set c.toNat f) a).bind fun m=>(idx ((b.set a.toNat d).set c.toNat f) g).bind fun p=>(idx ((b.set a.toNat d).set c.toNat f) g).bind fun _=>(idx (((b.set a.toNat d).set c.toNat f).set g.toNat m) a).bind fun _=>some (g,true,(((b.set a.toNat d).set c.toNat f).set g.toNat m).set a.toNat p)) ((idx ((b.set a.toNat d).set c.toNat f) g).bind fun n=>(idx ((b.set a.toNat d).set c.toNat f) j).bind fun q=>(idx ((b.set a.toNat d).set c.toNat f) j).bind fun _=>(idx (((b.set a.toNat d).set c.toNat f).set j.toNat n) g).bind fun _=>(loop (qb1 a k) (w64 (j + 1),w64 (g - 1),(((b.set a.toNat d).set c.toNat f).set j.toNat n).set g.toNat q)).bind fun h=>(idx h.2 a).bind fun o=>(idx h.2 h.1).bind fun r=>(idx h.2 h.1).bind fun _=>(idx (h.2.set h.1.toNat o) a).bind fun _=>some (h.1,false,(h.2.set h.1.toNat o).set a.toNat r))
noncomputable def Ut (a : Int) : Option Int:=
  (U6 (IntKind.wrap .u64 a)).bind fun b=>(shlK .u64 1 b).bind fun c=>some c
noncomputable def Uu (a : Int) : Option Int:=
  some (xorI .u64 (xorI .u64 (xorI .u64 a (IntKind.wrap .u64 (a * (2 ^ 13)))) (Int.fdiv (xorI .u64 a (IntKind.wrap .u64 (a * (2 ^ 13)))) (2 ^ 7))) (IntKind.wrap .u64 ((xorI .u64 (xorI .u64 a (IntKind.wrap .u64 (a * (2 ^ 13)))) (Int.fdiv (xorI .u64 a (IntKind.wrap .u64 (a * (2 ^ 13)))) (2 ^ 7))) * (2 ^ 17))))
noncomputable def q9r (b : Int) (d : Int) (f : Int) (a : Int × List qo × Int) : Option ((Int × List qo × Int) ⊕ (List qo)):=
  cond (decide (a.1≤(w64 ((w64 (b + (w64 ((w64 (Int.tdiv (w64 (d - b)) 4)) * 2)))) + 1)))) ((Uu a.2.2).bind fun c=>(cond (decide ((w64 (andI .u64 c (IntKind.wrap .u64 (f - 1)))) ≥ (w64 (d - b)))) (some (w64 ((w64 (andI .u64 c (IntKind.wrap .u64 (f - 1)))) - (w64 (d - b))))) (some (w64 (andI .u64 c (IntKind.wrap .u64 (f - 1)))))).bind fun g=>(idx a.2.1 (w64 (b + g))).bind fun h=>(idx a.2.1 a.1).bind fun j=>(idx a.2.1 a.1).bind fun _=>(idx (a.2.1.set a.1.toNat h) (w64 (b + g))).bind fun _=>some (.inl (w64 (a.1 + 1),(a.2.1.set a.1.toNat h).set (w64 (b + g)).toNat j,c))) (some (.inr a.2.1))
noncomputable def q9q (g : qo→qo→Option Int) (c : List qo) (a : Int) (b : Int) : Option (List qo):=
  cond (decide ((w64 (b - a)) ≥ 8)) ((Ut (w64 (b - a))).bind fun d=>(loop (q9r a b d) (w64 ((w64 (a + (w64 ((w64 (Int.tdiv (w64 (b - a)) 4)) * 2)))) - 1),c,IntKind.wrap .u64 (w64 (b - a)))).bind fun f=>some f) (some c)
noncomputable def q74 (c : qo→qo→Option Int) (rec : List qo→Int→Int→Int→Option (List qo)) (a : Int × Int × Int × Bool × Bool × List qo) : Option ((Int × Int × Int × Bool × Bool × List qo) ⊕ (List qo)):=
  cond (decide ((w64 (a.2.1 - a.1))≤12)) ((qaa c a.2.2.2.2.2 a.1 a.2.1).bind fun l=>(Qz l.length a.2.2.2.2.2.length).bind fun _=>some (.inr l)) (cond (a.2.2.1 == 0) ((qa1 c a.2.2.2.2.2 a.1 a.2.1).bind fun m=>(Qz m.length a.2.2.2.2.2.length).bind fun _=>some (.inr m)) ((cond (!a.2.2.2.1) ((q9q c a.2.2.2.2.2 a.1 a.2.1).bind fun n=>(Qz n.length a.2.2.2.2.2.length).bind fun _=>some (w64 (a.2.2.1 - 1),n)) (some (a.2.2.1,a.2.2.2.2.2))).bind fun d=>(q9u d.2 a.1 a.2.1 c).bind fun h=>(cond (h.2 == 2) ((qbk c d.2 a.1 a.2.1).bind fun o=>(Qz o.length d.2.length).bind fun _=>some (w64 ((w64 (a.2.1 - 1)) - (w64 (h.1 - a.1))),1,o)) (some (h.1,h.2,d.2))).bind fun f=>(cond a.2.2.2.1 (some a.2.2.2.2.1) (some false)).bind fun r=>(cond r (some (f.2.1 == 1)) (some false)).bind fun s=>(cond s ((q6v c f.2.2 a.1 a.2.1).bind fun j=>(Qz j.2.length f.2.2.length).bind fun _=>cond j.1 (some (.inr j.2)) (some (.inl j.2))) (some (.inl f.2.2)) : Option ((List qo) ⊕ (List qo))).bind fun t=>(match t with | .inl g=>(cond (decide (a.1 > 0)) ((idx g (w64 (a.1 - 1))).bind fun u=>(idx g f.1).bind fun v=>(c u v).bind fun w=>some (!(decide (w < 0)))) (some false)).bind fun x=>cond x ((qbc c g a.1 a.2.1 f.1).bind fun k=>(Qz k.2.length g.length).bind fun _=>some (.inl (k.1,a.2.1,d.1,a.2.2.2.1,a.2.2.2.2.1,k.2))) ((qay c g a.1 a.2.1 f.1).bind fun b=>(Qz b.2.2.length g.length).bind fun _=>cond (decide ((w64 (b.1 - a.1)) < (w64 (a.2.1 - b.1)))) ((rec b.2.2 a.1 b.1 d.1).bind fun p=>(Qz p.length b.2.2.length).bind fun _=>some (.inl (w64 (b.1 + 1),a.2.1,d.1,decide ((w64 (b.1 - a.1)) ≥ (w64 (Int.tdiv (w64 (a.2.1 - a.1)) 8))),b.2.1,p))) ((rec b.2.2 (w64 (b.1 + 1)) a.2.1 d.1).bind fun q=>(Qz q.length b.2.2.length).bind fun _=>some (.inl (a.1,b.1,d.1,decide ((w64 (a.2.1 - b.1)) ≥ (w64 (Int.tdiv (w64 (a.2.1 - a.1)) 8))),b.2.1,q)))) | .inr y=>some (.inr y))))
noncomputable def q75 (rec : List qo→Int→Int→Int→Option (List qo)) (a : qo→qo→Option Int) (b : List qo) (c : Int) (d : Int) (f : Int) : Option (List qo):=
  (loop (q74 a rec) (c,d,f,true,true,b)).bind fun g=>some g
noncomputable def q73 : Nat→(qo→qo→Option Int)→List qo→Int→Int→Int→Option (List qo)
  | 0,_,_,_,_,_=>none
  | n + 1,a,b,c,d,f=>q75 (q73 n a) a b c d f
noncomputable def q6n (c : qo→qo→Option Int) (a : List qo) : Option (List qo):=
  (U6 (IntKind.wrap .u64 (a.length : Int))).bind fun d=>(lim (fun n=>q73 n c a 0 (a.length : Int) d)).bind fun b=>(Qz b.length a.length).bind fun _=>some b
noncomputable def qe9 (a : List qo) : Option (List qo):=
  some a
noncomputable def q4r (b : List qi) (c : Int × List qo) (a : Int × List qo) : Option ((Int × List qo) ⊕ (List qo)):=
  cond (decide (a.1 < (b.length : Int))) ((idx b a.1).bind fun d=>(app 24 a.2 [({at_:=d.Lo,list_:=c.1,by_:=1} : qo),({at_:=d.Hi,list_:=c.1,by_:=(-1)} : qo)]).bind fun f=>some (.inl (w64 (a.1 + 1),f))) (some (.inr a.2))
noncomputable def q1t (b : List (List qi)) (a : Int × List qo) : Option ((Int × List qo) ⊕ (List qo)):=
  cond (decide (a.1 < (b.length : Int))) (((idx b a.1).bind fun c=>(loop (q4r c a) (0,a.2)).bind fun d=>some d).bind fun f=>some (.inl (w64 (a.1 + 1),f))) (some (.inr a.2))
noncomputable def qbs (b : List (List qi)) : Option (List (List qi) × List qo):=
  (loop (q1t b) (0,[])).bind fun c=>(q6n (fun f g=>qbr f g) c).bind fun a=>(Qz a.length c.length).bind fun _=>(qe9 a).bind fun d=>(Qz d.length a.length).bind fun _=>some (b,d)
noncomputable def qbt (b : Int) (d : Bool) (c : Int) (a : List qi) : Option (List qi):=
  (cond (!d) (some true) (some (c == b))).bind fun f=>cond f (some a) ((cond (decide ((a.length : Int) > 0)) ((idx a (w64 ((a.length : Int) - 1))).bind fun g=>some (g.Hi == c)) (some false)).bind fun h=>cond h ((idx a (w64 ((a.length : Int) - 1))).bind fun j=>some (a.set (w64 ((a.length : Int) - 1)).toNat ({Lo:=j.Lo,Hi:=b} : qi))) ((app 16 a [({Lo:=c,Hi:=b} : qi)]).bind fun k=>some k))
noncomputable def q4s (f : List (List qi) × List qo) (g : Bool→Bool→Option Bool) (a : Int × List Int × Int × Bool × List qi) : Option ((Int × List Int × Int × Bool × List qi) ⊕ (List qi)):=
  cond (decide (a.1 < (f.2.length : Int))) ((idx f.2 a.1).bind fun b=>((qbt b.at_ a.2.2.2.1 a.2.2.1 a.2.2.2.2).bind fun h=>(idxA 2 a.2.1 b.list_).bind fun c=>(idxA 2 a.2.1 b.list_).bind fun _=>(idxA 2 (a.2.1.set b.list_.toNat (w64 (c + b.by_))) 0).bind fun j=>(idxA 2 (a.2.1.set b.list_.toNat (w64 (c + b.by_))) 1).bind fun k=>(g (decide (j > 0)) (decide (k > 0))).bind fun l=>some (a.2.1.set b.list_.toNat (w64 (c + b.by_)),l,h)).bind fun d=>some (.inl (w64 (a.1 + 1),d.1,b.at_,d.2.1,d.2.2))) (some (.inr a.2.2.2.2))
noncomputable def q7a (a : List qi) (b : List qi) (d : Bool→Bool→Option Bool) : Option (List qi):=
  (qbs [a,b]).bind fun c=>(Qz c.1.length [a,b].length).bind fun _=>((loop (q4s c d) (0,[0,0],0,false,[])).bind fun f=>some f).bind fun g=>some g
noncomputable def qbq (a : Bool) (b : Bool) : Option Bool:=
  some a
noncomputable def q2j (a : List qi) : Option (List qi × Int):=
  cond (decide ((a.length : Int) > 400)) (some ([],4)) ((q6i a (fun b=>qee b)).bind fun c=>cond c (some ([],8)) ((q7a a [] (fun b d=>qbq b d)).bind fun f=>some (f,0)))
noncomputable def q17 (r : Yb) (s : qu) : Option Yb:=
  cond (s.A.Y == s.B.Y) ((app 16 (K5 [] s.A.Y r.rows_) [({Lo:=min s.A.X s.B.X,Hi:=max s.A.X s.B.X} : qi)]).bind fun l=>some {rows_:=Ka s.A.Y l r.rows_,columns_:=r.columns_})
    ((app 16 (K5 [] s.A.X r.columns_) [({Lo:=min s.A.Y s.B.Y,Hi:=max s.A.Y s.B.Y} : qi)]).bind fun l=>some {rows_:=r.rows_,columns_:=Ka s.A.X l r.columns_})
noncomputable def q1y : List qu→Yb→Option Yb
  | [],r=>some r
  | s::l,r=>(q17 r s).bind (q1y l)
noncomputable def Jx : List (Int × List qi)→Option (List (Int × List qi))
  | []=>some []
  | e::l=>(q2j e.2).bind fun x=>(Jx l).bind fun y=>some ((e.1,x.1)::y)
noncomputable def q7d (c : List qu) : Option Yb:=
  cond (decide (c.length≤1000000)) ((q1y c {rows_:=[],columns_:=[]}).bind fun r=>(Jx r.rows_).bind fun a=>(Jx r.columns_).bind fun b=>some {rows_:=a,columns_:=b}) none
noncomputable def qed (a : qi) (b : Int) : Option Bool:=
  (cond (decide (a.Lo≤b)) (some (decide (b < a.Hi))) (some false)).bind fun c=>some c
noncomputable def q1s (a : List qi) (b : Int) : Option Bool:=
  (q6i a (fun c=>qed c b)).bind fun d=>some d
noncomputable def q4x (b : Yb) (a : qa) : Option (Bool × Bool × Bool × Bool):=
  (q1s (K5 [] a.Y b.rows_) a.X).bind fun c=>(q1s (K5 [] a.X b.columns_) a.Y).bind fun d=>(q1s (K5 [] a.Y b.rows_) (w64 (a.X - 1))).bind fun f=>(q1s (K5 [] a.X b.columns_) (w64 (a.Y - 1))).bind fun g=>some (c,d,f,g)
noncomputable def qc0 (b : Yb) (c : qa) : Option Bool:=
  (q4x b c).bind fun a=>(cond ((a.1 == false) && ((a.2.1 == false) && ((a.2.2.1 == false) && ((a.2.2.2 == false) && true)))) (some ((a.1 == false) && ((a.2.1 == false) && ((a.2.2.1 == false) && ((a.2.2.2 == false) && true))))) (cond ((a.1 == true) && ((a.2.1 == false) && ((a.2.2.1 == true) && ((a.2.2.2 == false) && true)))) (some ((a.1 == true) && ((a.2.1 == false) && ((a.2.2.1 == true) && ((a.2.2.2 == false) && true))))) (some ((a.1 == false) && ((a.2.1 == true) && ((a.2.2.1 == false) && ((a.2.2.2 == true) && true))))))).bind fun d=>cond d (some false) (some true)
noncomputable def q3j (a : qa) (c : List (Int × List qi)) (d : List (Int × List qi)) (b : List (qa × Bool)) : Option (List (qa × Bool)):=
  (qc0 ({rows_:=c,columns_:=d} : Yb) ({X:=(a).X,Y:=(a).Y} : qa)).bind fun f=>cond f (some (Ka ({X:=(a).X,Y:=(a).Y} : qa) true b)) (some b)
noncomputable def q1w (a : qa) (b : qa) : Option Int:=
  cond (a.X != b.X) (some (w64 (a.X - b.X))) (some (w64 (a.Y - b.Y)))
noncomputable def qa9 (c : Int) (d : qa→qa→Option Int) (a : Int × List qa) : Option ((Int × List qa) ⊕ (List qa)):=
  (cond (decide (a.1 > c)) ((idx a.2 a.1).bind fun f=>(idx a.2 (w64 (a.1 - 1))).bind fun g=>(d f g).bind fun h=>some (decide (h < 0))) (some false)).bind fun j=>cond j ((idx a.2 (w64 (a.1 - 1))).bind fun b=>(idx a.2 a.1).bind fun k=>(idx a.2 a.1).bind fun _=>(idx (a.2.set a.1.toNat b) (w64 (a.1 - 1))).bind fun _=>some (.inl (w64 (a.1 - 1),(a.2.set a.1.toNat b).set (w64 (a.1 - 1)).toNat k))) (some (.inr a.2))
noncomputable def qa8 (b : Int) (c : Int) (d : qa→qa→Option Int) (a : Int × List qa) : Option ((Int × List qa) ⊕ (List qa)):=
  cond (decide (a.1 < b)) (((loop (qa9 c d) (a.1,a.2)).bind fun f=>some f).bind fun g=>some (.inl (w64 (a.1 + 1),g))) (some (.inr a.2))
noncomputable def qa7 (b : qa→qa→Option Int) (c : List qa) (a : Int) (d : Int) : Option (List qa):=
  (loop (qa8 d a b) (w64 (a + 1),c)).bind fun f=>some f
noncomputable def qbn (d : Int) (b : Int) (f : qa→qa→Option Int) (a : Int × List qa) : Option ((Int × List qa) ⊕ (List qa)):=
  cond (decide ((w64 ((w64 (2 * a.1)) + 1)) ≥ d)) (some (.inr a.2)) ((cond (decide ((w64 ((w64 ((w64 (2 * a.1)) + 1)) + 1)) < d)) ((idx a.2 (w64 (b + (w64 ((w64 (2 * a.1)) + 1))))).bind fun h=>(idx a.2 (w64 ((w64 (b + (w64 ((w64 (2 * a.1)) + 1)))) + 1))).bind fun j=>(f h j).bind fun k=>some (decide (k < 0))) (some false)).bind fun l=>(cond l (some (w64 ((w64 ((w64 (2 * a.1)) + 1)) + 1))) (some (w64 ((w64 (2 * a.1)) + 1)))).bind fun c=>(idx a.2 (w64 (b + a.1))).bind fun m=>(idx a.2 (w64 (b + c))).bind fun n=>(f m n).bind fun o=>cond (!(decide (o < 0))) (some (.inr a.2)) ((idx a.2 (w64 (b + c))).bind fun g=>(idx a.2 (w64 (b + a.1))).bind fun p=>(idx a.2 (w64 (b + a.1))).bind fun _=>(idx (a.2.set (w64 (b + a.1)).toNat g) (w64 (b + c))).bind fun _=>some (.inl (c,(a.2.set (w64 (b + a.1)).toNat g).set (w64 (b + c)).toNat p))))
noncomputable def q77 (a : qa→qa→Option Int) (b : List qa) (c : Int) (d : Int) (f : Int) : Option (List qa):=
  (loop (qbn d f a) (c,b)).bind fun g=>some g
noncomputable def q9z (d : qa→qa→Option Int) (f : Int) (b : Int) (a : Int × List qa) : Option ((Int × List qa) ⊕ (List qa)):=
  cond (decide (a.1 ≥ 0)) ((q77 d a.2 a.1 (w64 (f - b)) b).bind fun c=>(Qz c.length a.2.length).bind fun _=>some (.inl (w64 (a.1 - 1),c))) (some (.inr a.2))
noncomputable def qa0 (b : Int) (g : qa→qa→Option Int) (a : Int × List qa) : Option ((Int × List qa) ⊕ (List qa)):=
  cond (decide (a.1 ≥ 0)) ((idx a.2 (w64 (b + a.1))).bind fun c=>(idx a.2 b).bind fun d=>(idx a.2 b).bind fun _=>(idx (a.2.set b.toNat c) (w64 (b + a.1))).bind fun _=>(q77 g ((a.2.set b.toNat c).set (w64 (b + a.1)).toNat d) 0 a.1 b).bind fun f=>(Qz f.length ((a.2.set b.toNat c).set (w64 (b + a.1)).toNat d).length).bind fun _=>some (.inl (w64 (a.1 - 1),f))) (some (.inr a.2))
noncomputable def q9y (c : qa→qa→Option Int) (d : List qa) (a : Int) (b : Int) : Option (List qa):=
  (loop (q9z c b a) (w64 (Int.tdiv (w64 ((w64 (b - a)) - 1)) 2),d)).bind fun f=>(loop (qa0 a c) (w64 ((w64 (b - a)) - 1),f)).bind fun g=>some g
noncomputable def q4o (f : qa→qa→Option Int) (c : List qa) (a : Int) (b : Int) (d : Int) : Option (Int × Int × Int):=
  (idx c b).bind fun g=>(idx c a).bind fun h=>(f g h).bind fun j=>cond (decide (j < 0)) (some (b,a,w64 (d + 1))) (some (a,b,d))
noncomputable def q6p (a : qa→qa→Option Int) (b : List qa) (g : Int) (h : Int) (j : Int) (k : Int) : Option (Int × Int):=
  (q4o a b g h k).bind fun c=>(q4o a b c.2.1 j c.2.2).bind fun d=>(q4o a b c.1 d.1 d.2.2).bind fun f=>some (f.2.1,f.2.2)
noncomputable def q4l (c : qa→qa→Option Int) (d : List qa) (a : Int) (f : Int) : Option (Int × Int):=
  (q6p c d (w64 (a - 1)) a (w64 (a + 1)) f).bind fun b=>some (b.1,b.2)
noncomputable def q9t (d : List qa) (a : Int) (b : Int) (f : qa→qa→Option Int) : Option (Int × Int):=
  (cond (decide ((w64 (b - a)) ≥ 8)) ((cond (decide ((w64 (b - a)) ≥ 50)) ((q4l f d (w64 (a + (w64 ((w64 (Int.tdiv (w64 (b - a)) 4)) * 1)))) 0).bind fun h=>(q4l f d (w64 (a + (w64 ((w64 (Int.tdiv (w64 (b - a)) 4)) * 2)))) h.2).bind fun j=>(q4l f d (w64 (a + (w64 ((w64 (Int.tdiv (w64 (b - a)) 4)) * 3)))) j.2).bind fun k=>some (h.1,j.1,k.1,k.2)) (some (w64 (a + (w64 ((w64 (Int.tdiv (w64 (b - a)) 4)) * 1))),w64 (a + (w64 ((w64 (Int.tdiv (w64 (b - a)) 4)) * 2))),w64 (a + (w64 ((w64 (Int.tdiv (w64 (b - a)) 4)) * 3))),0))).bind fun g=>(q6p f d g.1 g.2.1 g.2.2.1 g.2.2.2).bind fun l=>some (l.1,l.2)) (some (w64 (a + (w64 ((w64 (Int.tdiv (w64 (b - a)) 4)) * 2))),0))).bind fun c=>cond (c.2 == 0) (some (c.1,1)) (cond (c.2 == 12) (some (c.1,2)) (some (c.1,0)))
noncomputable def qbj (a : Int × Int × List qa) : Option ((Int × Int × List qa) ⊕ (List qa)):=
  cond (decide (a.1 < a.2.1)) ((idx a.2.2 a.2.1).bind fun b=>(idx a.2.2 a.1).bind fun c=>(idx a.2.2 a.1).bind fun _=>(idx (a.2.2.set a.1.toNat b) a.2.1).bind fun _=>some (.inl (w64 (a.1 + 1),w64 (a.2.1 - 1),(a.2.2.set a.1.toNat b).set a.2.1.toNat c))) (some (.inr a.2.2))
noncomputable def qbi (f : qa→qa→Option Int) (a : List qa) (b : Int) (c : Int) : Option (List qa):=
  (loop qbj (b,w64 (c - 1),a)).bind fun d=>some d
noncomputable def qag (c : Int) (b : Int × Int × List qa) (d : qa→qa→Option Int) (a : Int) : Option ((Int) ⊕ (Int)):=
  (cond (decide (a < c)) ((idx b.2.2 a).bind fun f=>(idx b.2.2 (w64 (a - 1))).bind fun g=>(d f g).bind fun h=>some (!(decide (h < 0)))) (some false)).bind fun j=>cond j (some (.inl (w64 (a + 1)))) (some (.inr a))
noncomputable def qah (c : qa→qa→Option Int) (a : Int × List qa) : Option ((Int × List qa) ⊕ (List qa)):=
  cond (decide (a.1 ≥ 1)) ((idx a.2 a.1).bind fun d=>(idx a.2 (w64 (a.1 - 1))).bind fun f=>(c d f).bind fun g=>cond (!(decide (g < 0))) (some (.inr a.2)) ((idx a.2 (w64 (a.1 - 1))).bind fun b=>(idx a.2 a.1).bind fun h=>(idx a.2 a.1).bind fun _=>(idx (a.2.set a.1.toNat b) (w64 (a.1 - 1))).bind fun _=>some (.inl (w64 (a.1 - 1),(a.2.set a.1.toNat b).set (w64 (a.1 - 1)).toNat h)))) (some (.inr a.2))
noncomputable def qai (d : Int) (f : qa→qa→Option Int) (b : Int) (a : Int × List qa) : Option ((Int × List qa) ⊕ (Int × List qa)):=
  cond (decide (a.1 < d)) ((idx a.2 a.1).bind fun g=>(idx a.2 (w64 (a.1 - 1))).bind fun h=>(f g h).bind fun j=>cond (!(decide (j < 0))) (some (.inr (b,a.2))) ((idx a.2 (w64 (a.1 - 1))).bind fun c=>(idx a.2 a.1).bind fun k=>(idx a.2 a.1).bind fun _=>(idx (a.2.set a.1.toNat c) (w64 (a.1 - 1))).bind fun _=>some (.inl (w64 (a.1 + 1),(a.2.set a.1.toNat c).set (w64 (a.1 - 1)).toNat k)))) (some (.inr (b,a.2)))
noncomputable def q6u (c : Int) (d : qa→qa→Option Int) (h : Int) (b : Int × Int × List qa) : Option ((Int × Int × List qa) ⊕ ((List qa) ⊕ (Bool × List qa))):=
  cond (decide (b.2.1 < 5)) (((loop (qag c b d) b.1).bind fun a=>cond (a == c) (some (.inr (true,b.2.2))) (cond (decide ((w64 (c - h)) < 50)) (some (.inr (false,b.2.2))) ((idx b.2.2 (w64 (a - 1))).bind fun f=>(idx b.2.2 a).bind fun j=>(idx b.2.2 a).bind fun _=>(idx (b.2.2.set a.toNat f) (w64 (a - 1))).bind fun _=>(cond (decide ((w64 (a - h)) ≥ 2)) ((loop (qah d) (w64 (a - 1),(b.2.2.set a.toNat f).set (w64 (a - 1)).toNat j)).bind fun g=>some g) (some ((b.2.2.set a.toNat f).set (w64 (a - 1)).toNat j))).bind fun k=>cond (decide ((w64 (c - a)) ≥ 2)) ((loop (qai c d a) (w64 (a + 1),k)).bind fun g=>some (.inl g)) (some (.inl (a,k))))) : Option ((Int × List qa) ⊕ (Bool × List qa))).bind fun m=>(match m with | .inl l=>some (.inl (l.1,w64 (b.2.1 + 1),l.2)) | .inr n=>some (.inr (.inr n)))) (some (.inr (.inl b.2.2)))
noncomputable def q6t (b : qa→qa→Option Int) (c : List qa) (a : Int) (d : Int) : Option (Bool × List qa):=
  (loop (q6u d b a) (w64 (a + 1),0,c) : Option ((List qa) ⊕ (Bool × List qa))).bind fun f=>(match f with | .inl g=>some (false,g) | .inr h=>some h)
noncomputable def qba (b : Int × Int × List qa) (c : Int) (d : qa→qa→Option Int) (a : Int) : Option ((Int) ⊕ (Int)):=
  (cond (decide (a≤b.2.1)) ((idx b.2.2 c).bind fun f=>(idx b.2.2 a).bind fun g=>(d f g).bind fun h=>some (!(decide (h < 0)))) (some false)).bind fun j=>cond j (some (.inl (w64 (a + 1)))) (some (.inr a))
noncomputable def qbb (c : Int) (b : Int × Int × List qa) (d : Int) (f : qa→qa→Option Int) (a : Int) : Option ((Int) ⊕ (Int)):=
  (cond (decide (c≤a)) ((idx b.2.2 d).bind fun g=>(idx b.2.2 a).bind fun h=>(f g h).bind fun j=>some (decide (j < 0))) (some false)).bind fun k=>cond k (some (.inl (w64 (a - 1)))) (some (.inr a))
noncomputable def qb9 (d : Int) (f : qa→qa→Option Int) (a : Int × Int × List qa) : Option ((Int × Int × List qa) ⊕ (Int × List qa)):=
  (loop (qba a d f) a.1).bind fun b=>(loop (qbb b a d f) a.2.1).bind fun c=>cond (decide (b > c)) (some (.inr (b,a.2.2))) ((idx a.2.2 c).bind fun g=>(idx a.2.2 b).bind fun h=>(idx a.2.2 b).bind fun _=>(idx (a.2.2.set b.toNat g) c).bind fun _=>some (.inl (w64 (b + 1),w64 (c - 1),(a.2.2.set b.toNat g).set c.toNat h)))
noncomputable def qb8 (g : qa→qa→Option Int) (b : List qa) (a : Int) (h : Int) (c : Int) : Option (Int × List qa):=
  (idx b c).bind fun d=>(idx b a).bind fun j=>(idx b a).bind fun _=>(idx (b.set a.toNat d) c).bind fun _=>(loop (qb9 a g) (w64 (a + 1),w64 (h - 1),(b.set a.toNat d).set c.toNat j)).bind fun f=>some (f.1,f.2)
noncomputable def qat (h : Int) (c : List qa) (b : Int) (d : qa) (f : Int) (g : qa) (j : qa→qa→Option Int) (a : Int) : Option ((Int) ⊕ (Int)):=
  (cond (decide (a≤(w64 (h - 1)))) ((idx ((c.set b.toNat d).set f.toNat g) a).bind fun k=>(idx ((c.set b.toNat d).set f.toNat g) b).bind fun l=>(j k l).bind fun m=>some (decide (m < 0))) (some false)).bind fun n=>cond n (some (.inl (w64 (a + 1)))) (some (.inr a))
noncomputable def qau (h : Int) (c : List qa) (b : Int) (d : qa) (f : Int) (g : qa) (j : qa→qa→Option Int) (a : Int) : Option ((Int) ⊕ (Int)):=
  (cond (decide (h≤a)) ((idx ((c.set b.toNat d).set f.toNat g) a).bind fun k=>(idx ((c.set b.toNat d).set f.toNat g) b).bind fun l=>(j k l).bind fun m=>some (!(decide (m < 0)))) (some false)).bind fun n=>cond n (some (.inl (w64 (a - 1)))) (some (.inr a))
noncomputable def qaw (b : Int × Int × List qa) (c : Int) (d : qa→qa→Option Int) (a : Int) : Option ((Int) ⊕ (Int)):=
  (cond (decide (a≤b.2.1)) ((idx b.2.2 a).bind fun f=>(idx b.2.2 c).bind fun g=>(d f g).bind fun h=>some (decide (h < 0))) (some false)).bind fun j=>cond j (some (.inl (w64 (a + 1)))) (some (.inr a))
noncomputable def qax (c : Int) (b : Int × Int × List qa) (d : Int) (f : qa→qa→Option Int) (a : Int) : Option ((Int) ⊕ (Int)):=
  (cond (decide (c≤a)) ((idx b.2.2 a).bind fun g=>(idx b.2.2 d).bind fun h=>(f g h).bind fun j=>some (!(decide (j < 0)))) (some false)).bind fun k=>cond k (some (.inl (w64 (a - 1)))) (some (.inr a))
noncomputable def qav (d : Int) (f : qa→qa→Option Int) (a : Int × Int × List qa) : Option ((Int × Int × List qa) ⊕ (Int × List qa)):=
  (loop (qaw a d f) a.1).bind fun b=>(loop (qax b a d f) a.2.1).bind fun c=>cond (decide (b > c)) (some (.inr (c,a.2.2))) ((idx a.2.2 c).bind fun g=>(idx a.2.2 b).bind fun h=>(idx a.2.2 b).bind fun _=>(idx (a.2.2.set b.toNat g) c).bind fun _=>some (.inl (w64 (b + 1),w64 (c - 1),(a.2.2.set b.toNat g).set c.toNat h)))
noncomputable def qas (k : qa→qa→Option Int) (b : List qa) (a : Int) (l : Int) (c : Int) : Option (Int × Bool × List qa):=
  (idx b c).bind fun d=>(idx b a).bind fun f=>(idx b a).bind fun _=>(idx (b.set a.toNat d) c).bind fun _=>(loop (qat l b a d c f k) (w64 (a + 1))).bind fun j=>(loop (qau j b a d c f k) (w64 (l - 1))).bind fun g=>cond (decide (j > g)) ((idx ((b.set a.toNat d).set c.toNat f) a).bind fun m=>(idx ((b.set a.toNat d).set c.toNat f) g).bind fun p=>(idx ((b.set a.toNat d).set c.toNat f) g).bind fun _=>(idx (((b.set a.toNat d).set c.toNat f).set g.toNat m) a).bind fun _=>some (g,true,(((b.set a.toNat d).set c.toNat f).set g.toNat m).set a.toNat p)) ((idx ((b.set a.toNat d).set c.toNat f) g).bind fun n=>(idx ((b.set a.toNat d).set c.toNat f) j).bind fun q=>(idx ((b.set a.toNat d).set c.toNat f) j).bind fun _=>(idx (((b.set a.toNat d).set c.toNat f).set j.toNat n) g).bind fun _=>(loop (qav a k) (w64 (j + 1),w64 (g - 1),(((b.set a.toNat d).set c.toNat f).set j.toNat n).set g.toNat q)).bind fun h=>(idx h.2 a).bind fun o=>(idx h.2 h.1).bind fun r=>(idx h.2 h.1).bind fun _=>(idx (h.2.set h.1.toNat o) a).bind fun _=>some (h.1,false,(h.2.set h.1.toNat o).set a.toNat r))
noncomputable def q9p (b : Int) (d : Int) (f : Int) (a : Int × List qa × Int) : Option ((Int × List qa × Int) ⊕ (List qa)):=
  cond (decide (a.1≤(w64 ((w64 (b + (w64 ((w64 (Int.tdiv (w64 (d - b)) 4)) * 2)))) + 1)))) ((Uu a.2.2).bind fun c=>(cond (decide ((w64 (andI .u64 c (IntKind.wrap .u64 (f - 1)))) ≥ (w64 (d - b)))) (some (w64 ((w64 (andI .u64 c (IntKind.wrap .u64 (f - 1)))) - (w64 (d - b))))) (some (w64 (andI .u64 c (IntKind.wrap .u64 (f - 1)))))).bind fun g=>(idx a.2.1 (w64 (b + g))).bind fun h=>(idx a.2.1 a.1).bind fun j=>(idx a.2.1 a.1).bind fun _=>(idx (a.2.1.set a.1.toNat h) (w64 (b + g))).bind fun _=>some (.inl (w64 (a.1 + 1),(a.2.1.set a.1.toNat h).set (w64 (b + g)).toNat j,c))) (some (.inr a.2.1))
noncomputable def q9o (g : qa→qa→Option Int) (c : List qa) (a : Int) (b : Int) : Option (List qa):=
  cond (decide ((w64 (b - a)) ≥ 8)) ((Ut (w64 (b - a))).bind fun d=>(loop (q9p a b d) (w64 ((w64 (a + (w64 ((w64 (Int.tdiv (w64 (b - a)) 4)) * 2)))) - 1),c,IntKind.wrap .u64 (w64 (b - a)))).bind fun f=>some f) (some c)
noncomputable def q71 (c : qa→qa→Option Int) (rec : List qa→Int→Int→Int→Option (List qa)) (a : Int × Int × Int × Bool × Bool × List qa) : Option ((Int × Int × Int × Bool × Bool × List qa) ⊕ (List qa)):=
  cond (decide ((w64 (a.2.1 - a.1))≤12)) ((qa7 c a.2.2.2.2.2 a.1 a.2.1).bind fun l=>(Qz l.length a.2.2.2.2.2.length).bind fun _=>some (.inr l)) (cond (a.2.2.1 == 0) ((q9y c a.2.2.2.2.2 a.1 a.2.1).bind fun m=>(Qz m.length a.2.2.2.2.2.length).bind fun _=>some (.inr m)) ((cond (!a.2.2.2.1) ((q9o c a.2.2.2.2.2 a.1 a.2.1).bind fun n=>(Qz n.length a.2.2.2.2.2.length).bind fun _=>some (w64 (a.2.2.1 - 1),n)) (some (a.2.2.1,a.2.2.2.2.2))).bind fun d=>(q9t d.2 a.1 a.2.1 c).bind fun h=>(cond (h.2 == 2) ((qbi c d.2 a.1 a.2.1).bind fun o=>(Qz o.length d.2.length).bind fun _=>some (w64 ((w64 (a.2.1 - 1)) - (w64 (h.1 - a.1))),1,o)) (some (h.1,h.2,d.2))).bind fun f=>(cond a.2.2.2.1 (some a.2.2.2.2.1) (some false)).bind fun r=>(cond r (some (f.2.1 == 1)) (some false)).bind fun s=>(cond s ((q6t c f.2.2 a.1 a.2.1).bind fun j=>(Qz j.2.length f.2.2.length).bind fun _=>cond j.1 (some (.inr j.2)) (some (.inl j.2))) (some (.inl f.2.2)) : Option ((List qa) ⊕ (List qa))).bind fun t=>(match t with | .inl g=>(cond (decide (a.1 > 0)) ((idx g (w64 (a.1 - 1))).bind fun u=>(idx g f.1).bind fun v=>(c u v).bind fun w=>some (!(decide (w < 0)))) (some false)).bind fun x=>cond x ((qb8 c g a.1 a.2.1 f.1).bind fun k=>(Qz k.2.length g.length).bind fun _=>some (.inl (k.1,a.2.1,d.1,a.2.2.2.1,a.2.2.2.2.1,k.2))) ((qas c g a.1 a.2.1 f.1).bind fun b=>(Qz b.2.2.length g.length).bind fun _=>cond (decide ((w64 (b.1 - a.1)) < (w64 (a.2.1 - b.1)))) ((rec b.2.2 a.1 b.1 d.1).bind fun p=>(Qz p.length b.2.2.length).bind fun _=>some (.inl (w64 (b.1 + 1),a.2.1,d.1,decide ((w64 (b.1 - a.1)) ≥ (w64 (Int.tdiv (w64 (a.2.1 - a.1)) 8))),b.2.1,p))) ((rec b.2.2 (w64 (b.1 + 1)) a.2.1 d.1).bind fun q=>(Qz q.length b.2.2.length).bind fun _=>some (.inl (a.1,b.1,d.1,decide ((w64 (a.2.1 - b.1)) ≥ (w64 (Int.tdiv (w64 (a.2.1 - a.1)) 8))),b.2.1,q)))) | .inr y=>some (.inr y))))
noncomputable def q72 (rec : List qa→Int→Int→Int→Option (List qa)) (a : qa→qa→Option Int) (b : List qa) (c : Int) (d : Int) (f : Int) : Option (List qa):=
  (loop (q71 a rec) (c,d,f,true,true,b)).bind fun g=>some g
noncomputable def q70 : Nat→(qa→qa→Option Int)→List qa→Int→Int→Int→Option (List qa)
  | 0,_,_,_,_,_=>none
  | n + 1,a,b,c,d,f=>q72 (q70 n a) a b c d f
noncomputable def q6m (c : qa→qa→Option Int) (a : List qa) : Option (List qa):=
  (U6 (IntKind.wrap .u64 (a.length : Int))).bind fun d=>(lim (fun n=>q70 n c a 0 (a.length : Int) d)).bind fun b=>(Qz b.length a.length).bind fun _=>some b
noncomputable def q3l (c : qi) (b : Int × List qi) (d : (List (qa × Bool))) (a : Int × List qi) : Option (((List (qa × Bool))) ⊕ (Empty)):=
  (cond (decide (a.1 > c.Lo)) (some (decide (a.1 < c.Hi))) (some false)).bind fun f=>(cond f ((q1s a.2 b.1).bind fun g=>(cond g (some true) ((q1s a.2 (w64 (b.1 - 1))).bind fun h=>some h)).bind fun j=>some j) (some false)).bind fun k=>cond k (some (.inl (Ka ({X:=a.1,Y:=b.1} : qa) true d))) (some (.inl d))
noncomputable def q3k (a : Int × List qi) (b : Yb) (c : Int × (List (qa × Bool))) : Option ((Int × (List (qa × Bool))) ⊕ (((List (qa × Bool))) ⊕ (List qa × Bool))):=
  cond (decide (c.1 < (a.2.length : Int))) ((idx a.2 c.1).bind fun d=>(q3j ({X:=d.Lo,Y:=a.1} : qa) b.rows_ b.columns_ c.2).bind fun h=>(q3j ({X:=d.Hi,Y:=a.1} : qa) b.rows_ b.columns_ h).bind fun f=>(Us (fun (x y : (List (qa × Bool)))=>List.Perm x y) (q3l d a) b.columns_ (f : (List (qa × Bool)))).bind fun _=>(Ko (q3l d a) b.columns_ (f : (List (qa × Bool)))).bind fun j=>(match j with | .inl g=>cond (decide ((g.length : Int) > 400)) (some (.inr (.inr ([],false)))) (some (.inl (w64 (c.1 + 1),g))) | .inr k=>k.elim)) (some (.inr (.inl c.2)))
noncomputable def Uy (a : Yb) (b : (List (qa × Bool))) (c : Int × List qi) : Option (((List (qa × Bool))) ⊕ (List qa × Bool)):=
  (loop (q3k c a) (0,b) : Option (((List (qa × Bool))) ⊕ (List qa × Bool))).bind fun d=>(match d with | .inl f=>some (.inl f) | .inr g=>some (.inr g))
noncomputable def q4y (b : Int × List qi) (c : Yb) (a : Int × (List (qa × Bool))) : Option ((Int × (List (qa × Bool))) ⊕ ((List (qa × Bool)))):=
  cond (decide (a.1 < (b.2.length : Int))) ((idx b.2 a.1).bind fun d=>(q3j ({X:=b.1,Y:=d.Lo} : qa) c.rows_ c.columns_ a.2).bind fun f=>(q3j ({X:=b.1,Y:=d.Hi} : qa) c.rows_ c.columns_ f).bind fun g=>some (.inl (w64 (a.1 + 1),g))) (some (.inr a.2))
noncomputable def q3m (a : Yb) (b : (List (qa × Bool))) (c : Int × List qi) : Option (((List (qa × Bool))) ⊕ (Empty)):=
  (loop (q4y c a) (0,b)).bind fun d=>some (.inl d)
noncomputable def q2o (a : List qa) (b : qa × Bool) : Option ((List qa) ⊕ Empty):=
  (app 16 a [b.1]).bind fun c=>some (.inl c)
noncomputable def q3n (a : List qa) : Option (List qa × Bool):=
  (q6m (fun c d=>q1w c d) a).bind fun b=>(Qz b.length a.length).bind fun _=>some (b,decide ((a.length : Int)≤400))
noncomputable def q7e (a : Yb) : Option (List qa × Bool):=
  (Us (fun (x y : (List (qa × Bool)))=>List.Perm x y) (Uy a) a.rows_ (([] : List (qa × Bool)) : (List (qa × Bool)))).bind fun _=>(Ko (Uy a) a.rows_ (([] : List (qa × Bool)) : (List (qa × Bool)))).bind fun f=>(match f with | .inl c=>(Us (fun (x y : (List (qa × Bool)))=>List.Perm x y) (q3m a) a.columns_ (c : (List (qa × Bool)))).bind fun _=>(Ko (q3m a) a.columns_ (c : (List (qa × Bool)))).bind fun g=>(match g with | .inl d=>(q4i (fun l=>(Ko (q2o) l (([] : List qa) : List qa)).bind (q7g (q3n))) d).bind fun _=>(Ko (q2o) d (([] : List qa) : List qa)).bind (q7g (q3n)) | .inr b=>b.elim) | .inr b=>some b)
noncomputable def q2n (a : qj) (b : qj) : Option Int:=
  (q1w ({X:=a.A,Y:=a.B} : qa) ({X:=b.A,Y:=b.B} : qa)).bind fun c=>some c
noncomputable def qa6 (c : Int) (d : qj→qj→Option Int) (a : Int × List qj) : Option ((Int × List qj) ⊕ (List qj)):=
  (cond (decide (a.1 > c)) ((idx a.2 a.1).bind fun f=>(idx a.2 (w64 (a.1 - 1))).bind fun g=>(d f g).bind fun h=>some (decide (h < 0))) (some false)).bind fun j=>cond j ((idx a.2 (w64 (a.1 - 1))).bind fun b=>(idx a.2 a.1).bind fun k=>(idx a.2 a.1).bind fun _=>(idx (a.2.set a.1.toNat b) (w64 (a.1 - 1))).bind fun _=>some (.inl (w64 (a.1 - 1),(a.2.set a.1.toNat b).set (w64 (a.1 - 1)).toNat k))) (some (.inr a.2))
noncomputable def qa5 (b : Int) (c : Int) (d : qj→qj→Option Int) (a : Int × List qj) : Option ((Int × List qj) ⊕ (List qj)):=
  cond (decide (a.1 < b)) (((loop (qa6 c d) (a.1,a.2)).bind fun f=>some f).bind fun g=>some (.inl (w64 (a.1 + 1),g))) (some (.inr a.2))
noncomputable def qa4 (b : qj→qj→Option Int) (c : List qj) (a : Int) (d : Int) : Option (List qj):=
  (loop (qa5 d a b) (w64 (a + 1),c)).bind fun f=>some f
noncomputable def qbm (d : Int) (b : Int) (f : qj→qj→Option Int) (a : Int × List qj) : Option ((Int × List qj) ⊕ (List qj)):=
  cond (decide ((w64 ((w64 (2 * a.1)) + 1)) ≥ d)) (some (.inr a.2)) ((cond (decide ((w64 ((w64 ((w64 (2 * a.1)) + 1)) + 1)) < d)) ((idx a.2 (w64 (b + (w64 ((w64 (2 * a.1)) + 1))))).bind fun h=>(idx a.2 (w64 ((w64 (b + (w64 ((w64 (2 * a.1)) + 1)))) + 1))).bind fun j=>(f h j).bind fun k=>some (decide (k < 0))) (some false)).bind fun l=>(cond l (some (w64 ((w64 ((w64 (2 * a.1)) + 1)) + 1))) (some (w64 ((w64 (2 * a.1)) + 1)))).bind fun c=>(idx a.2 (w64 (b + a.1))).bind fun m=>(idx a.2 (w64 (b + c))).bind fun n=>(f m n).bind fun o=>cond (!(decide (o < 0))) (some (.inr a.2)) ((idx a.2 (w64 (b + c))).bind fun g=>(idx a.2 (w64 (b + a.1))).bind fun p=>(idx a.2 (w64 (b + a.1))).bind fun _=>(idx (a.2.set (w64 (b + a.1)).toNat g) (w64 (b + c))).bind fun _=>some (.inl (c,(a.2.set (w64 (b + a.1)).toNat g).set (w64 (b + c)).toNat p))))
noncomputable def q76 (a : qj→qj→Option Int) (b : List qj) (c : Int) (d : Int) (f : Int) : Option (List qj):=
  (loop (qbm d f a) (c,b)).bind fun g=>some g
noncomputable def q9w (d : qj→qj→Option Int) (f : Int) (b : Int) (a : Int × List qj) : Option ((Int × List qj) ⊕ (List qj)):=
  cond (decide (a.1 ≥ 0)) ((q76 d a.2 a.1 (w64 (f - b)) b).bind fun c=>(Qz c.length a.2.length).bind fun _=>some (.inl (w64 (a.1 - 1),c))) (some (.inr a.2))
noncomputable def q9x (b : Int) (g : qj→qj→Option Int) (a : Int × List qj) : Option ((Int × List qj) ⊕ (List qj)):=
  cond (decide (a.1 ≥ 0)) ((idx a.2 (w64 (b + a.1))).bind fun c=>(idx a.2 b).bind fun d=>(idx a.2 b).bind fun _=>(idx (a.2.set b.toNat c) (w64 (b + a.1))).bind fun _=>(q76 g ((a.2.set b.toNat c).set (w64 (b + a.1)).toNat d) 0 a.1 b).bind fun f=>(Qz f.length ((a.2.set b.toNat c).set (w64 (b + a.1)).toNat d).length).bind fun _=>some (.inl (w64 (a.1 - 1),f))) (some (.inr a.2))
noncomputable def q9v (c : qj→qj→Option Int) (d : List qj) (a : Int) (b : Int) : Option (List qj):=
  (loop (q9w c b a) (w64 (Int.tdiv (w64 ((w64 (b - a)) - 1)) 2),d)).bind fun f=>(loop (q9x a c) (w64 ((w64 (b - a)) - 1),f)).bind fun g=>some g
noncomputable def q4n (f : qj→qj→Option Int) (c : List qj) (a : Int) (b : Int) (d : Int) : Option (Int × Int × Int):=
  (idx c b).bind fun g=>(idx c a).bind fun h=>(f g h).bind fun j=>cond (decide (j < 0)) (some (b,a,w64 (d + 1))) (some (a,b,d))
noncomputable def q6o (a : qj→qj→Option Int) (b : List qj) (g : Int) (h : Int) (j : Int) (k : Int) : Option (Int × Int):=
  (q4n a b g h k).bind fun c=>(q4n a b c.2.1 j c.2.2).bind fun d=>(q4n a b c.1 d.1 d.2.2).bind fun f=>some (f.2.1,f.2.2)
noncomputable def q4k (c : qj→qj→Option Int) (d : List qj) (a : Int) (f : Int) : Option (Int × Int):=
  (q6o c d (w64 (a - 1)) a (w64 (a + 1)) f).bind fun b=>some (b.1,b.2)
noncomputable def q9s (d : List qj) (a : Int) (b : Int) (f : qj→qj→Option Int) : Option (Int × Int):=
  (cond (decide ((w64 (b - a)) ≥ 8)) ((cond (decide ((w64 (b - a)) ≥ 50)) ((q4k f d (w64 (a + (w64 ((w64 (Int.tdiv (w64 (b - a)) 4)) * 1)))) 0).bind fun h=>(q4k f d (w64 (a + (w64 ((w64 (Int.tdiv (w64 (b - a)) 4)) * 2)))) h.2).bind fun j=>(q4k f d (w64 (a + (w64 ((w64 (Int.tdiv (w64 (b - a)) 4)) * 3)))) j.2).bind fun k=>some (h.1,j.1,k.1,k.2)) (some (w64 (a + (w64 ((w64 (Int.tdiv (w64 (b - a)) 4)) * 1))),w64 (a + (w64 ((w64 (Int.tdiv (w64 (b - a)) 4)) * 2))),w64 (a + (w64 ((w64 (Int.tdiv (w64 (b - a)) 4)) * 3))),0))).bind fun g=>(q6o f d g.1 g.2.1 g.2.2.1 g.2.2.2).bind fun l=>some (l.1,l.2)) (some (w64 (a + (w64 ((w64 (Int.tdiv (w64 (b - a)) 4)) * 2))),0))).bind fun c=>cond (c.2 == 0) (some (c.1,1)) (cond (c.2 == 12) (some (c.1,2)) (some (c.1,0)))
noncomputable def qbh (a : Int × Int × List qj) : Option ((Int × Int × List qj) ⊕ (List qj)):=
  cond (decide (a.1 < a.2.1)) ((idx a.2.2 a.2.1).bind fun b=>(idx a.2.2 a.1).bind fun c=>(idx a.2.2 a.1).bind fun _=>(idx (a.2.2.set a.1.toNat b) a.2.1).bind fun _=>some (.inl (w64 (a.1 + 1),w64 (a.2.1 - 1),(a.2.2.set a.1.toNat b).set a.2.1.toNat c))) (some (.inr a.2.2))
noncomputable def qbg (f : qj→qj→Option Int) (a : List qj) (b : Int) (c : Int) : Option (List qj):=
  (loop qbh (b,w64 (c - 1),a)).bind fun d=>some d
noncomputable def qad (c : Int) (b : Int × Int × List qj) (d : qj→qj→Option Int) (a : Int) : Option ((Int) ⊕ (Int)):=
  (cond (decide (a < c)) ((idx b.2.2 a).bind fun f=>(idx b.2.2 (w64 (a - 1))).bind fun g=>(d f g).bind fun h=>some (!(decide (h < 0)))) (some false)).bind fun j=>cond j (some (.inl (w64 (a + 1)))) (some (.inr a))
noncomputable def qae (c : qj→qj→Option Int) (a : Int × List qj) : Option ((Int × List qj) ⊕ (List qj)):=
  cond (decide (a.1 ≥ 1)) ((idx a.2 a.1).bind fun d=>(idx a.2 (w64 (a.1 - 1))).bind fun f=>(c d f).bind fun g=>cond (!(decide (g < 0))) (some (.inr a.2)) ((idx a.2 (w64 (a.1 - 1))).bind fun b=>(idx a.2 a.1).bind fun h=>(idx a.2 a.1).bind fun _=>(idx (a.2.set a.1.toNat b) (w64 (a.1 - 1))).bind fun _=>some (.inl (w64 (a.1 - 1),(a.2.set a.1.toNat b).set (w64 (a.1 - 1)).toNat h)))) (some (.inr a.2))
noncomputable def qaf (d : Int) (f : qj→qj→Option Int) (b : Int) (a : Int × List qj) : Option ((Int × List qj) ⊕ (Int × List qj)):=
  cond (decide (a.1 < d)) ((idx a.2 a.1).bind fun g=>(idx a.2 (w64 (a.1 - 1))).bind fun h=>(f g h).bind fun j=>cond (!(decide (j < 0))) (some (.inr (b,a.2))) ((idx a.2 (w64 (a.1 - 1))).bind fun c=>(idx a.2 a.1).bind fun k=>(idx a.2 a.1).bind fun _=>(idx (a.2.set a.1.toNat c) (w64 (a.1 - 1))).bind fun _=>some (.inl (w64 (a.1 + 1),(a.2.set a.1.toNat c).set (w64 (a.1 - 1)).toNat k)))) (some (.inr (b,a.2)))
noncomputable def q6s (c : Int) (d : qj→qj→Option Int) (h : Int) (b : Int × Int × List qj) : Option ((Int × Int × List qj) ⊕ ((List qj) ⊕ (Bool × List qj))):=
  cond (decide (b.2.1 < 5)) (((loop (qad c b d) b.1).bind fun a=>cond (a == c) (some (.inr (true,b.2.2))) (cond (decide ((w64 (c - h)) < 50)) (some (.inr (false,b.2.2))) ((idx b.2.2 (w64 (a - 1))).bind fun f=>(idx b.2.2 a).bind fun j=>(idx b.2.2 a).bind fun _=>(idx (b.2.2.set a.toNat f) (w64 (a - 1))).bind fun _=>(cond (decide ((w64 (a - h)) ≥ 2)) ((loop (qae d) (w64 (a - 1),(b.2.2.set a.toNat f).set (w64 (a - 1)).toNat j)).bind fun g=>some g) (some ((b.2.2.set a.toNat f).set (w64 (a - 1)).toNat j))).bind fun k=>cond (decide ((w64 (c - a)) ≥ 2)) ((loop (qaf c d a) (w64 (a + 1),k)).bind fun g=>some (.inl g)) (some (.inl (a,k))))) : Option ((Int × List qj) ⊕ (Bool × List qj))).bind fun m=>(match m with | .inl l=>some (.inl (l.1,w64 (b.2.1 + 1),l.2)) | .inr n=>some (.inr (.inr n)))) (some (.inr (.inl b.2.2)))
noncomputable def q6r (b : qj→qj→Option Int) (c : List qj) (a : Int) (d : Int) : Option (Bool × List qj):=
  (loop (q6s d b a) (w64 (a + 1),0,c) : Option ((List qj) ⊕ (Bool × List qj))).bind fun f=>(match f with | .inl g=>some (false,g) | .inr h=>some h)
noncomputable def qb6 (b : Int × Int × List qj) (c : Int) (d : qj→qj→Option Int) (a : Int) : Option ((Int) ⊕ (Int)):=
  (cond (decide (a≤b.2.1)) ((idx b.2.2 c).bind fun f=>(idx b.2.2 a).bind fun g=>(d f g).bind fun h=>some (!(decide (h < 0)))) (some false)).bind fun j=>cond j (some (.inl (w64 (a + 1)))) (some (.inr a))
noncomputable def qb7 (c : Int) (b : Int × Int × List qj) (d : Int) (f : qj→qj→Option Int) (a : Int) : Option ((Int) ⊕ (Int)):=
  (cond (decide (c≤a)) ((idx b.2.2 d).bind fun g=>(idx b.2.2 a).bind fun h=>(f g h).bind fun j=>some (decide (j < 0))) (some false)).bind fun k=>cond k (some (.inl (w64 (a - 1)))) (some (.inr a))
noncomputable def qb5 (d : Int) (f : qj→qj→Option Int) (a : Int × Int × List qj) : Option ((Int × Int × List qj) ⊕ (Int × List qj)):=
  (loop (qb6 a d f) a.1).bind fun b=>(loop (qb7 b a d f) a.2.1).bind fun c=>cond (decide (b > c)) (some (.inr (b,a.2.2))) ((idx a.2.2 c).bind fun g=>(idx a.2.2 b).bind fun h=>(idx a.2.2 b).bind fun _=>(idx (a.2.2.set b.toNat g) c).bind fun _=>some (.inl (w64 (b + 1),w64 (c - 1),(a.2.2.set b.toNat g).set c.toNat h)))
noncomputable def qb4 (g : qj→qj→Option Int) (b : List qj) (a : Int) (h : Int) (c : Int) : Option (Int × List qj):=
  (idx b c).bind fun d=>(idx b a).bind fun j=>(idx b a).bind fun _=>(idx (b.set a.toNat d) c).bind fun _=>(loop (qb5 a g) (w64 (a + 1),w64 (h - 1),(b.set a.toNat d).set c.toNat j)).bind fun f=>some (f.1,f.2)
noncomputable def qan (h : Int) (c : List qj) (b : Int) (d : qj) (f : Int) (g : qj) (j : qj→qj→Option Int) (a : Int) : Option ((Int) ⊕ (Int)):=
  (cond (decide (a≤(w64 (h - 1)))) ((idx ((c.set b.toNat d).set f.toNat g) a).bind fun k=>(idx ((c.set b.toNat d).set f.toNat g) b).bind fun l=>(j k l).bind fun m=>some (decide (m < 0))) (some false)).bind fun n=>cond n (some (.inl (w64 (a + 1)))) (some (.inr a))
noncomputable def qao (h : Int) (c : List qj) (b : Int) (d : qj) (f : Int) (g : qj) (j : qj→qj→Option Int) (a : Int) : Option ((Int) ⊕ (Int)):=
  (cond (decide (h≤a)) ((idx ((c.set b.toNat d).set f.toNat g) a).bind fun k=>(idx ((c.set b.toNat d).set f.toNat g) b).bind fun l=>(j k l).bind fun m=>some (!(decide (m < 0)))) (some false)).bind fun n=>cond n (some (.inl (w64 (a - 1)))) (some (.inr a))
noncomputable def qaq (b : Int × Int × List qj) (c : Int) (d : qj→qj→Option Int) (a : Int) : Option ((Int) ⊕ (Int)):=
  (cond (decide (a≤b.2.1)) ((idx b.2.2 a).bind fun f=>(idx b.2.2 c).bind fun g=>(d f g).bind fun h=>some (decide (h < 0))) (some false)).bind fun j=>cond j (some (.inl (w64 (a + 1)))) (some (.inr a))
noncomputable def qar (c : Int) (b : Int × Int × List qj) (d : Int) (f : qj→qj→Option Int) (a : Int) : Option ((Int) ⊕ (Int)):=
  (cond (decide (c≤a)) ((idx b.2.2 a).bind fun g=>(idx b.2.2 d).bind fun h=>(f g h).bind fun j=>some (!(decide (j < 0)))) (some false)).bind fun k=>cond k (some (.inl (w64 (a - 1)))) (some (.inr a))
noncomputable def qap (d : Int) (f : qj→qj→Option Int) (a : Int × Int × List qj) : Option ((Int × Int × List qj) ⊕ (Int × List qj)):=
  (loop (qaq a d f) a.1).bind fun b=>(loop (qar b a d f) a.2.1).bind fun c=>cond (decide (b > c)) (some (.inr (c,a.2.2))) ((idx a.2.2 c).bind fun g=>(idx a.2.2 b).bind fun h=>(idx a.2.2 b).bind fun _=>(idx (a.2.2.set b.toNat g) c).bind fun _=>some (.inl (w64 (b + 1),w64 (c - 1),(a.2.2.set b.toNat g).set c.toNat h)))
noncomputable def qam (k : qj→qj→Option Int) (b : List qj) (a : Int) (l : Int) (c : Int) : Option (Int × Bool × List qj):=
  (idx b c).bind fun d=>(idx b a).bind fun f=>(idx b a).bind fun _=>(idx (b.set a.toNat d) c).bind fun _=>(loop (qan l b a d c f k) (w64 (a + 1))).bind fun j=>(loop (qao j b a d c f k) (w64 (l - 1))).bind fun g=>cond (decide (j > g)) ((idx ((b.set a.toNat d).set c.toNat f) a).bind fun m=>(idx ((b.set a.toNat d).set c.toNat f) g).bind fun p=>(idx ((b.set a.toNat d).set c.toNat f) g).bind fun _=>(idx (((b.set a.toNat d).set c.toNat f).set g.toNat m) a).bind fun _=>some (g,true,(((b.set a.toNat d).set c.toNat f).set g.toNat m).set a.toNat p)) ((idx ((b.set a.toNat d).set c.toNat f) g).bind fun n=>(idx ((b.set a.toNat d).set c.toNat f) j).bind fun q=>(idx ((b.set a.toNat d).set c.toNat f) j).bind fun _=>(idx (((b.set a.toNat d).set c.toNat f).set j.toNat n) g).bind fun _=>(loop (qap a k) (w64 (j + 1),w64 (g - 1),(((b.set a.toNat d).set c.toNat f).set j.toNat n).set g.toNat q)).bind fun h=>(idx h.2 a).bind fun o=>(idx h.2 h.1).bind fun r=>(idx h.2 h.1).bind fun _=>(idx (h.2.set h.1.toNat o) a).bind fun _=>some (h.1,false,(h.2.set h.1.toNat o).set a.toNat r))
noncomputable def q9n (b : Int) (d : Int) (f : Int) (a : Int × List qj × Int) : Option ((Int × List qj × Int) ⊕ (List qj)):=
  cond (decide (a.1≤(w64 ((w64 (b + (w64 ((w64 (Int.tdiv (w64 (d - b)) 4)) * 2)))) + 1)))) ((Uu a.2.2).bind fun c=>(cond (decide ((w64 (andI .u64 c (IntKind.wrap .u64 (f - 1)))) ≥ (w64 (d - b)))) (some (w64 ((w64 (andI .u64 c (IntKind.wrap .u64 (f - 1)))) - (w64 (d - b))))) (some (w64 (andI .u64 c (IntKind.wrap .u64 (f - 1)))))).bind fun g=>(idx a.2.1 (w64 (b + g))).bind fun h=>(idx a.2.1 a.1).bind fun j=>(idx a.2.1 a.1).bind fun _=>(idx (a.2.1.set a.1.toNat h) (w64 (b + g))).bind fun _=>some (.inl (w64 (a.1 + 1),(a.2.1.set a.1.toNat h).set (w64 (b + g)).toNat j,c))) (some (.inr a.2.1))
noncomputable def q9m (g : qj→qj→Option Int) (c : List qj) (a : Int) (b : Int) : Option (List qj):=
  cond (decide ((w64 (b - a)) ≥ 8)) ((Ut (w64 (b - a))).bind fun d=>(loop (q9n a b d) (w64 ((w64 (a + (w64 ((w64 (Int.tdiv (w64 (b - a)) 4)) * 2)))) - 1),c,IntKind.wrap .u64 (w64 (b - a)))).bind fun f=>some f) (some c)
noncomputable def q6y (c : qj→qj→Option Int) (rec : List qj→Int→Int→Int→Option (List qj)) (a : Int × Int × Int × Bool × Bool × List qj) : Option ((Int × Int × Int × Bool × Bool × List qj) ⊕ (List qj)):=
  cond (decide ((w64 (a.2.1 - a.1))≤12)) ((qa4 c a.2.2.2.2.2 a.1 a.2.1).bind fun l=>(Qz l.length a.2.2.2.2.2.length).bind fun _=>some (.inr l)) (cond (a.2.2.1 == 0) ((q9v c a.2.2.2.2.2 a.1 a.2.1).bind fun m=>(Qz m.length a.2.2.2.2.2.length).bind fun _=>some (.inr m)) ((cond (!a.2.2.2.1) ((q9m c a.2.2.2.2.2 a.1 a.2.1).bind fun n=>(Qz n.length a.2.2.2.2.2.length).bind fun _=>some (w64 (a.2.2.1 - 1),n)) (some (a.2.2.1,a.2.2.2.2.2))).bind fun d=>(q9s d.2 a.1 a.2.1 c).bind fun h=>(cond (h.2 == 2) ((qbg c d.2 a.1 a.2.1).bind fun o=>(Qz o.length d.2.length).bind fun _=>some (w64 ((w64 (a.2.1 - 1)) - (w64 (h.1 - a.1))),1,o)) (some (h.1,h.2,d.2))).bind fun f=>(cond a.2.2.2.1 (some a.2.2.2.2.1) (some false)).bind fun r=>(cond r (some (f.2.1 == 1)) (some false)).bind fun s=>(cond s ((q6r c f.2.2 a.1 a.2.1).bind fun j=>(Qz j.2.length f.2.2.length).bind fun _=>cond j.1 (some (.inr j.2)) (some (.inl j.2))) (some (.inl f.2.2)) : Option ((List qj) ⊕ (List qj))).bind fun t=>(match t with | .inl g=>(cond (decide (a.1 > 0)) ((idx g (w64 (a.1 - 1))).bind fun u=>(idx g f.1).bind fun v=>(c u v).bind fun w=>some (!(decide (w < 0)))) (some false)).bind fun x=>cond x ((qb4 c g a.1 a.2.1 f.1).bind fun k=>(Qz k.2.length g.length).bind fun _=>some (.inl (k.1,a.2.1,d.1,a.2.2.2.1,a.2.2.2.2.1,k.2))) ((qam c g a.1 a.2.1 f.1).bind fun b=>(Qz b.2.2.length g.length).bind fun _=>cond (decide ((w64 (b.1 - a.1)) < (w64 (a.2.1 - b.1)))) ((rec b.2.2 a.1 b.1 d.1).bind fun p=>(Qz p.length b.2.2.length).bind fun _=>some (.inl (w64 (b.1 + 1),a.2.1,d.1,decide ((w64 (b.1 - a.1)) ≥ (w64 (Int.tdiv (w64 (a.2.1 - a.1)) 8))),b.2.1,p))) ((rec b.2.2 (w64 (b.1 + 1)) a.2.1 d.1).bind fun q=>(Qz q.length b.2.2.length).bind fun _=>some (.inl (a.1,b.1,d.1,decide ((w64 (a.2.1 - b.1)) ≥ (w64 (Int.tdiv (w64 (a.2.1 - a.1)) 8))),b.2.1,q)))) | .inr y=>some (.inr y))))
noncomputable def q6z (rec : List qj→Int→Int→Int→Option (List qj)) (a : qj→qj→Option Int) (b : List qj) (c : Int) (d : Int) (f : Int) : Option (List qj):=
  (loop (q6y a rec) (c,d,f,true,true,b)).bind fun g=>some g
noncomputable def q6x : Nat→(qj→qj→Option Int)→List qj→Int→Int→Int→Option (List qj)
  | 0,_,_,_,_,_=>none
  | n + 1,a,b,c,d,f=>q6z (q6x n a) a b c d f
noncomputable def q4j (c : qj→qj→Option Int) (a : List qj) : Option (List qj):=
  (U6 (IntKind.wrap .u64 (a.length : Int))).bind fun d=>(lim (fun n=>q6x n c a 0 (a.length : Int) d)).bind fun b=>(Qz b.length a.length).bind fun _=>some b
noncomputable def q3i (c : List qa × Bool) (g : Yb) (a : Int × (List (Int × Int)) × (List (Int × Int)) × List qj) : Option ((Int × (List (Int × Int)) × (List (Int × Int)) × List qj) ⊕ (List qj)):=
  cond (decide (a.1 < (c.1.length : Int))) ((idx c.1 a.1).bind fun b=>(q4x g b).bind fun d=>(cond d.2.2.1 ((app 16 a.2.2.2 [({A:=K5 0 b.Y a.2.1,B:=a.1} : qj)]).bind fun h=>some h) (some a.2.2.2)).bind fun f=>(cond d.2.2.2 ((app 16 f [({A:=K5 0 b.X a.2.2.1,B:=a.1} : qj)]).bind fun j=>some j) (some f)).bind fun k=>some (.inl (w64 (a.1 + 1),Ka b.Y a.1 a.2.1,Ka b.X a.1 a.2.2.1,k))) (some (.inr a.2.2.2))
noncomputable def q3h (f : List qu) : Option (Qh × Bool):=
  (q7d f).bind fun c=>(q7e c).bind fun a=>cond (!a.2) (some (({Nodes:=[],Edges:=[]} : Qh),false)) ((loop (q3i a c) (0,[],[],[])).bind fun b=>(q4j (fun g h=>q2n g h) b).bind fun d=>(Qz d.length b.length).bind fun _=>some (({Nodes:=a.1,Edges:=d} : Qh),decide ((b.length : Int)≤800)))
noncomputable def q6k (b : List qa) (f : List qa) (a : Int) : Option ((Int) ⊕ ((Unit) ⊕ (Bool))):=
  cond (decide (a < (b.length : Int))) ((idx b a).bind fun c=>(idx f a).bind fun d=>cond (!((c.X == d.X) && ((c.Y == d.Y) && true))) (some (.inr (.inr false))) (some (.inl (w64 (a + 1))))) (some (.inr (.inl ())))
noncomputable def q9j (a : List qa) (b : List qa) : Option Bool:=
  cond ((a.length : Int) != (b.length : Int)) (some false) ((loop (q6k a b) 0 : Option ((Unit) ⊕ (Bool))).bind fun c=>(match c with | .inl _=>some true | .inr d=>some d))
noncomputable def q6j (b : List qj) (f : List qj) (a : Int) : Option ((Int) ⊕ ((Unit) ⊕ (Bool))):=
  cond (decide (a < (b.length : Int))) ((idx b a).bind fun c=>(idx f a).bind fun d=>cond (!((c.A == d.A) && ((c.B == d.B) && true))) (some (.inr (.inr false))) (some (.inl (w64 (a + 1))))) (some (.inr (.inl ())))
noncomputable def q9i (a : List qj) (b : List qj) : Option Bool:=
  cond ((a.length : Int) != (b.length : Int)) (some false) ((loop (q6j a b) 0 : Option ((Unit) ⊕ (Bool))).bind fun c=>(match c with | .inl _=>some true | .inr d=>some d))
noncomputable def qbz (a : Qh) (b : Qh) : Option Bool:=
  (q9j a.Nodes b.Nodes).bind fun c=>(cond c ((q9i a.Edges b.Edges).bind fun d=>some d) (some false)).bind fun f=>some f
noncomputable def Uv (a : Qh) : Option Int:=
  (cond (decide ((a.Nodes.length : Int) > 400)) (some true) (some (decide ((a.Edges.length : Int) > 800)))).bind fun d=>cond d (some 4) ((q4v a).bind fun b=>cond (!b.2) (some 8) ((q3h b.1).bind fun c=>(cond (!c.2) (some true) ((qbz c.1 a).bind fun f=>some (!f))).bind fun g=>cond g (some 8) (some 0)))
noncomputable def q2m (a : Qh) : Option (List qu × Int):=
  (Uv a).bind fun b=>cond (b != 0) (some ([],b)) ((q4v a).bind fun c=>some (c.1,0))
noncomputable def q5z (a : qa) : Option Bool:=
  (cond (decide (a.X ≥ (-1000000))) (some (decide (a.X≤1000000))) (some false)).bind fun b=>(cond b (some (decide (a.Y ≥ (-1000000)))) (some false)).bind fun c=>(cond c (some (decide (a.Y≤1000000))) (some false)).bind fun d=>some d
noncomputable def q4g (a : qu) : Option Bool:=
  (cond (!((a.A.X == a.B.X) && ((a.A.Y == a.B.Y) && true))) ((cond (a.A.X == a.B.X) (some true) (some (a.A.Y == a.B.Y))).bind fun b=>some b) (some false)).bind fun c=>(cond c ((q5z a.A).bind fun d=>some d) (some false)).bind fun f=>(cond f ((q5z a.B).bind fun g=>some g) (some false)).bind fun h=>some h
noncomputable def qh5 (a : Qh) (c : Int × List qu) : Option ((Int × List qu) ⊕ ((List qu) ⊕ (List qu × Bool))):=
  cond (decide (c.1 < (a.Edges.length : Int))) ((idx a.Edges c.1).bind fun b=>(cond (decide (b.A < 0)) (some true) (some (decide (b.A ≥ (a.Nodes.length : Int))))).bind fun g=>(cond g (some true) (some (decide (b.B < 0)))).bind fun h=>(cond h (some true) (some (decide (b.B ≥ (a.Nodes.length : Int))))).bind fun j=>cond j (some (.inr (.inr ([],false)))) ((idx a.Nodes b.A).bind fun d=>(idx a.Nodes b.B).bind fun f=>(q4g ({A:=d,B:=f} : qu)).bind fun k=>cond (!k) (some (.inr (.inr ([],false)))) ((app 32 c.2 [({A:=d,B:=f} : qu)]).bind fun l=>some (.inl (w64 (c.1 + 1),l))))) (some (.inr (.inl c.2)))
noncomputable def qe1 (a : Qh) : Option (List qu × Bool):=
  (loop (qh5 a) (0,[]) : Option ((List qu) ⊕ (List qu × Bool))).bind fun b=>(match b with | .inl c=>some (c,true) | .inr d=>some d)
structure Kj where
  At : Int
  Spans : List qi
  deriving DecidableEq
noncomputable def q8z (b : Int × List Int) (c : List Int) (a : Int) : Option ((Int) ⊕ (Int)):=
  (cond (decide (a > 0)) ((idx b.2 (w64 (a - 1))).bind fun d=>(idx c b.1).bind fun f=>some (decide (d > f))) (some false)).bind fun g=>cond g (some (.inl (w64 (a - 1)))) (some (.inr a))
noncomputable def q8y (d : List Int) (a : Int × List Int) : Option ((Int × List Int) ⊕ (List Int)):=
  cond (decide (a.1 < (d.length : Int))) (((loop (q8z a d) (a.2.length : Int)).bind fun c=>(cond (decide (c > 0)) ((idx a.2 (w64 (c - 1))).bind fun h=>(idx d a.1).bind fun j=>some (h == j)) (some false)).bind fun k=>cond k (some a.2) ((app 8 a.2 [0]).bind fun b=>(sub2 b.length (w64 (c + 1)) b.length).bind fun g=>(sub2 b.length c b.length).bind fun f=>(idx d a.1).bind fun l=>(idx (cpyw b g ((b.drop f.1).take f.2)) c).bind fun _=>some ((cpyw b g ((b.drop f.1).take f.2)).set c.toNat l))).bind fun m=>some (.inl (w64 (a.1 + 1),m))) (some (.inr a.2))
noncomputable def qdv (a : List Int) : Option (List Int):=
  (loop (q8y a) (0,[])).bind fun b=>some b
noncomputable def q6b (b : Int × List qi) (a : Int × Int × Int × List qi) : Option ((Int × Int × Int × List qi) ⊕ (Int × Int × List qi)):=
  cond (decide (a.1 < (b.2.length : Int))) (((idx b.2 a.1).bind fun d=>(cond (decide (d.Hi < a.2.1)) (some true) ((idx b.2 a.1).bind fun f=>some (decide (a.2.2.1 < f.Lo)))).bind fun g=>cond g ((idx b.2 a.1).bind fun h=>(app 16 a.2.2.2 [h]).bind fun j=>some (a.2.1,a.2.2.1,j)) ((idx b.2 a.1).bind fun k=>(idx b.2 a.1).bind fun l=>some (min a.2.1 k.Lo,max a.2.2.1 l.Hi,a.2.2.2))).bind fun c=>some (.inl (w64 (a.1 + 1),c.1,c.2.1,c.2.2))) (some (.inr (a.2.1,a.2.2.1,a.2.2.2)))
noncomputable def q6c (b : Int × Int × List qi) (a : Int) : Option ((Int) ⊕ (Int)):=
  (cond (decide (a < (b.2.2.length : Int))) ((idx b.2.2 a).bind fun c=>some (decide (c.Lo < b.1))) (some false)).bind fun d=>cond d (some (.inl (w64 (a + 1)))) (some (.inr a))
noncomputable def q9d (c : List qi) (b : Int × List qi) : Option ((Int × List qi) ⊕ (List qi)):=
  cond (decide (b.1 < (c.length : Int))) ((idx c b.1).bind fun d=>(loop (q6b b) (0,d.Lo,d.Hi,[])).bind fun a=>(loop (q6c a) 0).bind fun f=>(sub2 a.2.2.length 0 f).bind fun g=>(app 16 [] ((a.2.2.drop g.1).take g.2)).bind fun j=>(app 16 j [({Lo:=a.1,Hi:=a.2.1} : qi)]).bind fun k=>(sub2 a.2.2.length f a.2.2.length).bind fun h=>(app 16 k ((a.2.2.drop h.1).take h.2)).bind fun l=>some (.inl (w64 (b.1 + 1),l))) (some (.inr b.2))
noncomputable def q9c (a : List qi) : Option (List qi):=
  (loop (q9d a) (0,[])).bind fun b=>some b
noncomputable def q95 (b : List qu) (c : Bool) (a : Int × List Int) : Option ((Int × List Int) ⊕ (List Int)):=
  cond (decide (a.1 < (b.length : Int))) (((idx b a.1).bind fun d=>(idx b a.1).bind fun f=>cond ((d.A.Y == f.B.Y) == c) (cond c ((idx b a.1).bind fun g=>(app 8 a.2 [g.A.Y]).bind fun h=>some h) ((idx b a.1).bind fun j=>(app 8 a.2 [j.A.X]).bind fun k=>some k)) (some a.2)).bind fun l=>some (.inl (w64 (a.1 + 1),l))) (some (.inr a.2))
noncomputable def q97 (b : List qu) (f : Bool) (c : List Int) (d : Int × List Kj) (a : Int × List qi) : Option ((Int × List qi) ⊕ (List qi)):=
  cond (decide (a.1 < (b.length : Int))) (((cond f ((idx b a.1).bind fun g=>(idx c d.1).bind fun h=>some (g.A.Y == h)) (some false)).bind fun j=>(cond j ((idx b a.1).bind fun k=>(idx c d.1).bind fun l=>some (k.B.Y == l)) (some false)).bind fun m=>cond m ((idx b a.1).bind fun n=>(idx b a.1).bind fun o=>(idx b a.1).bind fun p=>(idx b a.1).bind fun q=>(app 16 a.2 [({Lo:=min n.A.X o.B.X,Hi:=max p.A.X q.B.X} : qi)]).bind fun r=>some r) ((cond (!f) ((idx b a.1).bind fun s=>(idx c d.1).bind fun t=>some (s.A.X == t)) (some false)).bind fun u=>(cond u ((idx b a.1).bind fun v=>(idx c d.1).bind fun w=>some (v.B.X == w)) (some false)).bind fun x=>cond x ((idx b a.1).bind fun y=>(idx b a.1).bind fun z=>(idx b a.1).bind fun aa=>(idx b a.1).bind fun ab=>(app 16 a.2 [({Lo:=min y.A.Y z.B.Y,Hi:=max aa.A.Y ab.B.Y} : qi)]).bind fun ac=>some ac) (some a.2))).bind fun ad=>some (.inl (w64 (a.1 + 1),ad))) (some (.inr a.2))
noncomputable def q96 (b : List Int) (c : List qu) (d : Bool) (a : Int × List Kj) : Option ((Int × List Kj) ⊕ (List Kj)):=
  cond (decide (a.1 < (b.length : Int))) (((cond (decide (a.1 > 0)) ((idx b a.1).bind fun f=>(idx b (w64 (a.1 - 1))).bind fun g=>some (f == g)) (some false)).bind fun h=>cond h (some a.2) ((loop (q97 c d b a) (0,[])).bind fun j=>(q9c j).bind fun k=>(idx b a.1).bind fun l=>(app 32 a.2 [({At:=l,Spans:=k} : Kj)]).bind fun m=>some m)).bind fun n=>some (.inl (w64 (a.1 + 1),n))) (some (.inr a.2))
noncomputable def qe2 (a : List qu) (b : Bool) : Option (List Kj):=
  (loop (q95 a b) (0,[])).bind fun c=>(qdv c).bind fun d=>(loop (q96 d a b) (0,[])).bind fun f=>some f
noncomputable def q66 (b : List Kj) (c : Int) (d : Int) (a : Int) : Option ((Int) ⊕ ((Unit) ⊕ (Bool))):=
  (idx b c).bind fun f=>cond (decide (a < (f.Spans.length : Int))) ((idx b c).bind fun g=>(idx g.Spans a).bind fun h=>(cond (decide (h.Lo≤d)) ((idx b c).bind fun j=>(idx j.Spans a).bind fun k=>some (decide (d < k.Hi))) (some false)).bind fun l=>cond l (some (.inr (.inr true))) (some (.inl (w64 (a + 1))))) (some (.inr (.inl ())))
noncomputable def q65 (b : List Kj) (d : Int) (f : Int) (a : Int) : Option ((Int) ⊕ ((Unit) ⊕ (Bool))):=
  cond (decide (a < (b.length : Int))) (((idx b a).bind fun g=>cond (g.At != d) (some (.inl ())) ((loop (q66 b a f) 0 : Option ((Unit) ⊕ (Bool))).bind fun h=>(match h with | .inl j=>some (.inl j) | .inr c=>some (.inr c))) : Option ((Unit) ⊕ (Bool))).bind fun k=>(match k with | .inl _=>some (.inl (w64 (a + 1))) | .inr c=>some (.inr (.inr c)))) (some (.inr (.inl ())))
noncomputable def q64 (a : List Kj) (b : Int) (c : Int) : Option Bool:=
  (loop (q65 a b c) 0 : Option ((Unit) ⊕ (Bool))).bind fun d=>(match d with | .inl _=>some false | .inr f=>some f)
noncomputable def qdw (b : List Kj) (c : List Kj) (a : qa) : Option (Bool × Bool × Bool × Bool):=
  (q64 b a.Y a.X).bind fun d=>(q64 c a.X a.Y).bind fun f=>(q64 b a.Y (w64 (a.X - 1))).bind fun g=>(q64 c a.X (w64 (a.Y - 1))).bind fun h=>some (d,f,g,h)
noncomputable def q4h (b : List Kj) (c : List Kj) (d : qa) : Option Bool:=
  (qdw b c d).bind fun a=>(cond ((a.1 == true) && ((a.2.1 == false) && ((a.2.2.1 == true) && ((a.2.2.2 == false) && true)))) (some true) (some ((a.1 == false) && ((a.2.1 == true) && ((a.2.2.1 == false) && ((a.2.2.2 == true) && true)))))).bind fun f=>(cond (!f) ((cond a.1 (some true) (some a.2.1)).bind fun g=>(cond g (some true) (some a.2.2.1)).bind fun h=>(cond h (some true) (some a.2.2.2)).bind fun j=>some j) (some false)).bind fun k=>some k
noncomputable def qdy (a : qa) (b : qa) : Option Bool:=
  (cond (decide (a.X < b.X)) (some true) ((cond (a.X == b.X) (some (decide (a.Y < b.Y))) (some false)).bind fun c=>some c)).bind fun d=>some d
noncomputable def q6a (b : List qa) (c : qa) (a : Int) : Option ((Int) ⊕ (Int)):=
  (cond (decide (a < (b.length : Int))) ((idx b a).bind fun d=>(qdy d ({X:=(c).X,Y:=(c).Y} : qa)).bind fun f=>some f) (some false)).bind fun g=>cond g (some (.inl (w64 (a + 1)))) (some (.inr a))
noncomputable def q69 (c : List qa) (d : qa) : Option (List qa):=
  (loop (q6a c d) 0).bind fun b=>(cond (decide (b < (c.length : Int))) ((idx c b).bind fun g=>some ((g.X == ((d).X)) && ((g.Y == ((d).Y)) && true))) (some false)).bind fun j=>cond j (some c) ((app 16 c [({X:=0,Y:=0} : qa)]).bind fun a=>(sub2 a.length (w64 (b + 1)) a.length).bind fun h=>(sub2 a.length b a.length).bind fun f=>(idx (cpyw a h ((a.drop f.1).take f.2)) b).bind fun _=>some ((cpyw a h ((a.drop f.1).take f.2)).set b.toNat ({X:=(d).X,Y:=(d).Y} : qa)))
noncomputable def q9a (b : List Kj) (c : qi) (a : Int × List Int) : Option ((Int × List Int) ⊕ (List Int)):=
  cond (decide (a.1 < (b.length : Int))) (((idx b a.1).bind fun d=>(cond (decide (d.At > c.Lo)) ((idx b a.1).bind fun f=>some (decide (f.At < c.Hi))) (some false)).bind fun g=>cond g ((idx b a.1).bind fun h=>(app 8 a.2 [h.At]).bind fun j=>some j) (some a.2)).bind fun k=>some (.inl (w64 (a.1 + 1),k))) (some (.inr a.2))
noncomputable def q67 (b : List Int) (c : List Kj) (g : Int × List qa) (h : List Kj) (a : Int × List qa) : Option ((Int × List qa) ⊕ (List qa)):=
  (cond (decide (a.1 < (b.length : Int))) (some (decide ((a.2.length : Int)≤400))) (some false)).bind fun j=>cond j (((idx b a.1).bind fun d=>(idx c g.1).bind fun f=>(q4h c h ({X:=d,Y:=f.At} : qa)).bind fun k=>cond k ((q69 a.2 ({X:=d,Y:=f.At} : qa)).bind fun l=>some l) (some a.2)).bind fun m=>some (.inl (w64 (a.1 + 1),m))) (some (.inr a.2))
noncomputable def q99 (b : List Kj) (c : Int × List qa) (f : List Kj) (a : Int × List qa) : Option ((Int × List qa) ⊕ (List qa)):=
  (idx b c.1).bind fun g=>cond (decide (a.1 < (g.Spans.length : Int))) (((idx b c.1).bind fun h=>(idx h.Spans a.1).bind fun d=>(loop (q9a f d) (0,[d.Lo,d.Hi])).bind fun j=>(loop (q67 j b c f) (0,a.2)).bind fun k=>some k).bind fun l=>some (.inl (w64 (a.1 + 1),l))) (some (.inr a.2))
noncomputable def q98 (b : List Kj) (c : List Kj) (a : Int × List qa) : Option ((Int × List qa) ⊕ (List qa)):=
  cond (decide (a.1 < (b.length : Int))) (((loop (q99 b a c) (0,a.2)).bind fun d=>some d).bind fun f=>some (.inl (w64 (a.1 + 1),f))) (some (.inr a.2))
noncomputable def q68 (b : List Kj) (c : Int × List qa) (f : List Kj) (a : Int × List qa) : Option ((Int × List qa) ⊕ (List qa)):=
  (idx b c.1).bind fun k=>(cond (decide (a.1 < (k.Spans.length : Int))) (some (decide ((a.2.length : Int)≤400))) (some false)).bind fun l=>cond l (((idx b c.1).bind fun m=>(idx m.Spans a.1).bind fun d=>(idx b c.1).bind fun g=>(idx b c.1).bind fun h=>(q4h f b ({X:=g.At,Y:=d.Lo} : qa)).bind fun n=>(cond n ((q69 a.2 ({X:=g.At,Y:=d.Lo} : qa)).bind fun o=>some o) (some a.2)).bind fun j=>(q4h f b ({X:=h.At,Y:=d.Hi} : qa)).bind fun p=>cond p ((q69 j ({X:=h.At,Y:=d.Hi} : qa)).bind fun q=>some q) (some j)).bind fun r=>some (.inl (w64 (a.1 + 1),r))) (some (.inr a.2))
noncomputable def q9b (b : List Kj) (c : List Kj) (a : Int × List qa) : Option ((Int × List qa) ⊕ (List qa)):=
  cond (decide (a.1 < (b.length : Int))) (((loop (q68 b a c) (0,a.2)).bind fun d=>some d).bind fun f=>some (.inl (w64 (a.1 + 1),f))) (some (.inr a.2))
noncomputable def qh6 (a : List Kj) (b : List Kj) : Option (List qa):=
  (loop (q98 a b) (0,[])).bind fun c=>(loop (q9b b a) (0,c)).bind fun d=>some d
noncomputable def q93 (b : List qa) (c : qa) (a : Int × Int × Int) : Option ((Int × Int × Int) ⊕ (Int × Int)):=
  cond (decide (a.2.2 < (b.length : Int))) (((idx b a.2.2).bind fun d=>(cond (d.X == c.X) (some (decide (a.1 < 0))) (some false)).bind fun h=>(cond h (some a.2.2) (some a.1)).bind fun f=>(cond (d.Y == c.Y) (some (decide (a.2.1 < 0))) (some false)).bind fun j=>cond j (some (f,a.2.2)) (some (f,a.2.1))).bind fun g=>some (.inl (g.1,g.2,w64 (a.2.2 + 1)))) (some (.inr (a.1,a.2.1)))
noncomputable def q92 (c : List qa) (h : List Kj) (j : List Kj) (a : Int × List qj) : Option ((Int × List qj) ⊕ (List qj)):=
  cond (decide (a.1 < (c.length : Int))) (((idx c a.1).bind fun d=>(qdw h j d).bind fun f=>(loop (q93 c d) ((-1),(-1),w64 (a.1 + 1))).bind fun b=>(cond f.2.1 (some (decide (b.1 ≥ 0))) (some false)).bind fun k=>(cond k ((app 16 a.2 [({A:=a.1,B:=b.1} : qj)]).bind fun l=>some l) (some a.2)).bind fun g=>(cond f.1 (some (decide (b.2 ≥ 0))) (some false)).bind fun m=>cond m ((app 16 g [({A:=a.1,B:=b.2} : qj)]).bind fun n=>some n) (some g)).bind fun o=>some (.inl (w64 (a.1 + 1),o))) (some (.inr a.2))
noncomputable def q61 (b : List qu) : Option (Qh × Bool):=
  (qe2 b true).bind fun c=>(qe2 b false).bind fun d=>(qh6 c d).bind fun a=>cond (decide ((a.length : Int) > 400)) (some (({Nodes:=[],Edges:=[]} : Qh),false)) ((loop (q92 a c d) (0,[])).bind fun f=>some (({Nodes:=a,Edges:=f} : Qh),decide ((f.length : Int)≤800)))
noncomputable def q62 (b : Qh) (f : Qh) (a : Int) : Option ((Int) ⊕ ((Unit) ⊕ (Bool))):=
  cond (decide (a < (b.Nodes.length : Int))) ((idx b.Nodes a).bind fun c=>(idx f.Nodes a).bind fun d=>cond (!((c.X == d.X) && ((c.Y == d.Y) && true))) (some (.inr (.inr false))) (some (.inl (w64 (a + 1))))) (some (.inr (.inl ())))
noncomputable def q63 (b : Qh) (f : Qh) (a : Int) : Option ((Int) ⊕ ((Unit) ⊕ (Bool))):=
  cond (decide (a < (b.Edges.length : Int))) ((idx b.Edges a).bind fun c=>(idx f.Edges a).bind fun d=>cond (!((c.A == d.A) && ((c.B == d.B) && true))) (some (.inr (.inr false))) (some (.inl (w64 (a + 1))))) (some (.inr (.inl ())))
noncomputable def q3b (a : Qh) (b : Qh) : Option Bool:=
  (cond ((a.Nodes.length : Int) != (b.Nodes.length : Int)) (some true) (some ((a.Edges.length : Int) != (b.Edges.length : Int)))).bind fun d=>cond d (some false) ((loop (q62 a b) 0 : Option ((Unit) ⊕ (Bool))).bind fun f=>(match f with | .inl _=>(loop (q63 a b) 0 : Option ((Unit) ⊕ (Bool))).bind fun g=>(match g with | .inl _=>some true | .inr c=>some c) | .inr c=>some c))
noncomputable def q3a (a : Qh) : Option Int:=
  (cond (decide ((a.Nodes.length : Int) > 400)) (some true) (some (decide ((a.Edges.length : Int) > 800)))).bind fun d=>cond d (some 4) ((qe1 a).bind fun b=>cond (!b.2) (some 8) ((q61 b.1).bind fun c=>(cond (!c.2) (some true) ((q3b c.1 a).bind fun f=>some (!f))).bind fun g=>cond g (some 8) (some 0)))
noncomputable def q94 (a : Qh) : Option (List qu × Int):=
  (q3a a).bind fun b=>cond (b != 0) ((q3a a).bind fun c=>some ([],c)) ((qe1 a).bind fun d=>some (d.1,0))
noncomputable def q6l (b : List qu) (c : qu→Option Bool) (a : Int) : Option ((Int) ⊕ ((Unit) ⊕ (Int))):=
  cond (decide (a < (b.length : Int))) ((idx b a).bind fun d=>(c d).bind fun f=>cond f (some (.inr (.inr a))) (some (.inl (w64 (a + 1))))) (some (.inr (.inl ())))
noncomputable def qor (a : List qu) (b : qu→Option Bool) : Option Int:=
  (loop (q6l a b) 0 : Option ((Unit) ⊕ (Int))).bind fun c=>(match c with | .inl _=>some (-1) | .inr d=>some d)
noncomputable def qe8 (a : List qu) (b : qu→Option Bool) : Option Bool:=
  (qor a b).bind fun c=>some (decide (c ≥ 0))
noncomputable def qei (a : qu) (b : qa) : Option Bool:=
  (cond (decide ((min a.A.X a.B.X)≤b.X)) (some (decide (b.X≤(max a.A.X a.B.X)))) (some false)).bind fun c=>(cond c (some (decide ((min a.A.Y a.B.Y)≤b.Y))) (some false)).bind fun d=>(cond d (some (decide (b.Y≤(max a.A.Y a.B.Y)))) (some false)).bind fun f=>some f
noncomputable def qp7 (a : qu) (b : qa) : Option Bool:=
  (qei a b).bind fun c=>some c
noncomputable def qp6 (b : Qh) (c : qa) : Option (Bool × Int):=
  (q2m b).bind fun a=>cond (a.2 != 0) (some (false,a.2)) ((qe8 a.1 (fun d=>qp7 d c)).bind fun f=>some (f,0))
noncomputable def qnu (a : qu) (b : qa) : Option Bool:=
  (cond (decide (b.X ≥ (min a.A.X a.B.X))) (some (decide (b.X≤(max a.A.X a.B.X)))) (some false)).bind fun c=>(cond c (some (decide (b.Y ≥ (min a.A.Y a.B.Y)))) (some false)).bind fun d=>(cond d (some (decide (b.Y≤(max a.A.Y a.B.Y)))) (some false)).bind fun f=>some f
noncomputable def q4e (b : List qu × Int) (c : qa) (a : Int) : Option ((Int) ⊕ ((Unit) ⊕ (Bool × Int))):=
  cond (decide (a < (b.1.length : Int))) ((idx b.1 a).bind fun d=>(qnu d c).bind fun f=>cond f (some (.inr (.inr (true,0)))) (some (.inl (w64 (a + 1))))) (some (.inr (.inl ())))
noncomputable def qns (b : Qh) (c : qa) : Option (Bool × Int):=
  (q94 b).bind fun a=>cond (a.2 != 0) (some (false,a.2)) ((loop (q4e a c) 0 : Option ((Unit) ⊕ (Bool × Int))).bind fun d=>(match d with | .inl _=>some (false,0) | .inr f=>some f))
noncomputable def q3f (b : (Bool × Bool × Bool × Bool)) (a : Int × Int) : Option ((Int × Int) ⊕ (Int)):=
  cond (decide (a.2 < 4)) (((idxA 4 [b.1,b.2.1,b.2.2.1,b.2.2.2] a.2).bind fun c=>cond c (some (w64 (a.1 + 1))) (some a.1)).bind fun d=>some (.inl (d,w64 (a.2 + 1)))) (some (.inr a.1))
noncomputable def q1u (a : Qh) (b : Int) : Option (Int × Int):=
  (q2m a).bind fun c=>cond (c.2 != 0) (some (0,c.2)) ((cond (decide (b < 0)) (some true) (some (decide (b ≥ (a.Nodes.length : Int))))).bind fun d=>cond d (some (0,6)) ((q7d c.1).bind fun f=>(idx a.Nodes b).bind fun g=>(q4x f g).bind fun h=>(loop (q3f h) (0,0)).bind fun j=>some (j,0)))
noncomputable def q90 (b : Qh) (c : Int) (a : Int × Int) : Option ((Int × Int) ⊕ (Int)):=
  cond (decide (a.2 < (b.Edges.length : Int))) (((idx b.Edges a.2).bind fun d=>(cond (d.A == c) (some true) ((idx b.Edges a.2).bind fun f=>some (f.B == c))).bind fun g=>cond g (some (w64 (a.1 + 1))) (some a.1)).bind fun h=>some (.inl (h,w64 (a.2 + 1)))) (some (.inr a.1))
noncomputable def qnr (a : Qh) (b : Int) : Option (Int × Int):=
  (q3a a).bind fun c=>cond (c != 0) ((q3a a).bind fun d=>some (0,d)) ((cond (decide (b < 0)) (some true) (some (decide (b ≥ (a.Nodes.length : Int))))).bind fun f=>cond f (some (0,6)) ((loop (q90 a b) (0,0)).bind fun g=>some (g,0)))
noncomputable def q1v (c : List qu × Int) (b : Int × Int) : Option ((Int × Int) ⊕ (Int)):=
  cond (decide (b.2 < (c.1.length : Int))) ((idx c.1 b.2).bind fun a=>some (.inl (w64 (b.1 + (w64 ((w64 ((w64 ((max a.A.X a.B.X) - (min a.A.X a.B.X))) + (max a.A.Y a.B.Y))) - (min a.A.Y a.B.Y)))),w64 (b.2 + 1)))) (some (.inr b.1))
noncomputable def q4u (b : Qh) : Option (Int × Int):=
  (q2m b).bind fun a=>cond (a.2 != 0) (some (0,a.2)) ((loop (q1v a) (0,0)).bind fun c=>some (c,0))
noncomputable def q4f (a : qu) : Option Int:=
  some (w64 ((max (w64 (a.A.X - a.B.X)) (w64 (a.B.X - a.A.X))) + (max (w64 (a.A.Y - a.B.Y)) (w64 (a.B.Y - a.A.Y)))))
noncomputable def qdx (b : List qu × Int) (a : Int × Int) : Option ((Int × Int) ⊕ (Int)):=
  cond (decide (a.2 < (b.1.length : Int))) ((idx b.1 a.2).bind fun c=>(q4f c).bind fun d=>some (.inl (w64 (a.1 + d),w64 (a.2 + 1)))) (some (.inr a.1))
noncomputable def qnt (b : Qh) : Option (Int × Int):=
  (q94 b).bind fun a=>cond (a.2 != 0) (some (0,a.2)) ((loop (qdx a) (0,0)).bind fun c=>some (c,0))
structure Zm where
  At : qa
  Kind : Int
  Weight : Int
  Reach : Int
  deriving DecidableEq
def Ye (x : Zm) : List DV:=[.int .i64 x.At.X,.int .i64 x.At.Y,.int .u8 x.Kind,.int .i64 x.Weight,.int .i64 x.Reach]
structure Yw where
  At : qa
  Head : Int
  Steps : Int
  deriving DecidableEq
def q2w (x : Yw) : List DV:=[.int .i64 x.At.X,.int .i64 x.At.Y,.int .u8 x.Head,.int .i64 x.Steps]
noncomputable def q40 (a : qa) : Option Bool:=
  (cond (decide ((max (max (max a.X (w64 (0 - a.X))) a.Y) (w64 (0 - a.Y)))≤1000000)) (some (decide ((min a.X a.Y) ≥ (-1000000)))) (some false)).bind fun b=>some b
noncomputable def qcy (c : List Zm) (b : Int) : Option ((Int) ⊕ ((Unit) ⊕ (Int))):=
  cond (decide (b < (c.length : Int))) ((idx c b).bind fun a=>(cond (decide (a.Kind < 1)) (some true) (some (decide (a.Kind > 4)))).bind fun d=>(cond d (some true) ((q40 a.At).bind fun f=>some (!f))).bind fun g=>(cond g (some true) (some (decide (a.Weight < 1)))).bind fun h=>(cond h (some true) (some (decide (a.Weight > 1000000)))).bind fun j=>(cond j (some true) (some (decide (a.Reach < 0)))).bind fun k=>(cond k (some true) (some (decide (a.Reach > 1000000)))).bind fun l=>cond l (some (.inr (.inr 8))) (some (.inl (w64 (b + 1))))) (some (.inr (.inl ())))
noncomputable def q5a (a : List Zm) : Option Int:=
  cond (decide ((a.length : Int) > 60)) (some 4) ((loop (qcy a) 0 : Option ((Unit) ⊕ (Int))).bind fun b=>(match b with | .inl _=>some 0 | .inr c=>some c))
noncomputable def qd0 (d : List Zm) (b : qa) (c : Int × Int) : Option ((Int × Int) ⊕ (Int)):=
  cond (decide (c.1 < (d.length : Int))) (((idx d c.1).bind fun a=>cond (decide ((max (max (w64 (b.X - a.At.X)) (w64 (0 - (w64 (b.X - a.At.X))))) (max (w64 (b.Y - a.At.Y)) (w64 (0 - (w64 (b.Y - a.At.Y)))))) > a.Reach)) (some c.2) ((cond (a.Kind == 1) (some 1) (cond (a.Kind == 2) (some (-1)) ((cond ((a.Kind == 3) == (decide ((max (w64 (b.Y - a.At.Y)) (w64 (0 - (w64 (b.Y - a.At.Y))))) > (max (w64 (b.X - a.At.X)) (w64 (0 - (w64 (b.X - a.At.X)))))))) (some ((max (w64 (b.X - a.At.X)) (w64 (0 - (w64 (b.X - a.At.X))))) != (max (w64 (b.Y - a.At.Y)) (w64 (0 - (w64 (b.Y - a.At.Y))))))) (some false)).bind fun f=>cond f (some 1) (cond ((max (w64 (b.X - a.At.X)) (w64 (0 - (w64 (b.X - a.At.X))))) != (max (w64 (b.Y - a.At.Y)) (w64 (0 - (w64 (b.Y - a.At.Y)))))) (some (-1)) (some 0))))).bind fun g=>(some ()).bind fun _=>some (w64 (c.2 + (w64 ((w64 (g * a.Weight)) * (w64 ((w64 (a.Reach + 1)) - (max (max (w64 (b.X - a.At.X)) (w64 (0 - (w64 (b.X - a.At.X))))) (max (w64 (b.Y - a.At.Y)) (w64 (0 - (w64 (b.Y - a.At.Y)))))))))))))).bind fun h=>some (.inl (w64 (c.1 + 1),h))) (some (.inr c.2))
noncomputable def qcz (a : List Zm) (b : qa) : Option Int:=
  (some ()).bind fun _=>((loop (qd0 a b) (0,0)).bind fun c=>some c).bind fun d=>some d
noncomputable def q81 (b : List Zm) (c : qa) : Option Int:=
  (qcz b c).bind fun a=>cond (decide (a > 0)) (some 0) (cond (decide (a < 0)) (some 1) (some 2))
noncomputable def q5b (g : Int) (h : List Zm) (a : Int × Int × Int × Int × List qa) : Option ((Int × Int × Int × Int × List qa) ⊕ ((List qa) ⊕ (List qa × Int))):=
  cond (decide (a.2.1 < g)) ((q81 h ({X:=a.2.2.1,Y:=a.2.2.2.1} : qa)).bind fun f=>(cond (decide (f < 2)) (some ((Int.tmod a.1 2) != f)) (some false)).bind fun j=>(cond j (some (Int.tmod (IntKind.wrap .u8 (a.1 + 1)) 4)) (some a.1)).bind fun b=>(idxA 4 [({X:=1,Y:=0} : qa),({X:=0,Y:=1} : qa),({X:=(-1),Y:=0} : qa),({X:=0,Y:=(-1)} : qa)] b).bind fun c=>(idxA 4 [({X:=1,Y:=0} : qa),({X:=0,Y:=1} : qa),({X:=(-1),Y:=0} : qa),({X:=0,Y:=(-1)} : qa)] b).bind fun d=>(q40 ({X:=w64 (a.2.2.1 + c.X),Y:=w64 (a.2.2.2.1 + d.Y)} : qa)).bind fun k=>cond (!k) (some (.inr (.inr ([],16)))) ((app 16 a.2.2.2.2 [({X:=w64 (a.2.2.1 + c.X),Y:=w64 (a.2.2.2.1 + d.Y)} : qa)]).bind fun l=>some (.inl (b,w64 (a.2.1 + 1),w64 (a.2.2.1 + c.X),w64 (a.2.2.2.1 + d.Y),l)))) (some (.inr (.inl a.2.2.2.2)))
noncomputable def q3z (c : List Zm) (a : qa) (d : Int) (b : Int) : Option (List qa × Int):=
  (q5a c).bind fun f=>cond (f != 0) (some ([],f)) ((q40 a).bind fun g=>(cond (!g) (some true) (some (decide (d > 3)))).bind fun h=>(cond h (some true) (some (decide (b < 0)))).bind fun j=>(cond j (some true) (some (decide (b > 500)))).bind fun k=>cond k (some ([],2)) ((loop (q5b b c) (d,0,a.X,a.Y,[a]) : Option ((List qa) ⊕ (List qa × Int))).bind fun l=>(match l with | .inl m=>some (m,0) | .inr n=>some n)))
noncomputable def q2i (b : List qa) (c : qa) (a : Int) : Option ((Int) ⊕ ((Unit) ⊕ (Int))):=
  cond (decide (a < (b.length : Int))) ((idx b a).bind fun d=>cond ((c.X == d.X) && ((c.Y == d.Y) && true)) (some (.inr (.inr a))) (some (.inl (w64 (a + 1))))) (some (.inr (.inl ())))
noncomputable def q9l (a : List qa) (b : qa) : Option Int:=
  (loop (q2i a b) 0 : Option ((Unit) ⊕ (Int))).bind fun c=>(match c with | .inl _=>some (-1) | .inr d=>some d)
noncomputable def Zz (c : Yw) (j : List Zm) (a : Int × Int × (List (qa × Bool)) × List qu × Int × Int) : Option ((Int × Int × (List (qa × Bool)) × List qu × Int × Int) ⊕ (((List (qa × Bool)) × List qu) ⊕ (Int × (List (qa × Bool)) × List qu))):=
  cond (decide (a.2.1 < ((c).Steps))) ((q3z j ({X:=a.2.2.2.2.1,Y:=a.2.2.2.2.2} : qa) a.1 1).bind fun d=>cond (d.2 != 0) (some (.inr (.inr (d.2,a.2.2.1,[])))) ((idx d.1 1).bind fun b=>(q9l [({X:=1,Y:=0} : qa),({X:=0,Y:=1} : qa),({X:=(-1),Y:=0} : qa),({X:=0,Y:=(-1)} : qa)] ({X:=w64 (b.X - a.2.2.2.2.1),Y:=w64 (b.Y - a.2.2.2.2.2)} : qa)).bind fun f=>(cond (decide (a.2.1 > 0)) (some ((IntKind.wrap .u8 f) == a.1)) (some false)).bind fun k=>(cond k ((idx a.2.2.2.1 (w64 ((a.2.2.2.1.length : Int) - 1))).bind fun l=>some (.inl (a.2.2.2.1.set (w64 ((a.2.2.2.1.length : Int) - 1)).toNat ({A:=l.A,B:=b} : qu)))) ((app 32 a.2.2.2.1 [({A:=({X:=a.2.2.2.2.1,Y:=a.2.2.2.2.2} : qa),B:=b} : qu)]).bind fun g=>cond (decide ((g.length : Int) > 400)) (some (.inr (4,a.2.2.1,[]))) (some (.inl g))) : Option ((List qu) ⊕ (Int × (List (qa × Bool)) × List qu))).bind fun m=>(match m with | .inl h=>(cond (K5 false b a.2.2.1) (some true) (some ((b.X == (((c).At).X)) && ((b.Y == (((c).At).Y)) && true)))).bind fun n=>cond n (some (.inr (.inl (Ka b true (Ka ({X:=a.2.2.2.2.1,Y:=a.2.2.2.2.2} : qa) true a.2.2.1),h)))) (some (.inl (IntKind.wrap .u8 f,w64 (a.2.1 + 1),Ka b true (Ka ({X:=a.2.2.2.2.1,Y:=a.2.2.2.2.2} : qa) true a.2.2.1),h,b.X,b.Y))) | .inr o=>some (.inr (.inr o))))) (some (.inr (.inl (a.2.2.1,a.2.2.2.1))))
noncomputable def q4z (c : List Zm) (a : Yw) (d : List qu) (f : List (qa × Bool)) : Option (Int × (List (qa × Bool)) × List qu):=
  (loop (Zz a c) ((a).Head,0,f,d,((a).At).X,((a).At).Y) : Option (((List (qa × Bool)) × List qu) ⊕ (Int × (List (qa × Bool)) × List qu))).bind fun g=>(match g with | .inl b=>some (0,b.1,b.2) | .inr h=>some h)
noncomputable def q7c (b : List qu) (a : Int) : Option ((Int) ⊕ ((Unit) ⊕ (Qh × Int))):=
  cond (decide (a < (b.length : Int))) ((idx b a).bind fun c=>(q7f c).bind fun d=>cond (!d) (some (.inr (.inr (({Nodes:=[],Edges:=[]} : Qh),8)))) (some (.inl (w64 (a + 1))))) (some (.inr (.inl ())))
noncomputable def Uw (a : List qu) : Option (Qh × Int):=
  cond (decide ((a.length : Int) > 400)) (some (({Nodes:=[],Edges:=[]} : Qh),4)) ((loop (q7c a) 0 : Option ((Unit) ⊕ (Qh × Int))).bind fun c=>(match c with | .inl _=>(q3h a).bind fun b=>cond (!b.2) (some (({Nodes:=[],Edges:=[]} : Qh),4)) (some (b.1,0)) | .inr d=>some d))
noncomputable def q7b (c : List Yw) (b : Int) : Option ((Int) ⊕ ((Unit) ⊕ (Qh × Int))):=
  cond (decide (b < (c.length : Int))) ((idx c b).bind fun a=>(q4w a.At).bind fun d=>(cond (!d) (some true) (some (decide (a.Head > 3)))).bind fun f=>(cond f (some true) (some (decide (a.Steps < 0)))).bind fun g=>(cond g (some true) (some (decide (a.Steps > 500)))).bind fun h=>cond h (some (.inr (.inr (({Nodes:=[],Edges:=[]} : Qh),8)))) (some (.inl (w64 (b + 1))))) (some (.inr (.inl ())))
noncomputable def q3g (c : List Yw) (d : List Zm) (a : Int × List qu × (List (qa × Bool))) : Option ((Int × List qu × (List (qa × Bool))) ⊕ ((List qu) ⊕ (Qh × Int))):=
  cond (decide (a.1 < (c.length : Int))) ((idx c a.1).bind fun f=>(q4z d f a.2.1 a.2.2).bind fun b=>cond (b.1 != 0) (some (.inr (.inr (({Nodes:=[],Edges:=[]} : Qh),b.1)))) (some (.inl (w64 (a.1 + 1),b.2.2,b.2.1)))) (some (.inr (.inl a.2.1)))
noncomputable def qby (c : List Zm) (a : List Yw) : Option (Qh × Int):=
  (q5a c).bind fun d=>cond (d != 0) (some (({Nodes:=[],Edges:=[]} : Qh),d)) (cond (decide ((a.length : Int) > 30)) (some (({Nodes:=[],Edges:=[]} : Qh),4)) ((loop (q7b a) 0 : Option ((Unit) ⊕ (Qh × Int))).bind fun g=>(match g with | .inl _=>(loop (q3g a c) (0,[],[]) : Option ((List qu) ⊕ (Qh × Int))).bind fun h=>(match h with | .inl j=>(Uw j).bind fun f=>some (f.1,f.2) | .inr b=>some b) | .inr b=>some b)))
noncomputable def qe0 (b : List qu) (a : Int) : Option ((Int) ⊕ ((Unit) ⊕ (Qh × Int))):=
  cond (decide (a < (b.length : Int))) ((idx b a).bind fun c=>(q4g c).bind fun d=>cond (!d) (some (.inr (.inr (({Nodes:=[],Edges:=[]} : Qh),8)))) (some (.inl (w64 (a + 1))))) (some (.inr (.inl ())))
noncomputable def qdz (a : List qu) : Option (Qh × Int):=
  cond (decide ((a.length : Int) > 400)) (some (({Nodes:=[],Edges:=[]} : Qh),4)) ((loop (qe0 a) 0 : Option ((Unit) ⊕ (Qh × Int))).bind fun c=>(match c with | .inl _=>(q61 a).bind fun b=>cond (!b.2) (some (({Nodes:=[],Edges:=[]} : Qh),4)) (some (b.1,0)) | .inr d=>some d))
noncomputable def q33 (b : List qu) (a : Int) : Option ((Int) ⊕ ((Unit) ⊕ (Bool))):=
  cond (decide (a < (b.length : Int))) ((idx b a).bind fun c=>(q4g c).bind fun d=>cond (!d) (some (.inr (.inr false))) (some (.inl (w64 (a + 1))))) (some (.inr (.inl ())))
noncomputable def q8a (a : List qu) : Option Bool:=
  (loop (q33 a) 0 : Option ((Unit) ⊕ (Bool))).bind fun b=>(match b with | .inl _=>some (decide ((a.length : Int)≤24)) | .inr c=>some c)
noncomputable def Y8 (a : Int) (b : Int) : Option qa:=
  some ({X:=a,Y:=b} : qa)
noncomputable def q1l (a : Int) (b : Int) (c : Int) (d : Int) : Option qu:=
  (Y8 a b).bind fun f=>(Y8 c d).bind fun g=>some ({A:=f,B:=g} : qu)
noncomputable def q60 (b : List qa) (c : qa) (a : Int) : Option ((Int) ⊕ ((Unit) ⊕ (Int))):=
  cond (decide (a < (b.length : Int))) ((idx b a).bind fun d=>cond ((d.X == c.X) && ((d.Y == c.Y) && true)) (some (.inr (.inr a))) (some (.inl (w64 (a + 1))))) (some (.inr (.inl ())))
noncomputable def q91 (a : List qa) (b : qa) : Option Int:=
  (loop (q60 a b) 0 : Option ((Unit) ⊕ (Int))).bind fun c=>(match c with | .inl _=>some (-1) | .inr d=>some d)
noncomputable def q5j (a : Qh) (c : List qu) : Option Bool:=
  (Uw c).bind fun b=>(cond (b.2 == 0) ((q3b b.1 a).bind fun d=>some d) (some false)).bind fun f=>(cond f ((Uv a).bind fun g=>some (g == 0)) (some false)).bind fun h=>some h
noncomputable def q5i : Option Bool:=
  ((Y8 0 0).bind fun g=>(Y8 2 0).bind fun h=>(Y8 2 3).bind fun j=>(Y8 4 0).bind fun k=>some [g,h,j,k]).bind fun l=>(q1u ({Nodes:=l,Edges:=[({A:=0,B:=1} : qj),({A:=1,B:=2} : qj),({A:=1,B:=3} : qj)]} : Qh) 1).bind fun b=>((Y8 0 0).bind fun m=>(Y8 2 0).bind fun n=>(Y8 2 3).bind fun o=>(Y8 4 0).bind fun p=>some [m,n,o,p]).bind fun q=>(q4u ({Nodes:=q,Edges:=[({A:=0,B:=1} : qj),({A:=1,B:=2} : qj),({A:=1,B:=3} : qj)]} : Qh)).bind fun c=>(q1l 0 0 4 0).bind fun r=>(q1l 2 3 2 0).bind fun s=>(q1l 2 (-1) 2 0).bind fun t=>(Uw [r,s,t]).bind fun a=>(Y8 2 0).bind fun u=>(q91 a.1.Nodes u).bind fun v=>(q1u a.1 v).bind fun d=>(Y8 0 0).bind fun w=>(Y8 4 0).bind fun x=>(Y8 2 2).bind fun y=>(qby [] [({At:=({X:=0,Y:=0} : qa),Head:=0,Steps:=4} : Yw),({At:=y,Head:=3,Steps:=9} : Yw)]).bind fun f=>(Y8 0 0).bind fun z=>(Y8 2 0).bind fun aa=>(Y8 2 2).bind fun ab=>(Y8 4 0).bind fun ac=>((Y8 0 0).bind fun ad=>(Y8 2 0).bind fun ae=>(Y8 2 3).bind fun af=>(Y8 4 0).bind fun ag=>some [ad,ae,af,ag]).bind fun _=>((Y8 0 0).bind fun ah=>(Y8 2 0).bind fun ai=>(Y8 2 3).bind fun aj=>(Y8 4 0).bind fun ak=>some [ah,ai,aj,ak]).bind fun al=>(q1l 0 0 4 0).bind fun am=>(q1l 2 0 2 3).bind fun an=>(q5j ({Nodes:=al,Edges:=[({A:=0,B:=1} : qj),({A:=1,B:=2} : qj),({A:=1,B:=3} : qj)]} : Qh) [am,an]).bind fun ao=>(cond ao (some (b.2 == 0)) (some false)).bind fun ap=>(cond ap (some (b.1 == 3)) (some false)).bind fun aq=>(cond aq (some (c.2 == 0)) (some false)).bind fun ar=>(cond ar (some (c.1 == 7)) (some false)).bind fun au=>(cond au (some (a.2 == 0)) (some false)).bind fun av=>(cond av (some (d.2 == 0)) (some false)).bind fun aw=>(cond aw (some (d.1 == 4)) (some false)).bind fun ax=>cond ax ((q1l 0 0 2 0).bind fun ay=>(q1l 2 0 4 0).bind fun az=>(q5j ({Nodes:=[w,x],Edges:=[({A:=0,B:=1} : qj)]} : Qh) [ay,az]).bind fun ba=>(cond ba (some (f.2 == 0)) (some false)).bind fun bb=>(cond bb ((q3b f.1 ({Nodes:=[z,aa,ab,ac],Edges:=[({A:=0,B:=1} : qj),({A:=1,B:=2} : qj),({A:=1,B:=3} : qj)]} : Qh)).bind fun bc=>some bc) (some false)).bind fun bd=>some bd) (some false)
noncomputable def q89 (a : qu) (b : qu) : Option Bool:=
  (cond (decide ((max (min a.A.X a.B.X) (min b.A.X b.B.X)) > (min (max a.A.X a.B.X) (max b.A.X b.B.X)))) (some true) (some (decide ((max (min a.A.Y a.B.Y) (min b.A.Y b.B.Y)) > (min (max a.A.Y a.B.Y) (max b.A.Y b.B.Y)))))).bind fun d=>cond d (some true) ((Y8 (max (min a.A.X a.B.X) (min b.A.X b.B.X)) (max (min a.A.Y a.B.Y) (min b.A.Y b.B.Y))).bind fun c=>(cond ((max (min a.A.X a.B.X) (min b.A.X b.B.X)) == (min (max a.A.X a.B.X) (max b.A.X b.B.X))) (some ((max (min a.A.Y a.B.Y) (min b.A.Y b.B.Y)) == (min (max a.A.Y a.B.Y) (max b.A.Y b.B.Y)))) (some false)).bind fun f=>(cond f ((cond ((c.X == a.A.X) && ((c.Y == a.A.Y) && true)) (some true) (some ((c.X == a.B.X) && ((c.Y == a.B.Y) && true)))).bind fun g=>some g) (some false)).bind fun h=>(cond h ((cond ((c.X == b.A.X) && ((c.Y == b.A.Y) && true)) (some true) (some ((c.X == b.B.X) && ((c.Y == b.B.Y) && true)))).bind fun j=>some j) (some false)).bind fun k=>some k)
noncomputable def q47 (a : Int × Int) (c : List qu × Int) (d : Int) (b : Int) : Option ((Int) ⊕ ((Int) ⊕ (Bool))):=
  cond (decide (b < a.2)) ((idx c.1 a.2).bind fun f=>(idx c.1 b).bind fun g=>(q89 f g).bind fun h=>cond (!h) (some (.inr (.inr false))) (some (.inl (w64 (b + 1))))) (some (.inr (.inl (w64 (a.1 + d)))))
noncomputable def q46 (b : List qu × Int) (a : Int × Int) : Option ((Int × Int) ⊕ ((Int) ⊕ (Bool))):=
  cond (decide (a.2 < (b.1.length : Int))) (((idx b.1 a.2).bind fun d=>(q4f d).bind fun f=>(loop (q47 a b f) 0 : Option ((Int) ⊕ (Bool))).bind fun g=>(match g with | .inl h=>some (.inl h) | .inr c=>some (.inr c)) : Option ((Int) ⊕ (Bool))).bind fun j=>(match j with | .inl k=>some (.inl (k,w64 (a.2 + 1))) | .inr c=>some (.inr (.inr c)))) (some (.inr (.inl a.1)))
noncomputable def q48 (c : Qh × Int) (a : Int × Int) : Option ((Int × Int) ⊕ ((Int) ⊕ (Bool))):=
  cond (decide (a.2 < (c.1.Nodes.length : Int))) ((q1u c.1 a.2).bind fun b=>(cond (b.2 != 0) (some true) (some (decide (b.1 < 1)))).bind fun d=>(cond d (some true) (some (decide (b.1 > 4)))).bind fun f=>cond f (some (.inr (.inr false))) (some (.inl (w64 (a.1 + b.1),w64 (a.2 + 1))))) (some (.inr (.inl a.1)))
noncomputable def qd9 (c : List qu) : Option Bool:=
  (q8a c).bind fun g=>cond (!g) (q5i.bind fun h=>some h) ((Uw c).bind fun a=>(q2m a.1).bind fun d=>(q4u a.1).bind fun f=>(cond (a.2 != 0) (some true) (some (d.2 != 0))).bind fun j=>(cond j (some true) (some (f.2 != 0))).bind fun k=>cond k (some false) ((loop (q46 d) (0,0) : Option ((Int) ⊕ (Bool))).bind fun l=>(match l with | .inl m=>(loop (q48 a) (0,0) : Option ((Int) ⊕ (Bool))).bind fun n=>(match n with | .inl o=>(cond (m == f.1) (some (o == (w64 (2 * (a.1.Edges.length : Int))))) (some false)).bind fun p=>(cond p (q5i.bind fun q=>some q) (some false)).bind fun r=>some r | .inr b=>some b) | .inr b=>some b)))
noncomputable def q4q (b : List qi) (a : Int) : Option ((Int) ⊕ ((Unit) ⊕ (Int))):=
  cond (decide (a < (b.length : Int))) ((idx b a).bind fun c=>(q3e c).bind fun d=>(cond (!d) (some true) ((cond (decide (a > 0)) ((idx b (w64 (a - 1))).bind fun f=>some (decide (f.Hi ≥ c.Lo))) (some false)).bind fun g=>some g)).bind fun h=>cond h (some (.inr (.inr 8))) (some (.inl (w64 (a + 1))))) (some (.inr (.inl ())))
noncomputable def qec (a : List qi) : Option Int:=
  cond (decide ((a.length : Int) > 400)) (some 4) ((loop (q4q a) 0 : Option ((Unit) ⊕ (Int))).bind fun b=>(match b with | .inl _=>some 0 | .inr c=>some c))
noncomputable def qnp (a : qi) : Option Bool:=
  (cond (decide (a.Lo < a.Hi)) (some (decide (a.Lo ≥ (-1000000)))) (some false)).bind fun b=>(cond b (some (decide (a.Hi≤1000000))) (some false)).bind fun c=>some c
noncomputable def qh2 (b : List qi) (a : Int) : Option ((Int) ⊕ ((Unit) ⊕ (Int))):=
  cond (decide (a < (b.length : Int))) ((idx b a).bind fun c=>(qnp c).bind fun d=>(cond (!d) (some true) ((cond (decide (a > 0)) ((idx b (w64 (a - 1))).bind fun f=>(idx b a).bind fun g=>some (decide (f.Hi ≥ g.Lo))) (some false)).bind fun h=>some h)).bind fun j=>cond j (some (.inr (.inr 8))) (some (.inl (w64 (a + 1))))) (some (.inr (.inl ())))
noncomputable def qds (a : List qi) : Option Int:=
  cond (decide ((a.length : Int) > 400)) (some 4) ((loop (qh2 a) 0 : Option ((Unit) ⊕ (Int))).bind fun b=>(match b with | .inl _=>some 0 | .inr c=>some c))
noncomputable def q8u (b : List qi) (a : Int × List Int) : Option ((Int × List Int) ⊕ (List Int)):=
  cond (decide (a.1 < (b.length : Int))) ((idx b a.1).bind fun c=>(idx b a.1).bind fun d=>(app 8 a.2 [c.Lo,d.Hi]).bind fun f=>some (.inl (w64 (a.1 + 1),f))) (some (.inr a.2))
noncomputable def qnm (b : List qi) (a : Int × List Int) : Option ((Int × List Int) ⊕ (List Int)):=
  cond (decide (a.1 < (b.length : Int))) ((idx b a.1).bind fun c=>(idx b a.1).bind fun d=>(app 8 a.2 [c.Lo,d.Hi]).bind fun f=>some (.inl (w64 (a.1 + 1),f))) (some (.inr a.2))
noncomputable def qh3 (a : List qi) (b : List qi) : Option (List Int):=
  (loop (q8u a) (0,[])).bind fun c=>(loop (qnm b) (0,c)).bind fun d=>(qdv d).bind fun f=>some f
noncomputable def q8v (b : List qi) (c : Int) (a : Int) : Option ((Int) ⊕ ((Unit) ⊕ (Bool))):=
  cond (decide (a < (b.length : Int))) ((idx b a).bind fun d=>(cond (decide (d.Lo≤c)) ((idx b a).bind fun f=>some (decide (c < f.Hi))) (some false)).bind fun g=>cond g (some (.inr (.inr true))) (some (.inl (w64 (a + 1))))) (some (.inr (.inl ())))
noncomputable def qdt (a : List qi) (b : Int) : Option Bool:=
  (loop (q8v a b) 0 : Option ((Unit) ⊕ (Bool))).bind fun c=>(match c with | .inl _=>some false | .inr d=>some d)
noncomputable def qh4 (c : Int) (a : Bool) (b : Bool) : Option Bool:=
  cond (c == 1) ((cond a (some b) (some false)).bind fun d=>some d) (cond (c == 2) ((cond a (some true) (some b)).bind fun f=>some f) ((cond a (some (!b)) (some false)).bind fun g=>some g))
noncomputable def q8t (b : List Int) (c : List Bool) (a : Int × List qi) : Option ((Int × List qi) ⊕ (List qi)):=
  cond (decide ((w64 (a.1 + 1)) < (b.length : Int))) (((idx c a.1).bind fun d=>cond (!d) (some a.2) ((cond (decide ((a.2.length : Int) > 0)) ((idx a.2 (w64 ((a.2.length : Int) - 1))).bind fun f=>(idx b a.1).bind fun g=>some (f.Hi == g)) (some false)).bind fun h=>cond h ((idx b (w64 (a.1 + 1))).bind fun j=>(idx a.2 (w64 ((a.2.length : Int) - 1))).bind fun k=>some (a.2.set (w64 ((a.2.length : Int) - 1)).toNat ({Lo:=k.Lo,Hi:=j} : qi))) ((idx b a.1).bind fun l=>(idx b (w64 (a.1 + 1))).bind fun m=>(app 16 a.2 [({Lo:=l,Hi:=m} : qi)]).bind fun n=>some n))).bind fun o=>some (.inl (w64 (a.1 + 1),o))) (some (.inr a.2))
noncomputable def qh1 (a : List Int) (b : List Bool) : Option (List qi):=
  (loop (q8t a b) (0,[])).bind fun c=>some c
noncomputable def q8w (b : List Int) (c : List qi) (d : List qi) (f : Int) (a : Int × List Bool) : Option ((Int × List Bool) ⊕ (List Bool)):=
  cond (decide (a.1 < (b.length : Int))) ((idx b a.1).bind fun g=>(qdt c g).bind fun h=>(idx b a.1).bind fun j=>(qdt d j).bind fun k=>(qh4 f h k).bind fun l=>(app 1 a.2 [l]).bind fun m=>some (.inl (w64 (a.1 + 1),m))) (some (.inr a.2))
noncomputable def qdu (d : Int) (a : List qi) (b : List qi) : Option (List qi):=
  (qh3 a b).bind fun c=>(loop (q8w c a b d) (0,[])).bind fun f=>(qh1 c f).bind fun g=>some g
noncomputable def qbp (b : List qi) (a : Int × Int) : Option ((Int × Int) ⊕ (Int)):=
  cond (decide (a.2 < (b.length : Int))) ((idx b a.2).bind fun c=>some (.inl (w64 (a.1 + (w64 (c.Hi - c.Lo))),w64 (a.2 + 1)))) (some (.inr a.1))
noncomputable def qoz (a : List qi) : Option (Int × Int):=
  (qec a).bind fun b=>cond (b != 0) (some (0,b)) ((loop (qbp a) (0,0)).bind fun c=>some (c,0))
noncomputable def q8x (b : List qi) (a : Int × Int) : Option ((Int × Int) ⊕ (Int)):=
  cond (decide (a.2 < (b.length : Int))) ((idx b a.2).bind fun c=>(idx b a.2).bind fun d=>some (.inl (w64 ((w64 (a.1 + c.Hi)) - d.Lo),w64 (a.2 + 1)))) (some (.inr a.1))
noncomputable def qno (a : List qi) : Option (Int × Int):=
  (qds a).bind fun b=>cond (b != 0) ((qds a).bind fun c=>some (0,c)) ((loop (q8x a) (0,0)).bind fun d=>some (d,0))
structure qcf where
  X : Int
  Y : Int
  Z : Int
  deriving DecidableEq
structure qq6 where
  Turn : Int
  At : qcf
  deriving DecidableEq
structure q14e where
  Frame : qq6
  Size : qcf
  deriving DecidableEq
structure q14d where
  t_ : Int
  at_ : qcf
  flat_ : qcf
  deriving DecidableEq
end Go.Sh
