/- PX -/
import Derived.Test.YtgkialgkmjnfbaaGreatK9
namespace Go.Sh
open Go Go.Am
structure qa where
  X : Int
  Y : Int
  deriving DecidableEq
structure qj where
  A : Int
  B : Int
  deriving DecidableEq
structure Qh where
  Nodes : List qa
  Edges : List qj
  deriving DecidableEq
def qq (x : qa) : List DV:=[.int .i64 x.X,.int .i64 x.Y]
def Q7 (x : qj) : List DV:=[.int .i64 x.A,.int .i64 x.B]
structure qr where
  A : qa
  B : qa
  deriving DecidableEq
noncomputable def q4u (a : qa) : Option Bool:=
  (cond (decide ((min a.X a.Y) ≥ (-1000000))) (some (decide ((max a.X a.Y)≤1000000))) (some false)).bind fun b=>some b
noncomputable def q7e (a : qr) : Option Bool:=
  (q4u a.A).bind fun b=>(cond b ((q4u a.B).bind fun c=>some c) (some false)).bind fun d=>(cond d (some (!((a.A.X == a.B.X) == (a.A.Y == a.B.Y)))) (some false)).bind fun f=>some f
def Kc (x : qr) : List DV:=[.int .i64 x.A.X,.int .i64 x.A.Y,.int .i64 x.B.X,.int .i64 x.B.Y]
noncomputable def Uz (b : Qh) (c : Int × List qr) : Option ((Int × List qr) ⊕ ((List qr) ⊕ (List qr × Bool))):=
  cond (decide (c.1 < (b.Edges.length : Int))) ((idx b.Edges c.1).bind fun a=>(cond (decide ((min a.A a.B) < 0)) (some true) (some (decide ((max a.A a.B) ≥ (b.Nodes.length : Int))))).bind fun g=>cond g (some (.inr (.inr ([],false)))) ((idx b.Nodes a.A).bind fun d=>(idx b.Nodes a.B).bind fun f=>(q7e ({A:=d,B:=f} : qr)).bind fun h=>cond (!h) (some (.inr (.inr ([],false)))) ((app 32 c.2 [({A:=d,B:=f} : qr)]).bind fun j=>some (.inl (w64 (c.1 + 1),j))))) (some (.inr (.inl c.2)))
noncomputable def q4t (a : Qh) : Option (List qr × Bool):=
  (loop (Uz a) (0,[]) : Option ((List qr) ⊕ (List qr × Bool))).bind fun b=>(match b with | .inl c=>some (c,true) | .inr d=>some d)
structure qh where
  Lo : Int
  Hi : Int
  deriving DecidableEq
structure Y8 where
  rows_ : List (Int × List qh)
  columns_ : List (Int × List qh)
  deriving DecidableEq
def Qc (x : qh) : List DV:=[.int .i64 x.Lo,.int .i64 x.Hi]
noncomputable def q3e (b : List qh) (c : qh→Option Bool) (a : Int) : Option ((Int) ⊕ ((Unit) ⊕ (Int))):=
  cond (decide (a < (b.length : Int))) ((idx b a).bind fun d=>(c d).bind fun f=>cond f (some (.inr (.inr a))) (some (.inl (w64 (a + 1))))) (some (.inr (.inl ())))
noncomputable def q9h (a : List qh) (b : qh→Option Bool) : Option Int:=
  (loop (q3e a b) 0 : Option ((Unit) ⊕ (Int))).bind fun c=>(match c with | .inl _=>some (-1) | .inr d=>some d)
noncomputable def q6f (a : List qh) (b : qh→Option Bool) : Option Bool:=
  (q9h a b).bind fun c=>some (decide (c ≥ 0))
noncomputable def q3f (a : qh) : Option Bool:=
  (cond (decide (a.Lo < a.Hi)) (some (decide (a.Lo ≥ (-1000000)))) (some false)).bind fun b=>(cond b (some (decide (a.Hi≤1000000))) (some false)).bind fun c=>some c
noncomputable def qec (a : qh) : Option Bool:=
  (q3f a).bind fun b=>some (!b)
def q22 (x : List qh) : List DV:=[.sl 2 (x.map Qc)]
structure qo where
  at_ : Int
  list_ : Int
  by_ : Int
  deriving DecidableEq
def Qd (x : qo) : List DV:=[.int .i64 x.at_,.int .i64 x.list_,.int .i64 x.by_]
noncomputable def qbo (a : qo) (b : qo) : Option Int:=
  some (w64 (a.at_ - b.at_))
def qbu : ByteArray:=⟨#[0,1,2,2,3,3,3,3,4,4,4,4,4,4,4,4,5,5,5,5,5,5,5,5,5,5,5,5,5,5,5,5,6,6,6,6,6,6,6,6,6,6,6,6,6,6,6,6,6,6,6,6,6,6,6,6,6,6,6,6,6,6,6,6,7,7,7,7,7,7,7,7,7,7,7,7,7,7,7,7,7,7,7,7,7,7,7,7,7,7,7,7,7,7,7,7,7,7,7,7,7,7,7,7,7,7,7,7,7,7,7,7,7,7,7,7,7,7,7,7,7,7,7,7,7,7,7,7,8,8,8,8,8,8,8,8,8,8,8,8,8,8,8,8,8,8,8,8,8,8,8,8,8,8,8,8,8,8,8,8,8,8,8,8,8,8,8,8,8,8,8,8,8,8,8,8,8,8,8,8,8,8,8,8,8,8,8,8,8,8,8,8,8,8,8,8,8,8,8,8,8,8,8,8,8,8,8,8,8,8,8,8,8,8,8,8,8,8,8,8,8,8,8,8,8,8,8,8,8,8,8,8,8,8,8,8,8,8,8,8,8,8,8,8,8,8,8,8,8,8,8,8,8,8,8,8]⟩
noncomputable def q2d (c : Int) : Option Int:=
  (cond (decide (c ≥ 4294967296)) (some (Int.fdiv c (2 ^ 32),32)) (some (c,0))).bind fun a=>(cond (decide (a.1 ≥ 65536)) (some (Int.fdiv a.1 (2 ^ 16),w64 (a.2 + 16))) (some (a.1,a.2))).bind fun b=>(cond (decide (b.1 ≥ 256)) (some (Int.fdiv b.1 (2 ^ 8),w64 (b.2 + 8))) (some (b.1,b.2))).bind fun d=>(q4r qbu (IntKind.wrap .u8 d.1)).bind fun f=>some (w64 (d.2 + (w64 f)))
noncomputable def U8 (a : Int) : Option Int:=
  (q2d a).bind fun b=>some b
noncomputable def qa9 (c : Int) (d : qo→qo→Option Int) (a : Int × List qo) : Option ((Int × List qo) ⊕ (List qo)):=
  (cond (decide (a.1 > c)) ((idx a.2 a.1).bind fun f=>(idx a.2 (w64 (a.1 - 1))).bind fun g=>(d f g).bind fun h=>some (decide (h < 0))) (some false)).bind fun j=>cond j ((idx a.2 (w64 (a.1 - 1))).bind fun b=>(idx a.2 a.1).bind fun k=>(idx a.2 a.1).bind fun _=>(idx (a.2.set a.1.toNat b) (w64 (a.1 - 1))).bind fun _=>some (.inl (w64 (a.1 - 1),(a.2.set a.1.toNat b).set (w64 (a.1 - 1)).toNat k))) (some (.inr a.2))
noncomputable def qa8 (b : Int) (c : Int) (d : qo→qo→Option Int) (a : Int × List qo) : Option ((Int × List qo) ⊕ (List qo)):=
  cond (decide (a.1 < b)) (((loop (qa9 c d) (a.1,a.2)).bind fun f=>some f).bind fun g=>some (.inl (w64 (a.1 + 1),g))) (some (.inr a.2))
noncomputable def qa7 (b : qo→qo→Option Int) (c : List qo) (a : Int) (d : Int) : Option (List qo):=
  (loop (qa8 d a b) (w64 (a + 1),c)).bind fun f=>some f
noncomputable def qbl (d : Int) (b : Int) (f : qo→qo→Option Int) (a : Int × List qo) : Option ((Int × List qo) ⊕ (List qo)):=
  cond (decide ((w64 ((w64 (2 * a.1)) + 1)) ≥ d)) (some (.inr a.2)) ((cond (decide ((w64 ((w64 ((w64 (2 * a.1)) + 1)) + 1)) < d)) ((idx a.2 (w64 (b + (w64 ((w64 (2 * a.1)) + 1))))).bind fun h=>(idx a.2 (w64 ((w64 (b + (w64 ((w64 (2 * a.1)) + 1)))) + 1))).bind fun j=>(f h j).bind fun k=>some (decide (k < 0))) (some false)).bind fun l=>(cond l (some (w64 ((w64 ((w64 (2 * a.1)) + 1)) + 1))) (some (w64 ((w64 (2 * a.1)) + 1)))).bind fun c=>(idx a.2 (w64 (b + a.1))).bind fun m=>(idx a.2 (w64 (b + c))).bind fun n=>(f m n).bind fun o=>cond (!(decide (o < 0))) (some (.inr a.2)) ((idx a.2 (w64 (b + c))).bind fun g=>(idx a.2 (w64 (b + a.1))).bind fun p=>(idx a.2 (w64 (b + a.1))).bind fun _=>(idx (a.2.set (w64 (b + a.1)).toNat g) (w64 (b + c))).bind fun _=>some (.inl (c,(a.2.set (w64 (b + a.1)).toNat g).set (w64 (b + c)).toNat p))))
noncomputable def q74 (a : qo→qo→Option Int) (b : List qo) (c : Int) (d : Int) (f : Int) : Option (List qo):=
  (loop (qbl d f a) (c,b)).bind fun g=>some g
noncomputable def q9z (d : qo→qo→Option Int) (f : Int) (b : Int) (a : Int × List qo) : Option ((Int × List qo) ⊕ (List qo)):=
  cond (decide (a.1 ≥ 0)) ((q74 d a.2 a.1 (w64 (f - b)) b).bind fun c=>(K0 c.length a.2.length).bind fun _=>some (.inl (w64 (a.1 - 1),c))) (some (.inr a.2))
noncomputable def qa0 (b : Int) (g : qo→qo→Option Int) (a : Int × List qo) : Option ((Int × List qo) ⊕ (List qo)):=
  cond (decide (a.1 ≥ 0)) ((idx a.2 (w64 (b + a.1))).bind fun c=>(idx a.2 b).bind fun d=>(idx a.2 b).bind fun _=>(idx (a.2.set b.toNat c) (w64 (b + a.1))).bind fun _=>(q74 g ((a.2.set b.toNat c).set (w64 (b + a.1)).toNat d) 0 a.1 b).bind fun f=>(K0 f.length ((a.2.set b.toNat c).set (w64 (b + a.1)).toNat d).length).bind fun _=>some (.inl (w64 (a.1 - 1),f))) (some (.inr a.2))
noncomputable def q9y (c : qo→qo→Option Int) (d : List qo) (a : Int) (b : Int) : Option (List qo):=
  (loop (q9z c b a) (w64 (Int.tdiv (w64 ((w64 (b - a)) - 1)) 2),d)).bind fun f=>(loop (qa0 a c) (w64 ((w64 (b - a)) - 1),f)).bind fun g=>some g
noncomputable def q4n (f : qo→qo→Option Int) (c : List qo) (a : Int) (b : Int) (d : Int) : Option (Int × Int × Int):=
  (idx c b).bind fun g=>(idx c a).bind fun h=>(f g h).bind fun j=>cond (decide (j < 0)) (some (b,a,w64 (d + 1))) (some (a,b,d))
noncomputable def q6m (a : qo→qo→Option Int) (b : List qo) (g : Int) (h : Int) (j : Int) (k : Int) : Option (Int × Int):=
  (q4n a b g h k).bind fun c=>(q4n a b c.2.1 j c.2.2).bind fun d=>(q4n a b c.1 d.1 d.2.2).bind fun f=>some (f.2.1,f.2.2)
noncomputable def q4k (c : qo→qo→Option Int) (d : List qo) (a : Int) (f : Int) : Option (Int × Int):=
  (q6m c d (w64 (a - 1)) a (w64 (a + 1)) f).bind fun b=>some (b.1,b.2)
noncomputable def q9r (d : List qo) (a : Int) (b : Int) (f : qo→qo→Option Int) : Option (Int × Int):=
  (cond (decide ((w64 (b - a)) ≥ 8)) ((cond (decide ((w64 (b - a)) ≥ 50)) ((q4k f d (w64 (a + (w64 ((w64 (Int.tdiv (w64 (b - a)) 4)) * 1)))) 0).bind fun h=>(q4k f d (w64 (a + (w64 ((w64 (Int.tdiv (w64 (b - a)) 4)) * 2)))) h.2).bind fun j=>(q4k f d (w64 (a + (w64 ((w64 (Int.tdiv (w64 (b - a)) 4)) * 3)))) j.2).bind fun k=>some (h.1,j.1,k.1,k.2)) (some (w64 (a + (w64 ((w64 (Int.tdiv (w64 (b - a)) 4)) * 1))),w64 (a + (w64 ((w64 (Int.tdiv (w64 (b - a)) 4)) * 2))),w64 (a + (w64 ((w64 (Int.tdiv (w64 (b - a)) 4)) * 3))),0))).bind fun g=>(q6m f d g.1 g.2.1 g.2.2.1 g.2.2.2).bind fun l=>some (l.1,l.2)) (some (w64 (a + (w64 ((w64 (Int.tdiv (w64 (b - a)) 4)) * 2))),0))).bind fun c=>cond (c.2 == 0) (some (c.1,1)) (cond (c.2 == 12) (some (c.1,2)) (some (c.1,0)))
noncomputable def qbi (a : Int × Int × List qo) : Option ((Int × Int × List qo) ⊕ (List qo)):=
  cond (decide (a.1 < a.2.1)) ((idx a.2.2 a.2.1).bind fun b=>(idx a.2.2 a.1).bind fun c=>(idx a.2.2 a.1).bind fun _=>(idx (a.2.2.set a.1.toNat b) a.2.1).bind fun _=>some (.inl (w64 (a.1 + 1),w64 (a.2.1 - 1),(a.2.2.set a.1.toNat b).set a.2.1.toNat c))) (some (.inr a.2.2))
noncomputable def qbh (f : qo→qo→Option Int) (a : List qo) (b : Int) (c : Int) : Option (List qo):=
  (loop qbi (b,w64 (c - 1),a)).bind fun d=>some d
noncomputable def qag (c : Int) (b : Int × Int × List qo) (d : qo→qo→Option Int) (a : Int) : Option ((Int) ⊕ (Int)):=
  (cond (decide (a < c)) ((idx b.2.2 a).bind fun f=>(idx b.2.2 (w64 (a - 1))).bind fun g=>(d f g).bind fun h=>some (!(decide (h < 0)))) (some false)).bind fun j=>cond j (some (.inl (w64 (a + 1)))) (some (.inr a))
noncomputable def qah (c : qo→qo→Option Int) (a : Int × List qo) : Option ((Int × List qo) ⊕ (List qo)):=
  cond (decide (a.1 ≥ 1)) ((idx a.2 a.1).bind fun d=>(idx a.2 (w64 (a.1 - 1))).bind fun f=>(c d f).bind fun g=>cond (!(decide (g < 0))) (some (.inr a.2)) ((idx a.2 (w64 (a.1 - 1))).bind fun b=>(idx a.2 a.1).bind fun h=>(idx a.2 a.1).bind fun _=>(idx (a.2.set a.1.toNat b) (w64 (a.1 - 1))).bind fun _=>some (.inl (w64 (a.1 - 1),(a.2.set a.1.toNat b).set (w64 (a.1 - 1)).toNat h)))) (some (.inr a.2))
noncomputable def qai (d : Int) (f : qo→qo→Option Int) (b : Int) (a : Int × List qo) : Option ((Int × List qo) ⊕ (Int × List qo)):=
  cond (decide (a.1 < d)) ((idx a.2 a.1).bind fun g=>(idx a.2 (w64 (a.1 - 1))).bind fun h=>(f g h).bind fun j=>cond (!(decide (j < 0))) (some (.inr (b,a.2))) ((idx a.2 (w64 (a.1 - 1))).bind fun c=>(idx a.2 a.1).bind fun k=>(idx a.2 a.1).bind fun _=>(idx (a.2.set a.1.toNat c) (w64 (a.1 - 1))).bind fun _=>some (.inl (w64 (a.1 + 1),(a.2.set a.1.toNat c).set (w64 (a.1 - 1)).toNat k)))) (some (.inr (b,a.2)))
noncomputable def q6s (c : Int) (d : qo→qo→Option Int) (h : Int) (b : Int × Int × List qo) : Option ((Int × Int × List qo) ⊕ ((List qo) ⊕ (Bool × List qo))):=
  cond (decide (b.2.1 < 5)) (((loop (qag c b d) b.1).bind fun a=>cond (a == c) (some (.inr (true,b.2.2))) (cond (decide ((w64 (c - h)) < 50)) (some (.inr (false,b.2.2))) ((idx b.2.2 (w64 (a - 1))).bind fun f=>(idx b.2.2 a).bind fun j=>(idx b.2.2 a).bind fun _=>(idx (b.2.2.set a.toNat f) (w64 (a - 1))).bind fun _=>(cond (decide ((w64 (a - h)) ≥ 2)) ((loop (qah d) (w64 (a - 1),(b.2.2.set a.toNat f).set (w64 (a - 1)).toNat j)).bind fun g=>some g) (some ((b.2.2.set a.toNat f).set (w64 (a - 1)).toNat j))).bind fun k=>cond (decide ((w64 (c - a)) ≥ 2)) ((loop (qai c d a) (w64 (a + 1),k)).bind fun g=>some (.inl g)) (some (.inl (a,k))))) : Option ((Int × List qo) ⊕ (Bool × List qo))).bind fun m=>(match m with | .inl l=>some (.inl (l.1,w64 (b.2.1 + 1),l.2)) | .inr n=>some (.inr (.inr n)))) (some (.inr (.inl b.2.2)))
noncomputable def q6r (b : qo→qo→Option Int) (c : List qo) (a : Int) (d : Int) : Option (Bool × List qo):=
  (loop (q6s d b a) (w64 (a + 1),0,c) : Option ((List qo) ⊕ (Bool × List qo))).bind fun f=>(match f with | .inl g=>some (false,g) | .inr h=>some h)
noncomputable def qbb (b : Int × Int × List qo) (c : Int) (d : qo→qo→Option Int) (a : Int) : Option ((Int) ⊕ (Int)):=
  (cond (decide (a≤b.2.1)) ((idx b.2.2 c).bind fun f=>(idx b.2.2 a).bind fun g=>(d f g).bind fun h=>some (!(decide (h < 0)))) (some false)).bind fun j=>cond j (some (.inl (w64 (a + 1)))) (some (.inr a))
noncomputable def qbc (c : Int) (b : Int × Int × List qo) (d : Int) (f : qo→qo→Option Int) (a : Int) : Option ((Int) ⊕ (Int)):=
  (cond (decide (c≤a)) ((idx b.2.2 d).bind fun g=>(idx b.2.2 a).bind fun h=>(f g h).bind fun j=>some (decide (j < 0))) (some false)).bind fun k=>cond k (some (.inl (w64 (a - 1)))) (some (.inr a))
noncomputable def qba (d : Int) (f : qo→qo→Option Int) (a : Int × Int × List qo) : Option ((Int × Int × List qo) ⊕ (Int × List qo)):=
  (loop (qbb a d f) a.1).bind fun b=>(loop (qbc b a d f) a.2.1).bind fun c=>cond (decide (b > c)) (some (.inr (b,a.2.2))) ((idx a.2.2 c).bind fun g=>(idx a.2.2 b).bind fun h=>(idx a.2.2 b).bind fun _=>(idx (a.2.2.set b.toNat g) c).bind fun _=>some (.inl (w64 (b + 1),w64 (c - 1),(a.2.2.set b.toNat g).set c.toNat h)))
noncomputable def qb9 (g : qo→qo→Option Int) (b : List qo) (a : Int) (h : Int) (c : Int) : Option (Int × List qo):=
  (idx b c).bind fun d=>(idx b a).bind fun j=>(idx b a).bind fun _=>(idx (b.set a.toNat d) c).bind fun _=>(loop (qba a g) (w64 (a + 1),w64 (h - 1),(b.set a.toNat d).set c.toNat j)).bind fun f=>some (f.1,f.2)
noncomputable def qaw (h : Int) (c : List qo) (b : Int) (d : qo) (f : Int) (g : qo) (j : qo→qo→Option Int) (a : Int) : Option ((Int) ⊕ (Int)):=
  (cond (decide (a≤(w64 (h - 1)))) ((idx ((c.set b.toNat d).set f.toNat g) a).bind fun k=>(idx ((c.set b.toNat d).set f.toNat g) b).bind fun l=>(j k l).bind fun m=>some (decide (m < 0))) (some false)).bind fun n=>cond n (some (.inl (w64 (a + 1)))) (some (.inr a))
noncomputable def qax (h : Int) (c : List qo) (b : Int) (d : qo) (f : Int) (g : qo) (j : qo→qo→Option Int) (a : Int) : Option ((Int) ⊕ (Int)):=
  (cond (decide (h≤a)) ((idx ((c.set b.toNat d).set f.toNat g) a).bind fun k=>(idx ((c.set b.toNat d).set f.toNat g) b).bind fun l=>(j k l).bind fun m=>some (!(decide (m < 0)))) (some false)).bind fun n=>cond n (some (.inl (w64 (a - 1)))) (some (.inr a))
noncomputable def qaz (b : Int × Int × List qo) (c : Int) (d : qo→qo→Option Int) (a : Int) : Option ((Int) ⊕ (Int)):=
  (cond (decide (a≤b.2.1)) ((idx b.2.2 a).bind fun f=>(idx b.2.2 c).bind fun g=>(d f g).bind fun h=>some (decide (h < 0))) (some false)).bind fun j=>cond j (some (.inl (w64 (a + 1)))) (some (.inr a))
noncomputable def qb0 (c : Int) (b : Int × Int × List qo) (d : Int) (f : qo→qo→Option Int) (a : Int) : Option ((Int) ⊕ (Int)):=
  (cond (decide (c≤a)) ((idx b.2.2 a).bind fun g=>(idx b.2.2 d).bind fun h=>(f g h).bind fun j=>some (!(decide (j < 0)))) (some false)).bind fun k=>cond k (some (.inl (w64 (a - 1)))) (some (.inr a))
noncomputable def qay (d : Int) (f : qo→qo→Option Int) (a : Int × Int × List qo) : Option ((Int × Int × List qo) ⊕ (Int × List qo)):=
  (loop (qaz a d f) a.1).bind fun b=>(loop (qb0 b a d f) a.2.1).bind fun c=>cond (decide (b > c)) (some (.inr (c,a.2.2))) ((idx a.2.2 c).bind fun g=>(idx a.2.2 b).bind fun h=>(idx a.2.2 b).bind fun _=>(idx (a.2.2.set b.toNat g) c).bind fun _=>some (.inl (w64 (b + 1),w64 (c - 1),(a.2.2.set b.toNat g).set c.toNat h)))
noncomputable def qav (k : qo→qo→Option Int) (b : List qo) (a : Int) (l : Int) (c : Int) : Option (Int × Bool × List qo):=
  (idx b c).bind fun d=>(idx b a).bind fun f=>(idx b a).bind fun _=>(idx (b.set a.toNat d) c).bind fun _=>(loop (qaw l b a d c f k) (w64 (a + 1))).bind fun j=>(loop (qax j b a d c f k) (w64 (l - 1))).bind fun g=>cond (decide (j > g)) ((idx ((b.set a.toNat d).set c.toNat f) a).bind fun m=>(idx ((b.set a.toNat d).set c.toNat f) g).bind fun p=>(idx ((b.set a.toNat d).set c.toNat f) g).bind fun _=>(idx (((b.set a.toNat d).set c.toNat f).set g.toNat m) a).bind fun _=>some (g,true,(((b.set a.toNat d).set c.toNat f).set g.toNat m).set a.toNat p)) ((idx ((b.set a.toNat d).set c.toNat f) g).bind fun n=>(idx ((b.set a.toNat d).set c.toNat f) j).bind fun q=>(idx ((b.set a.toNat d).set c.toNat f) j).bind fun _=>(idx (((b.set a.toNat d).set c.toNat f).set j.toNat n) g).bind fun _=>(loop (qay a k) (w64 (j + 1),w64 (g - 1),(((b.set a.toNat d).set c.toNat f).set j.toNat n).set g.toNat q)).bind fun h=>(idx h.2 a).bind fun o=>(idx h.2 h.1).bind fun r=>(idx h.2 h.1).bind fun _=>(idx (h.2.set h.1.toNat o) a).bind fun _=>some (h.1,false,(h.2.set h.1.toNat o).set a.toNat r))
noncomputable def Uv (a : Int) : Option Int:=
  (U8 (IntKind.wrap .u64 a)).bind fun b=>(shlK .u64 1 b).bind fun c=>some c
noncomputable def Uw (a : Int) : Option Int:=
  some (xorI .u64 (xorI .u64 (xorI .u64 a (IntKind.wrap .u64 (a * (2 ^ 13)))) (Int.fdiv (xorI .u64 a (IntKind.wrap .u64 (a * (2 ^ 13)))) (2 ^ 7))) (IntKind.wrap .u64 ((xorI .u64 (xorI .u64 a (IntKind.wrap .u64 (a * (2 ^ 13)))) (Int.fdiv (xorI .u64 a (IntKind.wrap .u64 (a * (2 ^ 13)))) (2 ^ 7))) * (2 ^ 17))))
noncomputable def q9o (b : Int) (d : Int) (f : Int) (a : Int × List qo × Int) : Option ((Int × List qo × Int) ⊕ (List qo)):=
  cond (decide (a.1≤(w64 ((w64 (b + (w64 ((w64 (Int.tdiv (w64 (d - b)) 4)) * 2)))) + 1)))) ((Uw a.2.2).bind fun c=>(cond (decide ((w64 (andI .u64 c (IntKind.wrap .u64 (f - 1)))) ≥ (w64 (d - b)))) (some (w64 ((w64 (andI .u64 c (IntKind.wrap .u64 (f - 1)))) - (w64 (d - b))))) (some (w64 (andI .u64 c (IntKind.wrap .u64 (f - 1)))))).bind fun g=>(idx a.2.1 (w64 (b + g))).bind fun h=>(idx a.2.1 a.1).bind fun j=>(idx a.2.1 a.1).bind fun _=>(idx (a.2.1.set a.1.toNat h) (w64 (b + g))).bind fun _=>some (.inl (w64 (a.1 + 1),(a.2.1.set a.1.toNat h).set (w64 (b + g)).toNat j,c))) (some (.inr a.2.1))
noncomputable def q9n (g : qo→qo→Option Int) (c : List qo) (a : Int) (b : Int) : Option (List qo):=
  cond (decide ((w64 (b - a)) ≥ 8)) ((Uv (w64 (b - a))).bind fun d=>(loop (q9o a b d) (w64 ((w64 (a + (w64 ((w64 (Int.tdiv (w64 (b - a)) 4)) * 2)))) - 1),c,IntKind.wrap .u64 (w64 (b - a)))).bind fun f=>some f) (some c)
noncomputable def q70 (c : qo→qo→Option Int) (rec : List qo→Int→Int→Int→Option (List qo)) (a : Int × Int × Int × Bool × Bool × List qo) : Option ((Int × Int × Int × Bool × Bool × List qo) ⊕ (List qo)):=
  cond (decide ((w64 (a.2.1 - a.1))≤12)) ((qa7 c a.2.2.2.2.2 a.1 a.2.1).bind fun l=>(K0 l.length a.2.2.2.2.2.length).bind fun _=>some (.inr l)) (cond (a.2.2.1 == 0) ((q9y c a.2.2.2.2.2 a.1 a.2.1).bind fun m=>(K0 m.length a.2.2.2.2.2.length).bind fun _=>some (.inr m)) ((cond (!a.2.2.2.1) ((q9n c a.2.2.2.2.2 a.1 a.2.1).bind fun n=>(K0 n.length a.2.2.2.2.2.length).bind fun _=>some (w64 (a.2.2.1 - 1),n)) (some (a.2.2.1,a.2.2.2.2.2))).bind fun d=>(q9r d.2 a.1 a.2.1 c).bind fun h=>(cond (h.2 == 2) ((qbh c d.2 a.1 a.2.1).bind fun o=>(K0 o.length d.2.length).bind fun _=>some (w64 ((w64 (a.2.1 - 1)) - (w64 (h.1 - a.1))),1,o)) (some (h.1,h.2,d.2))).bind fun f=>(cond a.2.2.2.1 (some a.2.2.2.2.1) (some false)).bind fun r=>(cond r (some (f.2.1 == 1)) (some false)).bind fun s=>(cond s ((q6r c f.2.2 a.1 a.2.1).bind fun j=>(K0 j.2.length f.2.2.length).bind fun _=>cond j.1 (some (.inr j.2)) (some (.inl j.2))) (some (.inl f.2.2)) : Option ((List qo) ⊕ (List qo))).bind fun t=>(match t with | .inl g=>(cond (decide (a.1 > 0)) ((idx g (w64 (a.1 - 1))).bind fun u=>(idx g f.1).bind fun v=>(c u v).bind fun w=>some (!(decide (w < 0)))) (some false)).bind fun x=>cond x ((qb9 c g a.1 a.2.1 f.1).bind fun k=>(K0 k.2.length g.length).bind fun _=>some (.inl (k.1,a.2.1,d.1,a.2.2.2.1,a.2.2.2.2.1,k.2))) ((qav c g a.1 a.2.1 f.1).bind fun b=>(K0 b.2.2.length g.length).bind fun _=>cond (decide ((w64 (b.1 - a.1)) < (w64 (a.2.1 - b.1)))) ((rec b.2.2 a.1 b.1 d.1).bind fun p=>(K0 p.length b.2.2.length).bind fun _=>some (.inl (w64 (b.1 + 1),a.2.1,d.1,decide ((w64 (b.1 - a.1)) ≥ (w64 (Int.tdiv (w64 (a.2.1 - a.1)) 8))),b.2.1,p))) ((rec b.2.2 (w64 (b.1 + 1)) a.2.1 d.1).bind fun q=>(K0 q.length b.2.2.length).bind fun _=>some (.inl (a.1,b.1,d.1,decide ((w64 (a.2.1 - b.1)) ≥ (w64 (Int.tdiv (w64 (a.2.1 - a.1)) 8))),b.2.1,q)))) | .inr y=>some (.inr y))))
noncomputable def q71 (rec : List qo→Int→Int→Int→Option (List qo)) (a : qo→qo→Option Int) (b : List qo) (c : Int) (d : Int) (f : Int) : Option (List qo):=
  (loop (q70 a rec) (c,d,f,true,true,b)).bind fun g=>some g
noncomputable def q6z : Nat→(qo→qo→Option Int)→List qo→Int→Int→Int→Option (List qo)
  | 0,_,_,_,_,_=>none
  | n + 1,a,b,c,d,f=>q71 (q6z n a) a b c d f
noncomputable def q6j (c : qo→qo→Option Int) (a : List qo) : Option (List qo):=
  (U8 (IntKind.wrap .u64 (a.length : Int))).bind fun d=>(lim (fun n=>q6z n c a 0 (a.length : Int) d)).bind fun b=>(K0 b.length a.length).bind fun _=>some b
noncomputable def qe8 (a : List qo) : Option (List qo):=
  some a
noncomputable def q4p (b : List qh) (c : Int × List qo) (a : Int × List qo) : Option ((Int × List qo) ⊕ (List qo)):=
  cond (decide (a.1 < (b.length : Int))) ((idx b a.1).bind fun d=>(app 24 a.2 [({at_:=d.Lo,list_:=c.1,by_:=1} : qo),({at_:=d.Hi,list_:=c.1,by_:=(-1)} : qo)]).bind fun f=>some (.inl (w64 (a.1 + 1),f))) (some (.inr a.2))
noncomputable def q1t (b : List (List qh)) (a : Int × List qo) : Option ((Int × List qo) ⊕ (List qo)):=
  cond (decide (a.1 < (b.length : Int))) (((idx b a.1).bind fun c=>(loop (q4p c a) (0,a.2)).bind fun d=>some d).bind fun f=>some (.inl (w64 (a.1 + 1),f))) (some (.inr a.2))
noncomputable def qbp (b : List (List qh)) : Option (List (List qh) × List qo):=
  (loop (q1t b) (0,[])).bind fun c=>(q6j (fun f g=>qbo f g) c).bind fun a=>(K0 a.length c.length).bind fun _=>(qe8 a).bind fun d=>(K0 d.length a.length).bind fun _=>some (b,d)
noncomputable def qbq (b : Int) (d : Bool) (c : Int) (a : List qh) : Option (List qh):=
  (cond (!d) (some true) (some (c == b))).bind fun f=>cond f (some a) ((cond (decide ((a.length : Int) > 0)) ((idx a (w64 ((a.length : Int) - 1))).bind fun g=>some (g.Hi == c)) (some false)).bind fun h=>cond h ((idx a (w64 ((a.length : Int) - 1))).bind fun j=>some (a.set (w64 ((a.length : Int) - 1)).toNat ({Lo:=j.Lo,Hi:=b} : qh))) ((app 16 a [({Lo:=c,Hi:=b} : qh)]).bind fun k=>some k))
noncomputable def q4q (f : List (List qh) × List qo) (g : Bool→Bool→Option Bool) (a : Int × List Int × Int × Bool × List qh) : Option ((Int × List Int × Int × Bool × List qh) ⊕ (List qh)):=
  cond (decide (a.1 < (f.2.length : Int))) ((idx f.2 a.1).bind fun b=>((qbq b.at_ a.2.2.2.1 a.2.2.1 a.2.2.2.2).bind fun h=>(idxA 2 a.2.1 b.list_).bind fun c=>(idxA 2 a.2.1 b.list_).bind fun _=>(idxA 2 (a.2.1.set b.list_.toNat (w64 (c + b.by_))) 0).bind fun j=>(idxA 2 (a.2.1.set b.list_.toNat (w64 (c + b.by_))) 1).bind fun k=>(g (decide (j > 0)) (decide (k > 0))).bind fun l=>some (a.2.1.set b.list_.toNat (w64 (c + b.by_)),l,h)).bind fun d=>some (.inl (w64 (a.1 + 1),d.1,b.at_,d.2.1,d.2.2))) (some (.inr a.2.2.2.2))
noncomputable def q76 (a : List qh) (b : List qh) (d : Bool→Bool→Option Bool) : Option (List qh):=
  (qbp [a,b]).bind fun c=>(K0 c.1.length [a,b].length).bind fun _=>((loop (q4q c d) (0,[0,0],0,false,[])).bind fun f=>some f).bind fun g=>some g
noncomputable def qbn (a : Bool) (b : Bool) : Option Bool:=
  some a
noncomputable def q2l (a : List qh) : Option (List qh × Int):=
  cond (decide ((a.length : Int) > 400)) (some ([],4)) ((q6f a (fun b=>qec b)).bind fun c=>cond c (some ([],8)) ((q76 a [] (fun b d=>qbn b d)).bind fun f=>some (f,0)))
noncomputable def q18 (r : Y8) (s : qr) : Option Y8:=
  cond (s.A.Y == s.B.Y) ((app 16 (K7 [] s.A.Y r.rows_) [({Lo:=min s.A.X s.B.X,Hi:=max s.A.X s.B.X} : qh)]).bind fun l=>some {rows_:=Ka s.A.Y l r.rows_,columns_:=r.columns_})
    ((app 16 (K7 [] s.A.X r.columns_) [({Lo:=min s.A.Y s.B.Y,Hi:=max s.A.Y s.B.Y} : qh)]).bind fun l=>some {rows_:=r.rows_,columns_:=Ka s.A.X l r.columns_})
noncomputable def q1y : List qr→Y8→Option Y8
  | [],r=>some r
  | s::l,r=>(q18 r s).bind (q1y l)
noncomputable def U0 : List (Int × List qh)→Option (List (Int × List qh))
  | []=>some []
  | e::l=>(q2l e.2).bind fun x=>(U0 l).bind fun y=>some ((e.1,x.1)::y)
noncomputable def q7b (c : List qr) : Option Y8:=
  cond (decide (c.length≤1000000)) ((q1y c {rows_:=[],columns_:=[]}).bind fun r=>(U0 r.rows_).bind fun a=>(U0 r.columns_).bind fun b=>some {rows_:=a,columns_:=b}) none
noncomputable def qeb (a : qh) (b : Int) : Option Bool:=
  (cond (decide (a.Lo≤b)) (some (decide (b < a.Hi))) (some false)).bind fun c=>some c
noncomputable def q1s (a : List qh) (b : Int) : Option Bool:=
  (q6f a (fun c=>qeb c b)).bind fun d=>some d
noncomputable def q4v (b : Y8) (a : qa) : Option (Bool × Bool × Bool × Bool):=
  (q1s (K7 [] a.Y b.rows_) a.X).bind fun c=>(q1s (K7 [] a.X b.columns_) a.Y).bind fun d=>(q1s (K7 [] a.Y b.rows_) (w64 (a.X - 1))).bind fun f=>(q1s (K7 [] a.X b.columns_) (w64 (a.Y - 1))).bind fun g=>some (c,d,f,g)
noncomputable def qby (b : Y8) (c : qa) : Option Bool:=
  (q4v b c).bind fun a=>(cond ((a.1 == false) && ((a.2.1 == false) && ((a.2.2.1 == false) && ((a.2.2.2 == false) && true)))) (some ((a.1 == false) && ((a.2.1 == false) && ((a.2.2.1 == false) && ((a.2.2.2 == false) && true))))) (cond ((a.1 == true) && ((a.2.1 == false) && ((a.2.2.1 == true) && ((a.2.2.2 == false) && true)))) (some ((a.1 == true) && ((a.2.1 == false) && ((a.2.2.1 == true) && ((a.2.2.2 == false) && true))))) (some ((a.1 == false) && ((a.2.1 == true) && ((a.2.2.1 == false) && ((a.2.2.2 == true) && true))))))).bind fun d=>cond d (some false) (some true)
noncomputable def q3l (a : qa) (c : List (Int × List qh)) (d : List (Int × List qh)) (b : List (qa × Bool)) : Option (List (qa × Bool)):=
  (qby ({rows_:=c,columns_:=d} : Y8) ({X:=(a).X,Y:=(a).Y} : qa)).bind fun f=>cond f (some (Ka ({X:=(a).X,Y:=(a).Y} : qa) true b)) (some b)
noncomputable def q1v (a : qa) (b : qa) : Option Int:=
  cond (a.X != b.X) (some (w64 (a.X - b.X))) (some (w64 (a.Y - b.Y)))
noncomputable def qa6 (c : Int) (d : qa→qa→Option Int) (a : Int × List qa) : Option ((Int × List qa) ⊕ (List qa)):=
  (cond (decide (a.1 > c)) ((idx a.2 a.1).bind fun f=>(idx a.2 (w64 (a.1 - 1))).bind fun g=>(d f g).bind fun h=>some (decide (h < 0))) (some false)).bind fun j=>cond j ((idx a.2 (w64 (a.1 - 1))).bind fun b=>(idx a.2 a.1).bind fun k=>(idx a.2 a.1).bind fun _=>(idx (a.2.set a.1.toNat b) (w64 (a.1 - 1))).bind fun _=>some (.inl (w64 (a.1 - 1),(a.2.set a.1.toNat b).set (w64 (a.1 - 1)).toNat k))) (some (.inr a.2))
noncomputable def qa5 (b : Int) (c : Int) (d : qa→qa→Option Int) (a : Int × List qa) : Option ((Int × List qa) ⊕ (List qa)):=
  cond (decide (a.1 < b)) (((loop (qa6 c d) (a.1,a.2)).bind fun f=>some f).bind fun g=>some (.inl (w64 (a.1 + 1),g))) (some (.inr a.2))
noncomputable def qa4 (b : qa→qa→Option Int) (c : List qa) (a : Int) (d : Int) : Option (List qa):=
  (loop (qa5 d a b) (w64 (a + 1),c)).bind fun f=>some f
noncomputable def qbk (d : Int) (b : Int) (f : qa→qa→Option Int) (a : Int × List qa) : Option ((Int × List qa) ⊕ (List qa)):=
  cond (decide ((w64 ((w64 (2 * a.1)) + 1)) ≥ d)) (some (.inr a.2)) ((cond (decide ((w64 ((w64 ((w64 (2 * a.1)) + 1)) + 1)) < d)) ((idx a.2 (w64 (b + (w64 ((w64 (2 * a.1)) + 1))))).bind fun h=>(idx a.2 (w64 ((w64 (b + (w64 ((w64 (2 * a.1)) + 1)))) + 1))).bind fun j=>(f h j).bind fun k=>some (decide (k < 0))) (some false)).bind fun l=>(cond l (some (w64 ((w64 ((w64 (2 * a.1)) + 1)) + 1))) (some (w64 ((w64 (2 * a.1)) + 1)))).bind fun c=>(idx a.2 (w64 (b + a.1))).bind fun m=>(idx a.2 (w64 (b + c))).bind fun n=>(f m n).bind fun o=>cond (!(decide (o < 0))) (some (.inr a.2)) ((idx a.2 (w64 (b + c))).bind fun g=>(idx a.2 (w64 (b + a.1))).bind fun p=>(idx a.2 (w64 (b + a.1))).bind fun _=>(idx (a.2.set (w64 (b + a.1)).toNat g) (w64 (b + c))).bind fun _=>some (.inl (c,(a.2.set (w64 (b + a.1)).toNat g).set (w64 (b + c)).toNat p))))
noncomputable def q73 (a : qa→qa→Option Int) (b : List qa) (c : Int) (d : Int) (f : Int) : Option (List qa):=
  (loop (qbk d f a) (c,b)).bind fun g=>some g
noncomputable def q9w (d : qa→qa→Option Int) (f : Int) (b : Int) (a : Int × List qa) : Option ((Int × List qa) ⊕ (List qa)):=
  cond (decide (a.1 ≥ 0)) ((q73 d a.2 a.1 (w64 (f - b)) b).bind fun c=>(K0 c.length a.2.length).bind fun _=>some (.inl (w64 (a.1 - 1),c))) (some (.inr a.2))
noncomputable def q9x (b : Int) (g : qa→qa→Option Int) (a : Int × List qa) : Option ((Int × List qa) ⊕ (List qa)):=
  cond (decide (a.1 ≥ 0)) ((idx a.2 (w64 (b + a.1))).bind fun c=>(idx a.2 b).bind fun d=>(idx a.2 b).bind fun _=>(idx (a.2.set b.toNat c) (w64 (b + a.1))).bind fun _=>(q73 g ((a.2.set b.toNat c).set (w64 (b + a.1)).toNat d) 0 a.1 b).bind fun f=>(K0 f.length ((a.2.set b.toNat c).set (w64 (b + a.1)).toNat d).length).bind fun _=>some (.inl (w64 (a.1 - 1),f))) (some (.inr a.2))
noncomputable def q9v (c : qa→qa→Option Int) (d : List qa) (a : Int) (b : Int) : Option (List qa):=
  (loop (q9w c b a) (w64 (Int.tdiv (w64 ((w64 (b - a)) - 1)) 2),d)).bind fun f=>(loop (q9x a c) (w64 ((w64 (b - a)) - 1),f)).bind fun g=>some g
noncomputable def q4m (f : qa→qa→Option Int) (c : List qa) (a : Int) (b : Int) (d : Int) : Option (Int × Int × Int):=
  (idx c b).bind fun g=>(idx c a).bind fun h=>(f g h).bind fun j=>cond (decide (j < 0)) (some (b,a,w64 (d + 1))) (some (a,b,d))
noncomputable def q6l (a : qa→qa→Option Int) (b : List qa) (g : Int) (h : Int) (j : Int) (k : Int) : Option (Int × Int):=
  (q4m a b g h k).bind fun c=>(q4m a b c.2.1 j c.2.2).bind fun d=>(q4m a b c.1 d.1 d.2.2).bind fun f=>some (f.2.1,f.2.2)
noncomputable def q4j (c : qa→qa→Option Int) (d : List qa) (a : Int) (f : Int) : Option (Int × Int):=
  (q6l c d (w64 (a - 1)) a (w64 (a + 1)) f).bind fun b=>some (b.1,b.2)
noncomputable def q9q (d : List qa) (a : Int) (b : Int) (f : qa→qa→Option Int) : Option (Int × Int):=
  (cond (decide ((w64 (b - a)) ≥ 8)) ((cond (decide ((w64 (b - a)) ≥ 50)) ((q4j f d (w64 (a + (w64 ((w64 (Int.tdiv (w64 (b - a)) 4)) * 1)))) 0).bind fun h=>(q4j f d (w64 (a + (w64 ((w64 (Int.tdiv (w64 (b - a)) 4)) * 2)))) h.2).bind fun j=>(q4j f d (w64 (a + (w64 ((w64 (Int.tdiv (w64 (b - a)) 4)) * 3)))) j.2).bind fun k=>some (h.1,j.1,k.1,k.2)) (some (w64 (a + (w64 ((w64 (Int.tdiv (w64 (b - a)) 4)) * 1))),w64 (a + (w64 ((w64 (Int.tdiv (w64 (b - a)) 4)) * 2))),w64 (a + (w64 ((w64 (Int.tdiv (w64 (b - a)) 4)) * 3))),0))).bind fun g=>(q6l f d g.1 g.2.1 g.2.2.1 g.2.2.2).bind fun l=>some (l.1,l.2)) (some (w64 (a + (w64 ((w64 (Int.tdiv (w64 (b - a)) 4)) * 2))),0))).bind fun c=>cond (c.2 == 0) (some (c.1,1)) (cond (c.2 == 12) (some (c.1,2)) (some (c.1,0)))
noncomputable def qbg (a : Int × Int × List qa) : Option ((Int × Int × List qa) ⊕ (List qa)):=
  cond (decide (a.1 < a.2.1)) ((idx a.2.2 a.2.1).bind fun b=>(idx a.2.2 a.1).bind fun c=>(idx a.2.2 a.1).bind fun _=>(idx (a.2.2.set a.1.toNat b) a.2.1).bind fun _=>some (.inl (w64 (a.1 + 1),w64 (a.2.1 - 1),(a.2.2.set a.1.toNat b).set a.2.1.toNat c))) (some (.inr a.2.2))
noncomputable def qbf (f : qa→qa→Option Int) (a : List qa) (b : Int) (c : Int) : Option (List qa):=
  (loop qbg (b,w64 (c - 1),a)).bind fun d=>some d
noncomputable def qad (c : Int) (b : Int × Int × List qa) (d : qa→qa→Option Int) (a : Int) : Option ((Int) ⊕ (Int)):=
  (cond (decide (a < c)) ((idx b.2.2 a).bind fun f=>(idx b.2.2 (w64 (a - 1))).bind fun g=>(d f g).bind fun h=>some (!(decide (h < 0)))) (some false)).bind fun j=>cond j (some (.inl (w64 (a + 1)))) (some (.inr a))
noncomputable def qae (c : qa→qa→Option Int) (a : Int × List qa) : Option ((Int × List qa) ⊕ (List qa)):=
  cond (decide (a.1 ≥ 1)) ((idx a.2 a.1).bind fun d=>(idx a.2 (w64 (a.1 - 1))).bind fun f=>(c d f).bind fun g=>cond (!(decide (g < 0))) (some (.inr a.2)) ((idx a.2 (w64 (a.1 - 1))).bind fun b=>(idx a.2 a.1).bind fun h=>(idx a.2 a.1).bind fun _=>(idx (a.2.set a.1.toNat b) (w64 (a.1 - 1))).bind fun _=>some (.inl (w64 (a.1 - 1),(a.2.set a.1.toNat b).set (w64 (a.1 - 1)).toNat h)))) (some (.inr a.2))
noncomputable def qaf (d : Int) (f : qa→qa→Option Int) (b : Int) (a : Int × List qa) : Option ((Int × List qa) ⊕ (Int × List qa)):=
  cond (decide (a.1 < d)) ((idx a.2 a.1).bind fun g=>(idx a.2 (w64 (a.1 - 1))).bind fun h=>(f g h).bind fun j=>cond (!(decide (j < 0))) (some (.inr (b,a.2))) ((idx a.2 (w64 (a.1 - 1))).bind fun c=>(idx a.2 a.1).bind fun k=>(idx a.2 a.1).bind fun _=>(idx (a.2.set a.1.toNat c) (w64 (a.1 - 1))).bind fun _=>some (.inl (w64 (a.1 + 1),(a.2.set a.1.toNat c).set (w64 (a.1 - 1)).toNat k)))) (some (.inr (b,a.2)))
noncomputable def q6q (c : Int) (d : qa→qa→Option Int) (h : Int) (b : Int × Int × List qa) : Option ((Int × Int × List qa) ⊕ ((List qa) ⊕ (Bool × List qa))):=
  cond (decide (b.2.1 < 5)) (((loop (qad c b d) b.1).bind fun a=>cond (a == c) (some (.inr (true,b.2.2))) (cond (decide ((w64 (c - h)) < 50)) (some (.inr (false,b.2.2))) ((idx b.2.2 (w64 (a - 1))).bind fun f=>(idx b.2.2 a).bind fun j=>(idx b.2.2 a).bind fun _=>(idx (b.2.2.set a.toNat f) (w64 (a - 1))).bind fun _=>(cond (decide ((w64 (a - h)) ≥ 2)) ((loop (qae d) (w64 (a - 1),(b.2.2.set a.toNat f).set (w64 (a - 1)).toNat j)).bind fun g=>some g) (some ((b.2.2.set a.toNat f).set (w64 (a - 1)).toNat j))).bind fun k=>cond (decide ((w64 (c - a)) ≥ 2)) ((loop (qaf c d a) (w64 (a + 1),k)).bind fun g=>some (.inl g)) (some (.inl (a,k))))) : Option ((Int × List qa) ⊕ (Bool × List qa))).bind fun m=>(match m with | .inl l=>some (.inl (l.1,w64 (b.2.1 + 1),l.2)) | .inr n=>some (.inr (.inr n)))) (some (.inr (.inl b.2.2)))
noncomputable def q6p (b : qa→qa→Option Int) (c : List qa) (a : Int) (d : Int) : Option (Bool × List qa):=
  (loop (q6q d b a) (w64 (a + 1),0,c) : Option ((List qa) ⊕ (Bool × List qa))).bind fun f=>(match f with | .inl g=>some (false,g) | .inr h=>some h)
noncomputable def qb7 (b : Int × Int × List qa) (c : Int) (d : qa→qa→Option Int) (a : Int) : Option ((Int) ⊕ (Int)):=
  (cond (decide (a≤b.2.1)) ((idx b.2.2 c).bind fun f=>(idx b.2.2 a).bind fun g=>(d f g).bind fun h=>some (!(decide (h < 0)))) (some false)).bind fun j=>cond j (some (.inl (w64 (a + 1)))) (some (.inr a))
noncomputable def qb8 (c : Int) (b : Int × Int × List qa) (d : Int) (f : qa→qa→Option Int) (a : Int) : Option ((Int) ⊕ (Int)):=
  (cond (decide (c≤a)) ((idx b.2.2 d).bind fun g=>(idx b.2.2 a).bind fun h=>(f g h).bind fun j=>some (decide (j < 0))) (some false)).bind fun k=>cond k (some (.inl (w64 (a - 1)))) (some (.inr a))
noncomputable def qb6 (d : Int) (f : qa→qa→Option Int) (a : Int × Int × List qa) : Option ((Int × Int × List qa) ⊕ (Int × List qa)):=
  (loop (qb7 a d f) a.1).bind fun b=>(loop (qb8 b a d f) a.2.1).bind fun c=>cond (decide (b > c)) (some (.inr (b,a.2.2))) ((idx a.2.2 c).bind fun g=>(idx a.2.2 b).bind fun h=>(idx a.2.2 b).bind fun _=>(idx (a.2.2.set b.toNat g) c).bind fun _=>some (.inl (w64 (b + 1),w64 (c - 1),(a.2.2.set b.toNat g).set c.toNat h)))
noncomputable def qb5 (g : qa→qa→Option Int) (b : List qa) (a : Int) (h : Int) (c : Int) : Option (Int × List qa):=
  (idx b c).bind fun d=>(idx b a).bind fun j=>(idx b a).bind fun _=>(idx (b.set a.toNat d) c).bind fun _=>(loop (qb6 a g) (w64 (a + 1),w64 (h - 1),(b.set a.toNat d).set c.toNat j)).bind fun f=>some (f.1,f.2)
noncomputable def qaq (h : Int) (c : List qa) (b : Int) (d : qa) (f : Int) (g : qa) (j : qa→qa→Option Int) (a : Int) : Option ((Int) ⊕ (Int)):=
  (cond (decide (a≤(w64 (h - 1)))) ((idx ((c.set b.toNat d).set f.toNat g) a).bind fun k=>(idx ((c.set b.toNat d).set f.toNat g) b).bind fun l=>(j k l).bind fun m=>some (decide (m < 0))) (some false)).bind fun n=>cond n (some (.inl (w64 (a + 1)))) (some (.inr a))
noncomputable def qar (h : Int) (c : List qa) (b : Int) (d : qa) (f : Int) (g : qa) (j : qa→qa→Option Int) (a : Int) : Option ((Int) ⊕ (Int)):=
  (cond (decide (h≤a)) ((idx ((c.set b.toNat d).set f.toNat g) a).bind fun k=>(idx ((c.set b.toNat d).set f.toNat g) b).bind fun l=>(j k l).bind fun m=>some (!(decide (m < 0)))) (some false)).bind fun n=>cond n (some (.inl (w64 (a - 1)))) (some (.inr a))
noncomputable def qat (b : Int × Int × List qa) (c : Int) (d : qa→qa→Option Int) (a : Int) : Option ((Int) ⊕ (Int)):=
  (cond (decide (a≤b.2.1)) ((idx b.2.2 a).bind fun f=>(idx b.2.2 c).bind fun g=>(d f g).bind fun h=>some (decide (h < 0))) (some false)).bind fun j=>cond j (some (.inl (w64 (a + 1)))) (some (.inr a))
noncomputable def qau (c : Int) (b : Int × Int × List qa) (d : Int) (f : qa→qa→Option Int) (a : Int) : Option ((Int) ⊕ (Int)):=
  (cond (decide (c≤a)) ((idx b.2.2 a).bind fun g=>(idx b.2.2 d).bind fun h=>(f g h).bind fun j=>some (!(decide (j < 0)))) (some false)).bind fun k=>cond k (some (.inl (w64 (a - 1)))) (some (.inr a))
noncomputable def qas (d : Int) (f : qa→qa→Option Int) (a : Int × Int × List qa) : Option ((Int × Int × List qa) ⊕ (Int × List qa)):=
  (loop (qat a d f) a.1).bind fun b=>(loop (qau b a d f) a.2.1).bind fun c=>cond (decide (b > c)) (some (.inr (c,a.2.2))) ((idx a.2.2 c).bind fun g=>(idx a.2.2 b).bind fun h=>(idx a.2.2 b).bind fun _=>(idx (a.2.2.set b.toNat g) c).bind fun _=>some (.inl (w64 (b + 1),w64 (c - 1),(a.2.2.set b.toNat g).set c.toNat h)))
noncomputable def qap (k : qa→qa→Option Int) (b : List qa) (a : Int) (l : Int) (c : Int) : Option (Int × Bool × List qa):=
  (idx b c).bind fun d=>(idx b a).bind fun f=>(idx b a).bind fun _=>(idx (b.set a.toNat d) c).bind fun _=>(loop (qaq l b a d c f k) (w64 (a + 1))).bind fun j=>(loop (qar j b a d c f k) (w64 (l - 1))).bind fun g=>cond (decide (j > g)) ((idx ((b.set a.toNat d).set c.toNat f) a).bind fun m=>(idx ((b.set a.toNat d).set c.toNat f) g).bind fun p=>(idx ((b.set a.toNat d).set c.toNat f) g).bind fun _=>(idx (((b.set a.toNat d).set c.toNat f).set g.toNat m) a).bind fun _=>some (g,true,(((b.set a.toNat d).set c.toNat f).set g.toNat m).set a.toNat p)) ((idx ((b.set a.toNat d).set c.toNat f) g).bind fun n=>(idx ((b.set a.toNat d).set c.toNat f) j).bind fun q=>(idx ((b.set a.toNat d).set c.toNat f) j).bind fun _=>(idx (((b.set a.toNat d).set c.toNat f).set j.toNat n) g).bind fun _=>(loop (qas a k) (w64 (j + 1),w64 (g - 1),(((b.set a.toNat d).set c.toNat f).set j.toNat n).set g.toNat q)).bind fun h=>(idx h.2 a).bind fun o=>(idx h.2 h.1).bind fun r=>(idx h.2 h.1).bind fun _=>(idx (h.2.set h.1.toNat o) a).bind fun _=>some (h.1,false,(h.2.set h.1.toNat o).set a.toNat r))
noncomputable def q9m (b : Int) (d : Int) (f : Int) (a : Int × List qa × Int) : Option ((Int × List qa × Int) ⊕ (List qa)):=
  cond (decide (a.1≤(w64 ((w64 (b + (w64 ((w64 (Int.tdiv (w64 (d - b)) 4)) * 2)))) + 1)))) ((Uw a.2.2).bind fun c=>(cond (decide ((w64 (andI .u64 c (IntKind.wrap .u64 (f - 1)))) ≥ (w64 (d - b)))) (some (w64 ((w64 (andI .u64 c (IntKind.wrap .u64 (f - 1)))) - (w64 (d - b))))) (some (w64 (andI .u64 c (IntKind.wrap .u64 (f - 1)))))).bind fun g=>(idx a.2.1 (w64 (b + g))).bind fun h=>(idx a.2.1 a.1).bind fun j=>(idx a.2.1 a.1).bind fun _=>(idx (a.2.1.set a.1.toNat h) (w64 (b + g))).bind fun _=>some (.inl (w64 (a.1 + 1),(a.2.1.set a.1.toNat h).set (w64 (b + g)).toNat j,c))) (some (.inr a.2.1))
noncomputable def q9l (g : qa→qa→Option Int) (c : List qa) (a : Int) (b : Int) : Option (List qa):=
  cond (decide ((w64 (b - a)) ≥ 8)) ((Uv (w64 (b - a))).bind fun d=>(loop (q9m a b d) (w64 ((w64 (a + (w64 ((w64 (Int.tdiv (w64 (b - a)) 4)) * 2)))) - 1),c,IntKind.wrap .u64 (w64 (b - a)))).bind fun f=>some f) (some c)
noncomputable def q6x (c : qa→qa→Option Int) (rec : List qa→Int→Int→Int→Option (List qa)) (a : Int × Int × Int × Bool × Bool × List qa) : Option ((Int × Int × Int × Bool × Bool × List qa) ⊕ (List qa)):=
  cond (decide ((w64 (a.2.1 - a.1))≤12)) ((qa4 c a.2.2.2.2.2 a.1 a.2.1).bind fun l=>(K0 l.length a.2.2.2.2.2.length).bind fun _=>some (.inr l)) (cond (a.2.2.1 == 0) ((q9v c a.2.2.2.2.2 a.1 a.2.1).bind fun m=>(K0 m.length a.2.2.2.2.2.length).bind fun _=>some (.inr m)) ((cond (!a.2.2.2.1) ((q9l c a.2.2.2.2.2 a.1 a.2.1).bind fun n=>(K0 n.length a.2.2.2.2.2.length).bind fun _=>some (w64 (a.2.2.1 - 1),n)) (some (a.2.2.1,a.2.2.2.2.2))).bind fun d=>(q9q d.2 a.1 a.2.1 c).bind fun h=>(cond (h.2 == 2) ((qbf c d.2 a.1 a.2.1).bind fun o=>(K0 o.length d.2.length).bind fun _=>some (w64 ((w64 (a.2.1 - 1)) - (w64 (h.1 - a.1))),1,o)) (some (h.1,h.2,d.2))).bind fun f=>(cond a.2.2.2.1 (some a.2.2.2.2.1) (some false)).bind fun r=>(cond r (some (f.2.1 == 1)) (some false)).bind fun s=>(cond s ((q6p c f.2.2 a.1 a.2.1).bind fun j=>(K0 j.2.length f.2.2.length).bind fun _=>cond j.1 (some (.inr j.2)) (some (.inl j.2))) (some (.inl f.2.2)) : Option ((List qa) ⊕ (List qa))).bind fun t=>(match t with | .inl g=>(cond (decide (a.1 > 0)) ((idx g (w64 (a.1 - 1))).bind fun u=>(idx g f.1).bind fun v=>(c u v).bind fun w=>some (!(decide (w < 0)))) (some false)).bind fun x=>cond x ((qb5 c g a.1 a.2.1 f.1).bind fun k=>(K0 k.2.length g.length).bind fun _=>some (.inl (k.1,a.2.1,d.1,a.2.2.2.1,a.2.2.2.2.1,k.2))) ((qap c g a.1 a.2.1 f.1).bind fun b=>(K0 b.2.2.length g.length).bind fun _=>cond (decide ((w64 (b.1 - a.1)) < (w64 (a.2.1 - b.1)))) ((rec b.2.2 a.1 b.1 d.1).bind fun p=>(K0 p.length b.2.2.length).bind fun _=>some (.inl (w64 (b.1 + 1),a.2.1,d.1,decide ((w64 (b.1 - a.1)) ≥ (w64 (Int.tdiv (w64 (a.2.1 - a.1)) 8))),b.2.1,p))) ((rec b.2.2 (w64 (b.1 + 1)) a.2.1 d.1).bind fun q=>(K0 q.length b.2.2.length).bind fun _=>some (.inl (a.1,b.1,d.1,decide ((w64 (a.2.1 - b.1)) ≥ (w64 (Int.tdiv (w64 (a.2.1 - a.1)) 8))),b.2.1,q)))) | .inr y=>some (.inr y))))
noncomputable def q6y (rec : List qa→Int→Int→Int→Option (List qa)) (a : qa→qa→Option Int) (b : List qa) (c : Int) (d : Int) (f : Int) : Option (List qa):=
  (loop (q6x a rec) (c,d,f,true,true,b)).bind fun g=>some g
noncomputable def q6w : Nat→(qa→qa→Option Int)→List qa→Int→Int→Int→Option (List qa)
  | 0,_,_,_,_,_=>none
  | n + 1,a,b,c,d,f=>q6y (q6w n a) a b c d f
noncomputable def q6i (c : qa→qa→Option Int) (a : List qa) : Option (List qa):=
  (U8 (IntKind.wrap .u64 (a.length : Int))).bind fun d=>(lim (fun n=>q6w n c a 0 (a.length : Int) d)).bind fun b=>(K0 b.length a.length).bind fun _=>some b
noncomputable def q3n (c : qh) (b : Int × List qh) (d : (List (qa × Bool))) (a : Int × List qh) : Option (((List (qa × Bool))) ⊕ (Empty)):=
  (cond (decide (a.1 > c.Lo)) (some (decide (a.1 < c.Hi))) (some false)).bind fun f=>(cond f ((q1s a.2 b.1).bind fun g=>(cond g (some true) ((q1s a.2 (w64 (b.1 - 1))).bind fun h=>some h)).bind fun j=>some j) (some false)).bind fun k=>cond k (some (.inl (Ka ({X:=a.1,Y:=b.1} : qa) true d))) (some (.inl d))
noncomputable def q3m (a : Int × List qh) (b : Y8) (c : Int × (List (qa × Bool))) : Option ((Int × (List (qa × Bool))) ⊕ (((List (qa × Bool))) ⊕ (List qa × Bool))):=
  cond (decide (c.1 < (a.2.length : Int))) ((idx a.2 c.1).bind fun d=>(q3l ({X:=d.Lo,Y:=a.1} : qa) b.rows_ b.columns_ c.2).bind fun h=>(q3l ({X:=d.Hi,Y:=a.1} : qa) b.rows_ b.columns_ h).bind fun f=>(Uu (fun (x y : (List (qa × Bool)))=>List.Perm x y) (q3n d a) b.columns_ (f : (List (qa × Bool)))).bind fun _=>(Ko (q3n d a) b.columns_ (f : (List (qa × Bool)))).bind fun j=>(match j with | .inl g=>cond (decide ((g.length : Int) > 400)) (some (.inr (.inr ([],false)))) (some (.inl (w64 (c.1 + 1),g))) | .inr k=>k.elim)) (some (.inr (.inl c.2)))
noncomputable def q10 (a : Y8) (b : (List (qa × Bool))) (c : Int × List qh) : Option (((List (qa × Bool))) ⊕ (List qa × Bool)):=
  (loop (q3m c a) (0,b) : Option (((List (qa × Bool))) ⊕ (List qa × Bool))).bind fun d=>(match d with | .inl f=>some (.inl f) | .inr g=>some (.inr g))
noncomputable def q4w (b : Int × List qh) (c : Y8) (a : Int × (List (qa × Bool))) : Option ((Int × (List (qa × Bool))) ⊕ ((List (qa × Bool)))):=
  cond (decide (a.1 < (b.2.length : Int))) ((idx b.2 a.1).bind fun d=>(q3l ({X:=b.1,Y:=d.Lo} : qa) c.rows_ c.columns_ a.2).bind fun f=>(q3l ({X:=b.1,Y:=d.Hi} : qa) c.rows_ c.columns_ f).bind fun g=>some (.inl (w64 (a.1 + 1),g))) (some (.inr a.2))
noncomputable def q3o (a : Y8) (b : (List (qa × Bool))) (c : Int × List qh) : Option (((List (qa × Bool))) ⊕ (Empty)):=
  (loop (q4w c a) (0,b)).bind fun d=>some (.inl d)
noncomputable def q2q (a : List qa) (b : qa × Bool) : Option ((List qa) ⊕ Empty):=
  (app 16 a [b.1]).bind fun c=>some (.inl c)
noncomputable def q3p (a : List qa) : Option (List qa × Bool):=
  (q6i (fun c d=>q1v c d) a).bind fun b=>(K0 b.length a.length).bind fun _=>some (b,decide ((a.length : Int)≤400))
noncomputable def q7d (a : Y8) : Option (List qa × Bool):=
  (Uu (fun (x y : (List (qa × Bool)))=>List.Perm x y) (q10 a) a.rows_ (([] : List (qa × Bool)) : (List (qa × Bool)))).bind fun _=>(Ko (q10 a) a.rows_ (([] : List (qa × Bool)) : (List (qa × Bool)))).bind fun f=>(match f with | .inl c=>(Uu (fun (x y : (List (qa × Bool)))=>List.Perm x y) (q3o a) a.columns_ (c : (List (qa × Bool)))).bind fun _=>(Ko (q3o a) a.columns_ (c : (List (qa × Bool)))).bind fun g=>(match g with | .inl d=>(q4g (fun l=>(Ko (q2q) l (([] : List qa) : List qa)).bind (q7f (q3p))) d).bind fun _=>(Ko (q2q) d (([] : List qa) : List qa)).bind (q7f (q3p)) | .inr b=>b.elim) | .inr b=>some b)
noncomputable def q2p (a : qj) (b : qj) : Option Int:=
  (q1v ({X:=a.A,Y:=a.B} : qa) ({X:=b.A,Y:=b.B} : qa)).bind fun c=>some c
noncomputable def qa3 (c : Int) (d : qj→qj→Option Int) (a : Int × List qj) : Option ((Int × List qj) ⊕ (List qj)):=
  (cond (decide (a.1 > c)) ((idx a.2 a.1).bind fun f=>(idx a.2 (w64 (a.1 - 1))).bind fun g=>(d f g).bind fun h=>some (decide (h < 0))) (some false)).bind fun j=>cond j ((idx a.2 (w64 (a.1 - 1))).bind fun b=>(idx a.2 a.1).bind fun k=>(idx a.2 a.1).bind fun _=>(idx (a.2.set a.1.toNat b) (w64 (a.1 - 1))).bind fun _=>some (.inl (w64 (a.1 - 1),(a.2.set a.1.toNat b).set (w64 (a.1 - 1)).toNat k))) (some (.inr a.2))
noncomputable def qa2 (b : Int) (c : Int) (d : qj→qj→Option Int) (a : Int × List qj) : Option ((Int × List qj) ⊕ (List qj)):=
  cond (decide (a.1 < b)) (((loop (qa3 c d) (a.1,a.2)).bind fun f=>some f).bind fun g=>some (.inl (w64 (a.1 + 1),g))) (some (.inr a.2))
noncomputable def qa1 (b : qj→qj→Option Int) (c : List qj) (a : Int) (d : Int) : Option (List qj):=
  (loop (qa2 d a b) (w64 (a + 1),c)).bind fun f=>some f
noncomputable def qbj (d : Int) (b : Int) (f : qj→qj→Option Int) (a : Int × List qj) : Option ((Int × List qj) ⊕ (List qj)):=
  cond (decide ((w64 ((w64 (2 * a.1)) + 1)) ≥ d)) (some (.inr a.2)) ((cond (decide ((w64 ((w64 ((w64 (2 * a.1)) + 1)) + 1)) < d)) ((idx a.2 (w64 (b + (w64 ((w64 (2 * a.1)) + 1))))).bind fun h=>(idx a.2 (w64 ((w64 (b + (w64 ((w64 (2 * a.1)) + 1)))) + 1))).bind fun j=>(f h j).bind fun k=>some (decide (k < 0))) (some false)).bind fun l=>(cond l (some (w64 ((w64 ((w64 (2 * a.1)) + 1)) + 1))) (some (w64 ((w64 (2 * a.1)) + 1)))).bind fun c=>(idx a.2 (w64 (b + a.1))).bind fun m=>(idx a.2 (w64 (b + c))).bind fun n=>(f m n).bind fun o=>cond (!(decide (o < 0))) (some (.inr a.2)) ((idx a.2 (w64 (b + c))).bind fun g=>(idx a.2 (w64 (b + a.1))).bind fun p=>(idx a.2 (w64 (b + a.1))).bind fun _=>(idx (a.2.set (w64 (b + a.1)).toNat g) (w64 (b + c))).bind fun _=>some (.inl (c,(a.2.set (w64 (b + a.1)).toNat g).set (w64 (b + c)).toNat p))))
noncomputable def q72 (a : qj→qj→Option Int) (b : List qj) (c : Int) (d : Int) (f : Int) : Option (List qj):=
  (loop (qbj d f a) (c,b)).bind fun g=>some g
noncomputable def q9t (d : qj→qj→Option Int) (f : Int) (b : Int) (a : Int × List qj) : Option ((Int × List qj) ⊕ (List qj)):=
  cond (decide (a.1 ≥ 0)) ((q72 d a.2 a.1 (w64 (f - b)) b).bind fun c=>(K0 c.length a.2.length).bind fun _=>some (.inl (w64 (a.1 - 1),c))) (some (.inr a.2))
noncomputable def q9u (b : Int) (g : qj→qj→Option Int) (a : Int × List qj) : Option ((Int × List qj) ⊕ (List qj)):=
  cond (decide (a.1 ≥ 0)) ((idx a.2 (w64 (b + a.1))).bind fun c=>(idx a.2 b).bind fun d=>(idx a.2 b).bind fun _=>(idx (a.2.set b.toNat c) (w64 (b + a.1))).bind fun _=>(q72 g ((a.2.set b.toNat c).set (w64 (b + a.1)).toNat d) 0 a.1 b).bind fun f=>(K0 f.length ((a.2.set b.toNat c).set (w64 (b + a.1)).toNat d).length).bind fun _=>some (.inl (w64 (a.1 - 1),f))) (some (.inr a.2))
noncomputable def q9s (c : qj→qj→Option Int) (d : List qj) (a : Int) (b : Int) : Option (List qj):=
  (loop (q9t c b a) (w64 (Int.tdiv (w64 ((w64 (b - a)) - 1)) 2),d)).bind fun f=>(loop (q9u a c) (w64 ((w64 (b - a)) - 1),f)).bind fun g=>some g
noncomputable def q4l (f : qj→qj→Option Int) (c : List qj) (a : Int) (b : Int) (d : Int) : Option (Int × Int × Int):=
  (idx c b).bind fun g=>(idx c a).bind fun h=>(f g h).bind fun j=>cond (decide (j < 0)) (some (b,a,w64 (d + 1))) (some (a,b,d))
noncomputable def q6k (a : qj→qj→Option Int) (b : List qj) (g : Int) (h : Int) (j : Int) (k : Int) : Option (Int × Int):=
  (q4l a b g h k).bind fun c=>(q4l a b c.2.1 j c.2.2).bind fun d=>(q4l a b c.1 d.1 d.2.2).bind fun f=>some (f.2.1,f.2.2)
noncomputable def q4i (c : qj→qj→Option Int) (d : List qj) (a : Int) (f : Int) : Option (Int × Int):=
  (q6k c d (w64 (a - 1)) a (w64 (a + 1)) f).bind fun b=>some (b.1,b.2)
noncomputable def q9p (d : List qj) (a : Int) (b : Int) (f : qj→qj→Option Int) : Option (Int × Int):=
  (cond (decide ((w64 (b - a)) ≥ 8)) ((cond (decide ((w64 (b - a)) ≥ 50)) ((q4i f d (w64 (a + (w64 ((w64 (Int.tdiv (w64 (b - a)) 4)) * 1)))) 0).bind fun h=>(q4i f d (w64 (a + (w64 ((w64 (Int.tdiv (w64 (b - a)) 4)) * 2)))) h.2).bind fun j=>(q4i f d (w64 (a + (w64 ((w64 (Int.tdiv (w64 (b - a)) 4)) * 3)))) j.2).bind fun k=>some (h.1,j.1,k.1,k.2)) (some (w64 (a + (w64 ((w64 (Int.tdiv (w64 (b - a)) 4)) * 1))),w64 (a + (w64 ((w64 (Int.tdiv (w64 (b - a)) 4)) * 2))),w64 (a + (w64 ((w64 (Int.tdiv (w64 (b - a)) 4)) * 3))),0))).bind fun g=>(q6k f d g.1 g.2.1 g.2.2.1 g.2.2.2).bind fun l=>some (l.1,l.2)) (some (w64 (a + (w64 ((w64 (Int.tdiv (w64 (b - a)) 4)) * 2))),0))).bind fun c=>cond (c.2 == 0) (some (c.1,1)) (cond (c.2 == 12) (some (c.1,2)) (some (c.1,0)))
noncomputable def qbe (a : Int × Int × List qj) : Option ((Int × Int × List qj) ⊕ (List qj)):=
  cond (decide (a.1 < a.2.1)) ((idx a.2.2 a.2.1).bind fun b=>(idx a.2.2 a.1).bind fun c=>(idx a.2.2 a.1).bind fun _=>(idx (a.2.2.set a.1.toNat b) a.2.1).bind fun _=>some (.inl (w64 (a.1 + 1),w64 (a.2.1 - 1),(a.2.2.set a.1.toNat b).set a.2.1.toNat c))) (some (.inr a.2.2))
noncomputable def qbd (f : qj→qj→Option Int) (a : List qj) (b : Int) (c : Int) : Option (List qj):=
  (loop qbe (b,w64 (c - 1),a)).bind fun d=>some d
noncomputable def qaa (c : Int) (b : Int × Int × List qj) (d : qj→qj→Option Int) (a : Int) : Option ((Int) ⊕ (Int)):=
  (cond (decide (a < c)) ((idx b.2.2 a).bind fun f=>(idx b.2.2 (w64 (a - 1))).bind fun g=>(d f g).bind fun h=>some (!(decide (h < 0)))) (some false)).bind fun j=>cond j (some (.inl (w64 (a + 1)))) (some (.inr a))
noncomputable def qab (c : qj→qj→Option Int) (a : Int × List qj) : Option ((Int × List qj) ⊕ (List qj)):=
  cond (decide (a.1 ≥ 1)) ((idx a.2 a.1).bind fun d=>(idx a.2 (w64 (a.1 - 1))).bind fun f=>(c d f).bind fun g=>cond (!(decide (g < 0))) (some (.inr a.2)) ((idx a.2 (w64 (a.1 - 1))).bind fun b=>(idx a.2 a.1).bind fun h=>(idx a.2 a.1).bind fun _=>(idx (a.2.set a.1.toNat b) (w64 (a.1 - 1))).bind fun _=>some (.inl (w64 (a.1 - 1),(a.2.set a.1.toNat b).set (w64 (a.1 - 1)).toNat h)))) (some (.inr a.2))
noncomputable def qac (d : Int) (f : qj→qj→Option Int) (b : Int) (a : Int × List qj) : Option ((Int × List qj) ⊕ (Int × List qj)):=
  cond (decide (a.1 < d)) ((idx a.2 a.1).bind fun g=>(idx a.2 (w64 (a.1 - 1))).bind fun h=>(f g h).bind fun j=>cond (!(decide (j < 0))) (some (.inr (b,a.2))) ((idx a.2 (w64 (a.1 - 1))).bind fun c=>(idx a.2 a.1).bind fun k=>(idx a.2 a.1).bind fun _=>(idx (a.2.set a.1.toNat c) (w64 (a.1 - 1))).bind fun _=>some (.inl (w64 (a.1 + 1),(a.2.set a.1.toNat c).set (w64 (a.1 - 1)).toNat k)))) (some (.inr (b,a.2)))
noncomputable def q6o (c : Int) (d : qj→qj→Option Int) (h : Int) (b : Int × Int × List qj) : Option ((Int × Int × List qj) ⊕ ((List qj) ⊕ (Bool × List qj))):=
  cond (decide (b.2.1 < 5)) (((loop (qaa c b d) b.1).bind fun a=>cond (a == c) (some (.inr (true,b.2.2))) (cond (decide ((w64 (c - h)) < 50)) (some (.inr (false,b.2.2))) ((idx b.2.2 (w64 (a - 1))).bind fun f=>(idx b.2.2 a).bind fun j=>(idx b.2.2 a).bind fun _=>(idx (b.2.2.set a.toNat f) (w64 (a - 1))).bind fun _=>(cond (decide ((w64 (a - h)) ≥ 2)) ((loop (qab d) (w64 (a - 1),(b.2.2.set a.toNat f).set (w64 (a - 1)).toNat j)).bind fun g=>some g) (some ((b.2.2.set a.toNat f).set (w64 (a - 1)).toNat j))).bind fun k=>cond (decide ((w64 (c - a)) ≥ 2)) ((loop (qac c d a) (w64 (a + 1),k)).bind fun g=>some (.inl g)) (some (.inl (a,k))))) : Option ((Int × List qj) ⊕ (Bool × List qj))).bind fun m=>(match m with | .inl l=>some (.inl (l.1,w64 (b.2.1 + 1),l.2)) | .inr n=>some (.inr (.inr n)))) (some (.inr (.inl b.2.2)))
noncomputable def q6n (b : qj→qj→Option Int) (c : List qj) (a : Int) (d : Int) : Option (Bool × List qj):=
  (loop (q6o d b a) (w64 (a + 1),0,c) : Option ((List qj) ⊕ (Bool × List qj))).bind fun f=>(match f with | .inl g=>some (false,g) | .inr h=>some h)
noncomputable def qb3 (b : Int × Int × List qj) (c : Int) (d : qj→qj→Option Int) (a : Int) : Option ((Int) ⊕ (Int)):=
  (cond (decide (a≤b.2.1)) ((idx b.2.2 c).bind fun f=>(idx b.2.2 a).bind fun g=>(d f g).bind fun h=>some (!(decide (h < 0)))) (some false)).bind fun j=>cond j (some (.inl (w64 (a + 1)))) (some (.inr a))
noncomputable def qb4 (c : Int) (b : Int × Int × List qj) (d : Int) (f : qj→qj→Option Int) (a : Int) : Option ((Int) ⊕ (Int)):=
  (cond (decide (c≤a)) ((idx b.2.2 d).bind fun g=>(idx b.2.2 a).bind fun h=>(f g h).bind fun j=>some (decide (j < 0))) (some false)).bind fun k=>cond k (some (.inl (w64 (a - 1)))) (some (.inr a))
noncomputable def qb2 (d : Int) (f : qj→qj→Option Int) (a : Int × Int × List qj) : Option ((Int × Int × List qj) ⊕ (Int × List qj)):=
  (loop (qb3 a d f) a.1).bind fun b=>(loop (qb4 b a d f) a.2.1).bind fun c=>cond (decide (b > c)) (some (.inr (b,a.2.2))) ((idx a.2.2 c).bind fun g=>(idx a.2.2 b).bind fun h=>(idx a.2.2 b).bind fun _=>(idx (a.2.2.set b.toNat g) c).bind fun _=>some (.inl (w64 (b + 1),w64 (c - 1),(a.2.2.set b.toNat g).set c.toNat h)))
noncomputable def qb1 (g : qj→qj→Option Int) (b : List qj) (a : Int) (h : Int) (c : Int) : Option (Int × List qj):=
  (idx b c).bind fun d=>(idx b a).bind fun j=>(idx b a).bind fun _=>(idx (b.set a.toNat d) c).bind fun _=>(loop (qb2 a g) (w64 (a + 1),w64 (h - 1),(b.set a.toNat d).set c.toNat j)).bind fun f=>some (f.1,f.2)
noncomputable def qak (h : Int) (c : List qj) (b : Int) (d : qj) (f : Int) (g : qj) (j : qj→qj→Option Int) (a : Int) : Option ((Int) ⊕ (Int)):=
  (cond (decide (a≤(w64 (h - 1)))) ((idx ((c.set b.toNat d).set f.toNat g) a).bind fun k=>(idx ((c.set b.toNat d).set f.toNat g) b).bind fun l=>(j k l).bind fun m=>some (decide (m < 0))) (some false)).bind fun n=>cond n (some (.inl (w64 (a + 1)))) (some (.inr a))
noncomputable def qal (h : Int) (c : List qj) (b : Int) (d : qj) (f : Int) (g : qj) (j : qj→qj→Option Int) (a : Int) : Option ((Int) ⊕ (Int)):=
  (cond (decide (h≤a)) ((idx ((c.set b.toNat d).set f.toNat g) a).bind fun k=>(idx ((c.set b.toNat d).set f.toNat g) b).bind fun l=>(j k l).bind fun m=>some (!(decide (m < 0)))) (some false)).bind fun n=>cond n (some (.inl (w64 (a - 1)))) (some (.inr a))
noncomputable def qan (b : Int × Int × List qj) (c : Int) (d : qj→qj→Option Int) (a : Int) : Option ((Int) ⊕ (Int)):=
  (cond (decide (a≤b.2.1)) ((idx b.2.2 a).bind fun f=>(idx b.2.2 c).bind fun g=>(d f g).bind fun h=>some (decide (h < 0))) (some false)).bind fun j=>cond j (some (.inl (w64 (a + 1)))) (some (.inr a))
noncomputable def qao (c : Int) (b : Int × Int × List qj) (d : Int) (f : qj→qj→Option Int) (a : Int) : Option ((Int) ⊕ (Int)):=
  (cond (decide (c≤a)) ((idx b.2.2 a).bind fun g=>(idx b.2.2 d).bind fun h=>(f g h).bind fun j=>some (!(decide (j < 0)))) (some false)).bind fun k=>cond k (some (.inl (w64 (a - 1)))) (some (.inr a))
noncomputable def qam (d : Int) (f : qj→qj→Option Int) (a : Int × Int × List qj) : Option ((Int × Int × List qj) ⊕ (Int × List qj)):=
  (loop (qan a d f) a.1).bind fun b=>(loop (qao b a d f) a.2.1).bind fun c=>cond (decide (b > c)) (some (.inr (c,a.2.2))) ((idx a.2.2 c).bind fun g=>(idx a.2.2 b).bind fun h=>(idx a.2.2 b).bind fun _=>(idx (a.2.2.set b.toNat g) c).bind fun _=>some (.inl (w64 (b + 1),w64 (c - 1),(a.2.2.set b.toNat g).set c.toNat h)))
noncomputable def qaj (k : qj→qj→Option Int) (b : List qj) (a : Int) (l : Int) (c : Int) : Option (Int × Bool × List qj):=
  (idx b c).bind fun d=>(idx b a).bind fun f=>(idx b a).bind fun _=>(idx (b.set a.toNat d) c).bind fun _=>(loop (qak l b a d c f k) (w64 (a + 1))).bind fun j=>(loop (qal j b a d c f k) (w64 (l - 1))).bind fun g=>cond (decide (j > g)) ((idx ((b.set a.toNat d).set c.toNat f) a).bind fun m=>(idx ((b.set a.toNat d).set c.toNat f) g).bind fun p=>(idx ((b.set a.toNat d).set c.toNat f) g).bind fun _=>(idx (((b.set a.toNat d).set c.toNat f).set g.toNat m) a).bind fun _=>some (g,true,(((b.set a.toNat d).set c.toNat f).set g.toNat m).set a.toNat p)) ((idx ((b.set a.toNat d).set c.toNat f) g).bind fun n=>(idx ((b.set a.toNat d).set c.toNat f) j).bind fun q=>(idx ((b.set a.toNat d).set c.toNat f) j).bind fun _=>(idx (((b.set a.toNat d).set c.toNat f).set j.toNat n) g).bind fun _=>(loop (qam a k) (w64 (j + 1),w64 (g - 1),(((b.set a.toNat d).set c.toNat f).set j.toNat n).set g.toNat q)).bind fun h=>(idx h.2 a).bind fun o=>(idx h.2 h.1).bind fun r=>(idx h.2 h.1).bind fun _=>(idx (h.2.set h.1.toNat o) a).bind fun _=>some (h.1,false,(h.2.set h.1.toNat o).set a.toNat r))
noncomputable def q9k (b : Int) (d : Int) (f : Int) (a : Int × List qj × Int) : Option ((Int × List qj × Int) ⊕ (List qj)):=
  cond (decide (a.1≤(w64 ((w64 (b + (w64 ((w64 (Int.tdiv (w64 (d - b)) 4)) * 2)))) + 1)))) ((Uw a.2.2).bind fun c=>(cond (decide ((w64 (andI .u64 c (IntKind.wrap .u64 (f - 1)))) ≥ (w64 (d - b)))) (some (w64 ((w64 (andI .u64 c (IntKind.wrap .u64 (f - 1)))) - (w64 (d - b))))) (some (w64 (andI .u64 c (IntKind.wrap .u64 (f - 1)))))).bind fun g=>(idx a.2.1 (w64 (b + g))).bind fun h=>(idx a.2.1 a.1).bind fun j=>(idx a.2.1 a.1).bind fun _=>(idx (a.2.1.set a.1.toNat h) (w64 (b + g))).bind fun _=>some (.inl (w64 (a.1 + 1),(a.2.1.set a.1.toNat h).set (w64 (b + g)).toNat j,c))) (some (.inr a.2.1))
noncomputable def q9j (g : qj→qj→Option Int) (c : List qj) (a : Int) (b : Int) : Option (List qj):=
  cond (decide ((w64 (b - a)) ≥ 8)) ((Uv (w64 (b - a))).bind fun d=>(loop (q9k a b d) (w64 ((w64 (a + (w64 ((w64 (Int.tdiv (w64 (b - a)) 4)) * 2)))) - 1),c,IntKind.wrap .u64 (w64 (b - a)))).bind fun f=>some f) (some c)
noncomputable def q6u (c : qj→qj→Option Int) (rec : List qj→Int→Int→Int→Option (List qj)) (a : Int × Int × Int × Bool × Bool × List qj) : Option ((Int × Int × Int × Bool × Bool × List qj) ⊕ (List qj)):=
  cond (decide ((w64 (a.2.1 - a.1))≤12)) ((qa1 c a.2.2.2.2.2 a.1 a.2.1).bind fun l=>(K0 l.length a.2.2.2.2.2.length).bind fun _=>some (.inr l)) (cond (a.2.2.1 == 0) ((q9s c a.2.2.2.2.2 a.1 a.2.1).bind fun m=>(K0 m.length a.2.2.2.2.2.length).bind fun _=>some (.inr m)) ((cond (!a.2.2.2.1) ((q9j c a.2.2.2.2.2 a.1 a.2.1).bind fun n=>(K0 n.length a.2.2.2.2.2.length).bind fun _=>some (w64 (a.2.2.1 - 1),n)) (some (a.2.2.1,a.2.2.2.2.2))).bind fun d=>(q9p d.2 a.1 a.2.1 c).bind fun h=>(cond (h.2 == 2) ((qbd c d.2 a.1 a.2.1).bind fun o=>(K0 o.length d.2.length).bind fun _=>some (w64 ((w64 (a.2.1 - 1)) - (w64 (h.1 - a.1))),1,o)) (some (h.1,h.2,d.2))).bind fun f=>(cond a.2.2.2.1 (some a.2.2.2.2.1) (some false)).bind fun r=>(cond r (some (f.2.1 == 1)) (some false)).bind fun s=>(cond s ((q6n c f.2.2 a.1 a.2.1).bind fun j=>(K0 j.2.length f.2.2.length).bind fun _=>cond j.1 (some (.inr j.2)) (some (.inl j.2))) (some (.inl f.2.2)) : Option ((List qj) ⊕ (List qj))).bind fun t=>(match t with | .inl g=>(cond (decide (a.1 > 0)) ((idx g (w64 (a.1 - 1))).bind fun u=>(idx g f.1).bind fun v=>(c u v).bind fun w=>some (!(decide (w < 0)))) (some false)).bind fun x=>cond x ((qb1 c g a.1 a.2.1 f.1).bind fun k=>(K0 k.2.length g.length).bind fun _=>some (.inl (k.1,a.2.1,d.1,a.2.2.2.1,a.2.2.2.2.1,k.2))) ((qaj c g a.1 a.2.1 f.1).bind fun b=>(K0 b.2.2.length g.length).bind fun _=>cond (decide ((w64 (b.1 - a.1)) < (w64 (a.2.1 - b.1)))) ((rec b.2.2 a.1 b.1 d.1).bind fun p=>(K0 p.length b.2.2.length).bind fun _=>some (.inl (w64 (b.1 + 1),a.2.1,d.1,decide ((w64 (b.1 - a.1)) ≥ (w64 (Int.tdiv (w64 (a.2.1 - a.1)) 8))),b.2.1,p))) ((rec b.2.2 (w64 (b.1 + 1)) a.2.1 d.1).bind fun q=>(K0 q.length b.2.2.length).bind fun _=>some (.inl (a.1,b.1,d.1,decide ((w64 (a.2.1 - b.1)) ≥ (w64 (Int.tdiv (w64 (a.2.1 - a.1)) 8))),b.2.1,q)))) | .inr y=>some (.inr y))))
noncomputable def q6v (rec : List qj→Int→Int→Int→Option (List qj)) (a : qj→qj→Option Int) (b : List qj) (c : Int) (d : Int) (f : Int) : Option (List qj):=
  (loop (q6u a rec) (c,d,f,true,true,b)).bind fun g=>some g
noncomputable def q6t : Nat→(qj→qj→Option Int)→List qj→Int→Int→Int→Option (List qj)
  | 0,_,_,_,_,_=>none
  | n + 1,a,b,c,d,f=>q6v (q6t n a) a b c d f
noncomputable def q4h (c : qj→qj→Option Int) (a : List qj) : Option (List qj):=
  (U8 (IntKind.wrap .u64 (a.length : Int))).bind fun d=>(lim (fun n=>q6t n c a 0 (a.length : Int) d)).bind fun b=>(K0 b.length a.length).bind fun _=>some b
noncomputable def q3k (c : List qa × Bool) (g : Y8) (a : Int × (List (Int × Int)) × (List (Int × Int)) × List qj) : Option ((Int × (List (Int × Int)) × (List (Int × Int)) × List qj) ⊕ (List qj)):=
  cond (decide (a.1 < (c.1.length : Int))) ((idx c.1 a.1).bind fun b=>(q4v g b).bind fun d=>(cond d.2.2.1 ((app 16 a.2.2.2 [({A:=K7 0 b.Y a.2.1,B:=a.1} : qj)]).bind fun h=>some h) (some a.2.2.2)).bind fun f=>(cond d.2.2.2 ((app 16 f [({A:=K7 0 b.X a.2.2.1,B:=a.1} : qj)]).bind fun j=>some j) (some f)).bind fun k=>some (.inl (w64 (a.1 + 1),Ka b.Y a.1 a.2.1,Ka b.X a.1 a.2.2.1,k))) (some (.inr a.2.2.2))
noncomputable def q3j (f : List qr) : Option (Qh × Bool):=
  (q7b f).bind fun c=>(q7d c).bind fun a=>cond (!a.2) (some (({Nodes:=[],Edges:=[]} : Qh),false)) ((loop (q3k a c) (0,[],[],[])).bind fun b=>(q4h (fun g h=>q2p g h) b).bind fun d=>(K0 d.length b.length).bind fun _=>some (({Nodes:=a.1,Edges:=d} : Qh),decide ((b.length : Int)≤800)))
noncomputable def q6h (b : List qa) (f : List qa) (a : Int) : Option ((Int) ⊕ ((Unit) ⊕ (Bool))):=
  cond (decide (a < (b.length : Int))) ((idx b a).bind fun c=>(idx f a).bind fun d=>cond (!((c.X == d.X) && ((c.Y == d.Y) && true))) (some (.inr (.inr false))) (some (.inl (w64 (a + 1))))) (some (.inr (.inl ())))
noncomputable def q9g (a : List qa) (b : List qa) : Option Bool:=
  cond ((a.length : Int) != (b.length : Int)) (some false) ((loop (q6h a b) 0 : Option ((Unit) ⊕ (Bool))).bind fun c=>(match c with | .inl _=>some true | .inr d=>some d))
noncomputable def q6g (b : List qj) (f : List qj) (a : Int) : Option ((Int) ⊕ ((Unit) ⊕ (Bool))):=
  cond (decide (a < (b.length : Int))) ((idx b a).bind fun c=>(idx f a).bind fun d=>cond (!((c.A == d.A) && ((c.B == d.B) && true))) (some (.inr (.inr false))) (some (.inl (w64 (a + 1))))) (some (.inr (.inl ())))
noncomputable def q9f (a : List qj) (b : List qj) : Option Bool:=
  cond ((a.length : Int) != (b.length : Int)) (some false) ((loop (q6g a b) 0 : Option ((Unit) ⊕ (Bool))).bind fun c=>(match c with | .inl _=>some true | .inr d=>some d))
noncomputable def qbx (a : Qh) (b : Qh) : Option Bool:=
  (q9g a.Nodes b.Nodes).bind fun c=>(cond c ((q9f a.Edges b.Edges).bind fun d=>some d) (some false)).bind fun f=>some f
noncomputable def Uy (a : Qh) : Option Int:=
  (cond (decide ((a.Nodes.length : Int) > 400)) (some true) (some (decide ((a.Edges.length : Int) > 800)))).bind fun d=>cond d (some 4) ((q4t a).bind fun b=>cond (!b.2) (some 8) ((q3j b.1).bind fun c=>(cond (!c.2) (some true) ((qbx c.1 a).bind fun f=>some (!f))).bind fun g=>cond g (some 8) (some 0)))
noncomputable def q3i (a : Qh) : Option (List qr × Int):=
  (Uy a).bind fun b=>cond (b != 0) (some ([],b)) ((q4t a).bind fun c=>some (c.1,0))
noncomputable def q5v (a : qa) : Option Bool:=
  (cond (decide (a.X ≥ (-1000000))) (some (decide (a.X≤1000000))) (some false)).bind fun b=>(cond b (some (decide (a.Y ≥ (-1000000)))) (some false)).bind fun c=>(cond c (some (decide (a.Y≤1000000))) (some false)).bind fun d=>some d
noncomputable def q4e (a : qr) : Option Bool:=
  (cond (!((a.A.X == a.B.X) && ((a.A.Y == a.B.Y) && true))) ((cond (a.A.X == a.B.X) (some true) (some (a.A.Y == a.B.Y))).bind fun b=>some b) (some false)).bind fun c=>(cond c ((q5v a.A).bind fun d=>some d) (some false)).bind fun f=>(cond f ((q5v a.B).bind fun g=>some g) (some false)).bind fun h=>some h
noncomputable def qh6 (a : Qh) (c : Int × List qr) : Option ((Int × List qr) ⊕ ((List qr) ⊕ (List qr × Bool))):=
  cond (decide (c.1 < (a.Edges.length : Int))) ((idx a.Edges c.1).bind fun b=>(cond (decide (b.A < 0)) (some true) (some (decide (b.A ≥ (a.Nodes.length : Int))))).bind fun g=>(cond g (some true) (some (decide (b.B < 0)))).bind fun h=>(cond h (some true) (some (decide (b.B ≥ (a.Nodes.length : Int))))).bind fun j=>cond j (some (.inr (.inr ([],false)))) ((idx a.Nodes b.A).bind fun d=>(idx a.Nodes b.B).bind fun f=>(q4e ({A:=d,B:=f} : qr)).bind fun k=>cond (!k) (some (.inr (.inr ([],false)))) ((app 32 c.2 [({A:=d,B:=f} : qr)]).bind fun l=>some (.inl (w64 (c.1 + 1),l))))) (some (.inr (.inl c.2)))
noncomputable def qdy (a : Qh) : Option (List qr × Bool):=
  (loop (qh6 a) (0,[]) : Option ((List qr) ⊕ (List qr × Bool))).bind fun b=>(match b with | .inl c=>some (c,true) | .inr d=>some d)
structure Kk where
  At : Int
  Spans : List qh
  deriving DecidableEq
noncomputable def q8v (b : Int × List Int) (c : List Int) (a : Int) : Option ((Int) ⊕ (Int)):=
  (cond (decide (a > 0)) ((idx b.2 (w64 (a - 1))).bind fun d=>(idx c b.1).bind fun f=>some (decide (d > f))) (some false)).bind fun g=>cond g (some (.inl (w64 (a - 1)))) (some (.inr a))
noncomputable def q8u (d : List Int) (a : Int × List Int) : Option ((Int × List Int) ⊕ (List Int)):=
  cond (decide (a.1 < (d.length : Int))) (((loop (q8v a d) (a.2.length : Int)).bind fun c=>(cond (decide (c > 0)) ((idx a.2 (w64 (c - 1))).bind fun h=>(idx d a.1).bind fun j=>some (h == j)) (some false)).bind fun k=>cond k (some a.2) ((app 8 a.2 [0]).bind fun b=>(sub2 b.length (w64 (c + 1)) b.length).bind fun g=>(sub2 b.length c b.length).bind fun f=>(idx d a.1).bind fun l=>(idx (cpyw b g ((b.drop f.1).take f.2)) c).bind fun _=>some ((cpyw b g ((b.drop f.1).take f.2)).set c.toNat l))).bind fun m=>some (.inl (w64 (a.1 + 1),m))) (some (.inr a.2))
noncomputable def qdt (a : List Int) : Option (List Int):=
  (loop (q8u a) (0,[])).bind fun b=>some b
noncomputable def q67 (b : Int × List qh) (a : Int × Int × Int × List qh) : Option ((Int × Int × Int × List qh) ⊕ (Int × Int × List qh)):=
  cond (decide (a.1 < (b.2.length : Int))) (((idx b.2 a.1).bind fun d=>(cond (decide (d.Hi < a.2.1)) (some true) ((idx b.2 a.1).bind fun f=>some (decide (a.2.2.1 < f.Lo)))).bind fun g=>cond g ((idx b.2 a.1).bind fun h=>(app 16 a.2.2.2 [h]).bind fun j=>some (a.2.1,a.2.2.1,j)) ((idx b.2 a.1).bind fun k=>(idx b.2 a.1).bind fun l=>some (min a.2.1 k.Lo,max a.2.2.1 l.Hi,a.2.2.2))).bind fun c=>some (.inl (w64 (a.1 + 1),c.1,c.2.1,c.2.2))) (some (.inr (a.2.1,a.2.2.1,a.2.2.2)))
noncomputable def q68 (b : Int × Int × List qh) (a : Int) : Option ((Int) ⊕ (Int)):=
  (cond (decide (a < (b.2.2.length : Int))) ((idx b.2.2 a).bind fun c=>some (decide (c.Lo < b.1))) (some false)).bind fun d=>cond d (some (.inl (w64 (a + 1)))) (some (.inr a))
noncomputable def q9b (c : List qh) (b : Int × List qh) : Option ((Int × List qh) ⊕ (List qh)):=
  cond (decide (b.1 < (c.length : Int))) ((idx c b.1).bind fun d=>(loop (q67 b) (0,d.Lo,d.Hi,[])).bind fun a=>(loop (q68 a) 0).bind fun f=>(sub2 a.2.2.length 0 f).bind fun g=>(app 16 [] ((a.2.2.drop g.1).take g.2)).bind fun j=>(app 16 j [({Lo:=a.1,Hi:=a.2.1} : qh)]).bind fun k=>(sub2 a.2.2.length f a.2.2.length).bind fun h=>(app 16 k ((a.2.2.drop h.1).take h.2)).bind fun l=>some (.inl (w64 (b.1 + 1),l))) (some (.inr b.2))
noncomputable def q9a (a : List qh) : Option (List qh):=
  (loop (q9b a) (0,[])).bind fun b=>some b
noncomputable def q93 (b : List qr) (c : Bool) (a : Int × List Int) : Option ((Int × List Int) ⊕ (List Int)):=
  cond (decide (a.1 < (b.length : Int))) (((idx b a.1).bind fun d=>(idx b a.1).bind fun f=>cond ((d.A.Y == f.B.Y) == c) (cond c ((idx b a.1).bind fun g=>(app 8 a.2 [g.A.Y]).bind fun h=>some h) ((idx b a.1).bind fun j=>(app 8 a.2 [j.A.X]).bind fun k=>some k)) (some a.2)).bind fun l=>some (.inl (w64 (a.1 + 1),l))) (some (.inr a.2))
noncomputable def q95 (b : List qr) (f : Bool) (c : List Int) (d : Int × List Kk) (a : Int × List qh) : Option ((Int × List qh) ⊕ (List qh)):=
  cond (decide (a.1 < (b.length : Int))) (((cond f ((idx b a.1).bind fun g=>(idx c d.1).bind fun h=>some (g.A.Y == h)) (some false)).bind fun j=>(cond j ((idx b a.1).bind fun k=>(idx c d.1).bind fun l=>some (k.B.Y == l)) (some false)).bind fun m=>cond m ((idx b a.1).bind fun n=>(idx b a.1).bind fun o=>(idx b a.1).bind fun p=>(idx b a.1).bind fun q=>(app 16 a.2 [({Lo:=min n.A.X o.B.X,Hi:=max p.A.X q.B.X} : qh)]).bind fun r=>some r) ((cond (!f) ((idx b a.1).bind fun s=>(idx c d.1).bind fun t=>some (s.A.X == t)) (some false)).bind fun u=>(cond u ((idx b a.1).bind fun v=>(idx c d.1).bind fun w=>some (v.B.X == w)) (some false)).bind fun x=>cond x ((idx b a.1).bind fun y=>(idx b a.1).bind fun z=>(idx b a.1).bind fun aa=>(idx b a.1).bind fun ab=>(app 16 a.2 [({Lo:=min y.A.Y z.B.Y,Hi:=max aa.A.Y ab.B.Y} : qh)]).bind fun ac=>some ac) (some a.2))).bind fun ad=>some (.inl (w64 (a.1 + 1),ad))) (some (.inr a.2))
noncomputable def q94 (b : List Int) (c : List qr) (d : Bool) (a : Int × List Kk) : Option ((Int × List Kk) ⊕ (List Kk)):=
  cond (decide (a.1 < (b.length : Int))) (((cond (decide (a.1 > 0)) ((idx b a.1).bind fun f=>(idx b (w64 (a.1 - 1))).bind fun g=>some (f == g)) (some false)).bind fun h=>cond h (some a.2) ((loop (q95 c d b a) (0,[])).bind fun j=>(q9a j).bind fun k=>(idx b a.1).bind fun l=>(app 32 a.2 [({At:=l,Spans:=k} : Kk)]).bind fun m=>some m)).bind fun n=>some (.inl (w64 (a.1 + 1),n))) (some (.inr a.2))
noncomputable def qdz (a : List qr) (b : Bool) : Option (List Kk):=
  (loop (q93 a b) (0,[])).bind fun c=>(qdt c).bind fun d=>(loop (q94 d a b) (0,[])).bind fun f=>some f
noncomputable def q62 (b : List Kk) (c : Int) (d : Int) (a : Int) : Option ((Int) ⊕ ((Unit) ⊕ (Bool))):=
  (idx b c).bind fun f=>cond (decide (a < (f.Spans.length : Int))) ((idx b c).bind fun g=>(idx g.Spans a).bind fun h=>(cond (decide (h.Lo≤d)) ((idx b c).bind fun j=>(idx j.Spans a).bind fun k=>some (decide (d < k.Hi))) (some false)).bind fun l=>cond l (some (.inr (.inr true))) (some (.inl (w64 (a + 1))))) (some (.inr (.inl ())))
noncomputable def q61 (b : List Kk) (d : Int) (f : Int) (a : Int) : Option ((Int) ⊕ ((Unit) ⊕ (Bool))):=
  cond (decide (a < (b.length : Int))) (((idx b a).bind fun g=>cond (g.At != d) (some (.inl ())) ((loop (q62 b a f) 0 : Option ((Unit) ⊕ (Bool))).bind fun h=>(match h with | .inl j=>some (.inl j) | .inr c=>some (.inr c))) : Option ((Unit) ⊕ (Bool))).bind fun k=>(match k with | .inl _=>some (.inl (w64 (a + 1))) | .inr c=>some (.inr (.inr c)))) (some (.inr (.inl ())))
noncomputable def q60 (a : List Kk) (b : Int) (c : Int) : Option Bool:=
  (loop (q61 a b c) 0 : Option ((Unit) ⊕ (Bool))).bind fun d=>(match d with | .inl _=>some false | .inr f=>some f)
noncomputable def qdu (b : List Kk) (c : List Kk) (a : qa) : Option (Bool × Bool × Bool × Bool):=
  (q60 b a.Y a.X).bind fun d=>(q60 c a.X a.Y).bind fun f=>(q60 b a.Y (w64 (a.X - 1))).bind fun g=>(q60 c a.X (w64 (a.Y - 1))).bind fun h=>some (d,f,g,h)
noncomputable def q4f (b : List Kk) (c : List Kk) (d : qa) : Option Bool:=
  (qdu b c d).bind fun a=>(cond ((a.1 == true) && ((a.2.1 == false) && ((a.2.2.1 == true) && ((a.2.2.2 == false) && true)))) (some true) (some ((a.1 == false) && ((a.2.1 == true) && ((a.2.2.1 == false) && ((a.2.2.2 == true) && true)))))).bind fun f=>(cond (!f) ((cond a.1 (some true) (some a.2.1)).bind fun g=>(cond g (some true) (some a.2.2.1)).bind fun h=>(cond h (some true) (some a.2.2.2)).bind fun j=>some j) (some false)).bind fun k=>some k
noncomputable def qdw (a : qa) (b : qa) : Option Bool:=
  (cond (decide (a.X < b.X)) (some true) ((cond (a.X == b.X) (some (decide (a.Y < b.Y))) (some false)).bind fun c=>some c)).bind fun d=>some d
noncomputable def q66 (b : List qa) (c : qa) (a : Int) : Option ((Int) ⊕ (Int)):=
  (cond (decide (a < (b.length : Int))) ((idx b a).bind fun d=>(qdw d ({X:=(c).X,Y:=(c).Y} : qa)).bind fun f=>some f) (some false)).bind fun g=>cond g (some (.inl (w64 (a + 1)))) (some (.inr a))
noncomputable def q65 (c : List qa) (d : qa) : Option (List qa):=
  (loop (q66 c d) 0).bind fun b=>(cond (decide (b < (c.length : Int))) ((idx c b).bind fun g=>some ((g.X == ((d).X)) && ((g.Y == ((d).Y)) && true))) (some false)).bind fun j=>cond j (some c) ((app 16 c [({X:=0,Y:=0} : qa)]).bind fun a=>(sub2 a.length (w64 (b + 1)) a.length).bind fun h=>(sub2 a.length b a.length).bind fun f=>(idx (cpyw a h ((a.drop f.1).take f.2)) b).bind fun _=>some ((cpyw a h ((a.drop f.1).take f.2)).set b.toNat ({X:=(d).X,Y:=(d).Y} : qa)))
noncomputable def q98 (b : List Kk) (c : qh) (a : Int × List Int) : Option ((Int × List Int) ⊕ (List Int)):=
  cond (decide (a.1 < (b.length : Int))) (((idx b a.1).bind fun d=>(cond (decide (d.At > c.Lo)) ((idx b a.1).bind fun f=>some (decide (f.At < c.Hi))) (some false)).bind fun g=>cond g ((idx b a.1).bind fun h=>(app 8 a.2 [h.At]).bind fun j=>some j) (some a.2)).bind fun k=>some (.inl (w64 (a.1 + 1),k))) (some (.inr a.2))
noncomputable def q63 (b : List Int) (c : List Kk) (g : Int × List qa) (h : List Kk) (a : Int × List qa) : Option ((Int × List qa) ⊕ (List qa)):=
  (cond (decide (a.1 < (b.length : Int))) (some (decide ((a.2.length : Int)≤400))) (some false)).bind fun j=>cond j (((idx b a.1).bind fun d=>(idx c g.1).bind fun f=>(q4f c h ({X:=d,Y:=f.At} : qa)).bind fun k=>cond k ((q65 a.2 ({X:=d,Y:=f.At} : qa)).bind fun l=>some l) (some a.2)).bind fun m=>some (.inl (w64 (a.1 + 1),m))) (some (.inr a.2))
noncomputable def q97 (b : List Kk) (c : Int × List qa) (f : List Kk) (a : Int × List qa) : Option ((Int × List qa) ⊕ (List qa)):=
  (idx b c.1).bind fun g=>cond (decide (a.1 < (g.Spans.length : Int))) (((idx b c.1).bind fun h=>(idx h.Spans a.1).bind fun d=>(loop (q98 f d) (0,[d.Lo,d.Hi])).bind fun j=>(loop (q63 j b c f) (0,a.2)).bind fun k=>some k).bind fun l=>some (.inl (w64 (a.1 + 1),l))) (some (.inr a.2))
noncomputable def q96 (b : List Kk) (c : List Kk) (a : Int × List qa) : Option ((Int × List qa) ⊕ (List qa)):=
  cond (decide (a.1 < (b.length : Int))) (((loop (q97 b a c) (0,a.2)).bind fun d=>some d).bind fun f=>some (.inl (w64 (a.1 + 1),f))) (some (.inr a.2))
noncomputable def q64 (b : List Kk) (c : Int × List qa) (f : List Kk) (a : Int × List qa) : Option ((Int × List qa) ⊕ (List qa)):=
  (idx b c.1).bind fun k=>(cond (decide (a.1 < (k.Spans.length : Int))) (some (decide ((a.2.length : Int)≤400))) (some false)).bind fun l=>cond l (((idx b c.1).bind fun m=>(idx m.Spans a.1).bind fun d=>(idx b c.1).bind fun g=>(idx b c.1).bind fun h=>(q4f f b ({X:=g.At,Y:=d.Lo} : qa)).bind fun n=>(cond n ((q65 a.2 ({X:=g.At,Y:=d.Lo} : qa)).bind fun o=>some o) (some a.2)).bind fun j=>(q4f f b ({X:=h.At,Y:=d.Hi} : qa)).bind fun p=>cond p ((q65 j ({X:=h.At,Y:=d.Hi} : qa)).bind fun q=>some q) (some j)).bind fun r=>some (.inl (w64 (a.1 + 1),r))) (some (.inr a.2))
noncomputable def q99 (b : List Kk) (c : List Kk) (a : Int × List qa) : Option ((Int × List qa) ⊕ (List qa)):=
  cond (decide (a.1 < (b.length : Int))) (((loop (q64 b a c) (0,a.2)).bind fun d=>some d).bind fun f=>some (.inl (w64 (a.1 + 1),f))) (some (.inr a.2))
noncomputable def qh7 (a : List Kk) (b : List Kk) : Option (List qa):=
  (loop (q96 a b) (0,[])).bind fun c=>(loop (q99 b a) (0,c)).bind fun d=>some d
noncomputable def q90 (b : List qa) (c : qa) (a : Int × Int × Int) : Option ((Int × Int × Int) ⊕ (Int × Int)):=
  cond (decide (a.2.2 < (b.length : Int))) (((idx b a.2.2).bind fun d=>(cond (d.X == c.X) (some (decide (a.1 < 0))) (some false)).bind fun h=>(cond h (some a.2.2) (some a.1)).bind fun f=>(cond (d.Y == c.Y) (some (decide (a.2.1 < 0))) (some false)).bind fun j=>cond j (some (f,a.2.2)) (some (f,a.2.1))).bind fun g=>some (.inl (g.1,g.2,w64 (a.2.2 + 1)))) (some (.inr (a.1,a.2.1)))
noncomputable def q8z (c : List qa) (h : List Kk) (j : List Kk) (a : Int × List qj) : Option ((Int × List qj) ⊕ (List qj)):=
  cond (decide (a.1 < (c.length : Int))) (((idx c a.1).bind fun d=>(qdu h j d).bind fun f=>(loop (q90 c d) ((-1),(-1),w64 (a.1 + 1))).bind fun b=>(cond f.2.1 (some (decide (b.1 ≥ 0))) (some false)).bind fun k=>(cond k ((app 16 a.2 [({A:=a.1,B:=b.1} : qj)]).bind fun l=>some l) (some a.2)).bind fun g=>(cond f.1 (some (decide (b.2 ≥ 0))) (some false)).bind fun m=>cond m ((app 16 g [({A:=a.1,B:=b.2} : qj)]).bind fun n=>some n) (some g)).bind fun o=>some (.inl (w64 (a.1 + 1),o))) (some (.inr a.2))
noncomputable def q5x (b : List qr) : Option (Qh × Bool):=
  (qdz b true).bind fun c=>(qdz b false).bind fun d=>(qh7 c d).bind fun a=>cond (decide ((a.length : Int) > 400)) (some (({Nodes:=[],Edges:=[]} : Qh),false)) ((loop (q8z a c d) (0,[])).bind fun f=>some (({Nodes:=a,Edges:=f} : Qh),decide ((f.length : Int)≤800)))
noncomputable def q5y (b : Qh) (f : Qh) (a : Int) : Option ((Int) ⊕ ((Unit) ⊕ (Bool))):=
  cond (decide (a < (b.Nodes.length : Int))) ((idx b.Nodes a).bind fun c=>(idx f.Nodes a).bind fun d=>cond (!((c.X == d.X) && ((c.Y == d.Y) && true))) (some (.inr (.inr false))) (some (.inl (w64 (a + 1))))) (some (.inr (.inl ())))
noncomputable def q5z (b : Qh) (f : Qh) (a : Int) : Option ((Int) ⊕ ((Unit) ⊕ (Bool))):=
  cond (decide (a < (b.Edges.length : Int))) ((idx b.Edges a).bind fun c=>(idx f.Edges a).bind fun d=>cond (!((c.A == d.A) && ((c.B == d.B) && true))) (some (.inr (.inr false))) (some (.inl (w64 (a + 1))))) (some (.inr (.inl ())))
noncomputable def q2g (a : Qh) (b : Qh) : Option Bool:=
  (cond ((a.Nodes.length : Int) != (b.Nodes.length : Int)) (some true) (some ((a.Edges.length : Int) != (b.Edges.length : Int)))).bind fun d=>cond d (some false) ((loop (q5y a b) 0 : Option ((Unit) ⊕ (Bool))).bind fun f=>(match f with | .inl _=>(loop (q5z a b) 0 : Option ((Unit) ⊕ (Bool))).bind fun g=>(match g with | .inl _=>some true | .inr c=>some c) | .inr c=>some c))
noncomputable def q3b (a : Qh) : Option Int:=
  (cond (decide ((a.Nodes.length : Int) > 400)) (some true) (some (decide ((a.Edges.length : Int) > 800)))).bind fun d=>cond d (some 4) ((qdy a).bind fun b=>cond (!b.2) (some 8) ((q5x b.1).bind fun c=>(cond (!c.2) (some true) ((q2g c.1 a).bind fun f=>some (!f))).bind fun g=>cond g (some 8) (some 0)))
noncomputable def q92 (a : Qh) : Option (List qr × Int):=
  (q3b a).bind fun b=>cond (b != 0) ((q3b a).bind fun c=>some ([],c)) ((qdy a).bind fun d=>some (d.1,0))
noncomputable def q3d (b : List qr) (c : qr→Option Bool) (a : Int) : Option ((Int) ⊕ ((Unit) ⊕ (Int))):=
  cond (decide (a < (b.length : Int))) ((idx b a).bind fun d=>(c d).bind fun f=>cond f (some (.inr (.inr a))) (some (.inl (w64 (a + 1))))) (some (.inr (.inl ())))
noncomputable def qe7 (a : List qr) (b : qr→Option Bool) : Option Int:=
  (loop (q3d a b) 0 : Option ((Unit) ⊕ (Int))).bind fun c=>(match c with | .inl _=>some (-1) | .inr d=>some d)
noncomputable def q6e (a : List qr) (b : qr→Option Bool) : Option Bool:=
  (qe7 a b).bind fun c=>some (decide (c ≥ 0))
noncomputable def q7c (a : qr) (b : qa) : Option Bool:=
  (cond (decide ((min a.A.X a.B.X)≤b.X)) (some (decide (b.X≤(max a.A.X a.B.X)))) (some false)).bind fun c=>(cond c (some (decide ((min a.A.Y a.B.Y)≤b.Y))) (some false)).bind fun d=>(cond d (some (decide (b.Y≤(max a.A.Y a.B.Y)))) (some false)).bind fun f=>some f
noncomputable def qbw (a : qr) (b : qa) : Option Bool:=
  (q7c a b).bind fun c=>some c
noncomputable def q4s (b : Qh) (c : qa) : Option (Bool × Int):=
  (q3i b).bind fun a=>cond (a.2 != 0) (some (false,a.2)) ((q6e a.1 (fun d=>qbw d c)).bind fun f=>some (f,0))
noncomputable def q91 (a : qr) (b : qa) : Option Bool:=
  (cond (decide (b.X ≥ (min a.A.X a.B.X))) (some (decide (b.X≤(max a.A.X a.B.X)))) (some false)).bind fun c=>(cond c (some (decide (b.Y ≥ (min a.A.Y a.B.Y)))) (some false)).bind fun d=>(cond d (some (decide (b.Y≤(max a.A.Y a.B.Y)))) (some false)).bind fun f=>some f
noncomputable def q4d (b : List qr × Int) (c : qa) (a : Int) : Option ((Int) ⊕ ((Unit) ⊕ (Bool × Int))):=
  cond (decide (a < (b.1.length : Int))) ((idx b.1 a).bind fun d=>(q91 d c).bind fun f=>cond f (some (.inr (.inr (true,0)))) (some (.inl (w64 (a + 1))))) (some (.inr (.inl ())))
noncomputable def qnk (b : Qh) (c : qa) : Option (Bool × Int):=
  (q92 b).bind fun a=>cond (a.2 != 0) (some (false,a.2)) ((loop (q4d a c) 0 : Option ((Unit) ⊕ (Bool × Int))).bind fun d=>(match d with | .inl _=>some (false,0) | .inr f=>some f))
noncomputable def q3g (b : (Bool × Bool × Bool × Bool)) (a : Int × Int) : Option ((Int × Int) ⊕ (Int)):=
  cond (decide (a.2 < 4)) (((idxA 4 [b.1,b.2.1,b.2.2.1,b.2.2.2] a.2).bind fun c=>cond c (some (w64 (a.1 + 1))) (some a.1)).bind fun d=>some (.inl (d,w64 (a.2 + 1)))) (some (.inr a.1))
noncomputable def q2o (a : Qh) (b : Int) : Option (Int × Int):=
  (q3i a).bind fun c=>cond (c.2 != 0) (some (0,c.2)) ((cond (decide (b < 0)) (some true) (some (decide (b ≥ (a.Nodes.length : Int))))).bind fun d=>cond d (some (0,6)) ((q7b c.1).bind fun f=>(idx a.Nodes b).bind fun g=>(q4v f g).bind fun h=>(loop (q3g h) (0,0)).bind fun j=>some (j,0)))
noncomputable def q8w (b : Qh) (c : Int) (a : Int × Int) : Option ((Int × Int) ⊕ (Int)):=
  cond (decide (a.2 < (b.Edges.length : Int))) (((idx b.Edges a.2).bind fun d=>(cond (d.A == c) (some true) ((idx b.Edges a.2).bind fun f=>some (f.B == c))).bind fun g=>cond g (some (w64 (a.1 + 1))) (some a.1)).bind fun h=>some (.inl (h,w64 (a.2 + 1)))) (some (.inr a.1))
noncomputable def qnj (a : Qh) (b : Int) : Option (Int × Int):=
  (q3b a).bind fun c=>cond (c != 0) ((q3b a).bind fun d=>some (0,d)) ((cond (decide (b < 0)) (some true) (some (decide (b ≥ (a.Nodes.length : Int))))).bind fun f=>cond f (some (0,6)) ((loop (q8w a b) (0,0)).bind fun g=>some (g,0)))
noncomputable def q1u (c : List qr × Int) (b : Int × Int) : Option ((Int × Int) ⊕ (Int)):=
  cond (decide (b.2 < (c.1.length : Int))) ((idx c.1 b.2).bind fun a=>some (.inl (w64 (b.1 + (w64 ((w64 ((w64 ((max a.A.X a.B.X) - (min a.A.X a.B.X))) + (max a.A.Y a.B.Y))) - (min a.A.Y a.B.Y)))),w64 (b.2 + 1)))) (some (.inr b.1))
noncomputable def q78 (b : Qh) : Option (Int × Int):=
  (q3i b).bind fun a=>cond (a.2 != 0) (some (0,a.2)) ((loop (q1u a) (0,0)).bind fun c=>some (c,0))
noncomputable def qnm (a : qr) : Option Int:=
  some (w64 ((max (w64 (a.A.X - a.B.X)) (w64 (a.B.X - a.A.X))) + (max (w64 (a.A.Y - a.B.Y)) (w64 (a.B.Y - a.A.Y)))))
noncomputable def qdv (b : List qr × Int) (a : Int × Int) : Option ((Int × Int) ⊕ (Int)):=
  cond (decide (a.2 < (b.1.length : Int))) ((idx b.1 a.2).bind fun c=>(qnm c).bind fun d=>some (.inl (w64 (a.1 + d),w64 (a.2 + 1)))) (some (.inr a.1))
noncomputable def qnl (b : Qh) : Option (Int × Int):=
  (q92 b).bind fun a=>cond (a.2 != 0) (some (0,a.2)) ((loop (qdv a) (0,0)).bind fun c=>some (c,0))
structure Zi where
  At : qa
  Kind : Int
  Weight : Int
  Reach : Int
  deriving DecidableEq
def Ye (x : Zi) : List DV:=[.int .i64 x.At.X,.int .i64 x.At.Y,.int .u8 x.Kind,.int .i64 x.Weight,.int .i64 x.Reach]
structure Yu where
  At : qa
  Head : Int
  Steps : Int
  deriving DecidableEq
def q2y (x : Yu) : List DV:=[.int .i64 x.At.X,.int .i64 x.At.Y,.int .u8 x.Head,.int .i64 x.Steps]
noncomputable def q42 (a : qa) : Option Bool:=
  (cond (decide ((max (max (max a.X (w64 (0 - a.X))) a.Y) (w64 (0 - a.Y)))≤1000000)) (some (decide ((min a.X a.Y) ≥ (-1000000)))) (some false)).bind fun b=>some b
noncomputable def qcw (c : List Zi) (b : Int) : Option ((Int) ⊕ ((Unit) ⊕ (Int))):=
  cond (decide (b < (c.length : Int))) ((idx c b).bind fun a=>(cond (decide (a.Kind < 1)) (some true) (some (decide (a.Kind > 4)))).bind fun d=>(cond d (some true) ((q42 a.At).bind fun f=>some (!f))).bind fun g=>(cond g (some true) (some (decide (a.Weight < 1)))).bind fun h=>(cond h (some true) (some (decide (a.Weight > 1000000)))).bind fun j=>(cond j (some true) (some (decide (a.Reach < 0)))).bind fun k=>(cond k (some true) (some (decide (a.Reach > 1000000)))).bind fun l=>cond l (some (.inr (.inr 8))) (some (.inl (w64 (b + 1))))) (some (.inr (.inl ())))
noncomputable def q57 (a : List Zi) : Option Int:=
  cond (decide ((a.length : Int) > 60)) (some 4) ((loop (qcw a) 0 : Option ((Unit) ⊕ (Int))).bind fun b=>(match b with | .inl _=>some 0 | .inr c=>some c))
noncomputable def qcy (d : List Zi) (b : qa) (c : Int × Int) : Option ((Int × Int) ⊕ (Int)):=
  cond (decide (c.1 < (d.length : Int))) (((idx d c.1).bind fun a=>cond (decide ((max (max (w64 (b.X - a.At.X)) (w64 (0 - (w64 (b.X - a.At.X))))) (max (w64 (b.Y - a.At.Y)) (w64 (0 - (w64 (b.Y - a.At.Y)))))) > a.Reach)) (some c.2) ((cond (a.Kind == 1) (some 1) (cond (a.Kind == 2) (some (-1)) ((cond ((a.Kind == 3) == (decide ((max (w64 (b.Y - a.At.Y)) (w64 (0 - (w64 (b.Y - a.At.Y))))) > (max (w64 (b.X - a.At.X)) (w64 (0 - (w64 (b.X - a.At.X)))))))) (some ((max (w64 (b.X - a.At.X)) (w64 (0 - (w64 (b.X - a.At.X))))) != (max (w64 (b.Y - a.At.Y)) (w64 (0 - (w64 (b.Y - a.At.Y))))))) (some false)).bind fun f=>cond f (some 1) (cond ((max (w64 (b.X - a.At.X)) (w64 (0 - (w64 (b.X - a.At.X))))) != (max (w64 (b.Y - a.At.Y)) (w64 (0 - (w64 (b.Y - a.At.Y)))))) (some (-1)) (some 0))))).bind fun g=>(some ()).bind fun _=>some (w64 (c.2 + (w64 ((w64 (g * a.Weight)) * (w64 ((w64 (a.Reach + 1)) - (max (max (w64 (b.X - a.At.X)) (w64 (0 - (w64 (b.X - a.At.X))))) (max (w64 (b.Y - a.At.Y)) (w64 (0 - (w64 (b.Y - a.At.Y)))))))))))))).bind fun h=>some (.inl (w64 (c.1 + 1),h))) (some (.inr c.2))
noncomputable def qcx (a : List Zi) (b : qa) : Option Int:=
  (some ()).bind fun _=>((loop (qcy a b) (0,0)).bind fun c=>some c).bind fun d=>some d
noncomputable def q7z (b : List Zi) (c : qa) : Option Int:=
  (qcx b c).bind fun a=>cond (decide (a > 0)) (some 0) (cond (decide (a < 0)) (some 1) (some 2))
noncomputable def q58 (g : Int) (h : List Zi) (a : Int × Int × Int × Int × List qa) : Option ((Int × Int × Int × Int × List qa) ⊕ ((List qa) ⊕ (List qa × Int))):=
  cond (decide (a.2.1 < g)) ((q7z h ({X:=a.2.2.1,Y:=a.2.2.2.1} : qa)).bind fun f=>(cond (decide (f < 2)) (some ((Int.tmod a.1 2) != f)) (some false)).bind fun j=>(cond j (some (Int.tmod (IntKind.wrap .u8 (a.1 + 1)) 4)) (some a.1)).bind fun b=>(idxA 4 [({X:=1,Y:=0} : qa),({X:=0,Y:=1} : qa),({X:=(-1),Y:=0} : qa),({X:=0,Y:=(-1)} : qa)] b).bind fun c=>(idxA 4 [({X:=1,Y:=0} : qa),({X:=0,Y:=1} : qa),({X:=(-1),Y:=0} : qa),({X:=0,Y:=(-1)} : qa)] b).bind fun d=>(q42 ({X:=w64 (a.2.2.1 + c.X),Y:=w64 (a.2.2.2.1 + d.Y)} : qa)).bind fun k=>cond (!k) (some (.inr (.inr ([],16)))) ((app 16 a.2.2.2.2 [({X:=w64 (a.2.2.1 + c.X),Y:=w64 (a.2.2.2.1 + d.Y)} : qa)]).bind fun l=>some (.inl (b,w64 (a.2.1 + 1),w64 (a.2.2.1 + c.X),w64 (a.2.2.2.1 + d.Y),l)))) (some (.inr (.inl a.2.2.2.2)))
noncomputable def q41 (c : List Zi) (a : qa) (d : Int) (b : Int) : Option (List qa × Int):=
  (q57 c).bind fun f=>cond (f != 0) (some ([],f)) ((q42 a).bind fun g=>(cond (!g) (some true) (some (decide (d > 3)))).bind fun h=>(cond h (some true) (some (decide (b < 0)))).bind fun j=>(cond j (some true) (some (decide (b > 500)))).bind fun k=>cond k (some ([],2)) ((loop (q58 b c) (d,0,a.X,a.Y,[a]) : Option ((List qa) ⊕ (List qa × Int))).bind fun l=>(match l with | .inl m=>some (m,0) | .inr n=>some n)))
noncomputable def q2k (b : List qa) (c : qa) (a : Int) : Option ((Int) ⊕ ((Unit) ⊕ (Int))):=
  cond (decide (a < (b.length : Int))) ((idx b a).bind fun d=>cond ((c.X == d.X) && ((c.Y == d.Y) && true)) (some (.inr (.inr a))) (some (.inl (w64 (a + 1))))) (some (.inr (.inl ())))
noncomputable def q9i (a : List qa) (b : qa) : Option Int:=
  (loop (q2k a b) 0 : Option ((Unit) ⊕ (Int))).bind fun c=>(match c with | .inl _=>some (-1) | .inr d=>some d)
noncomputable def Zx (c : Yu) (j : List Zi) (a : Int × Int × (List (qa × Bool)) × List qr × Int × Int) : Option ((Int × Int × (List (qa × Bool)) × List qr × Int × Int) ⊕ (((List (qa × Bool)) × List qr) ⊕ (Int × (List (qa × Bool)) × List qr))):=
  cond (decide (a.2.1 < ((c).Steps))) ((q41 j ({X:=a.2.2.2.2.1,Y:=a.2.2.2.2.2} : qa) a.1 1).bind fun d=>cond (d.2 != 0) (some (.inr (.inr (d.2,a.2.2.1,[])))) ((idx d.1 1).bind fun b=>(q9i [({X:=1,Y:=0} : qa),({X:=0,Y:=1} : qa),({X:=(-1),Y:=0} : qa),({X:=0,Y:=(-1)} : qa)] ({X:=w64 (b.X - a.2.2.2.2.1),Y:=w64 (b.Y - a.2.2.2.2.2)} : qa)).bind fun f=>(cond (decide (a.2.1 > 0)) (some ((IntKind.wrap .u8 f) == a.1)) (some false)).bind fun k=>(cond k ((idx a.2.2.2.1 (w64 ((a.2.2.2.1.length : Int) - 1))).bind fun l=>some (.inl (a.2.2.2.1.set (w64 ((a.2.2.2.1.length : Int) - 1)).toNat ({A:=l.A,B:=b} : qr)))) ((app 32 a.2.2.2.1 [({A:=({X:=a.2.2.2.2.1,Y:=a.2.2.2.2.2} : qa),B:=b} : qr)]).bind fun g=>cond (decide ((g.length : Int) > 400)) (some (.inr (4,a.2.2.1,[]))) (some (.inl g))) : Option ((List qr) ⊕ (Int × (List (qa × Bool)) × List qr))).bind fun m=>(match m with | .inl h=>(cond (K7 false b a.2.2.1) (some true) (some ((b.X == (((c).At).X)) && ((b.Y == (((c).At).Y)) && true)))).bind fun n=>cond n (some (.inr (.inl (Ka b true (Ka ({X:=a.2.2.2.2.1,Y:=a.2.2.2.2.2} : qa) true a.2.2.1),h)))) (some (.inl (IntKind.wrap .u8 f,w64 (a.2.1 + 1),Ka b true (Ka ({X:=a.2.2.2.2.1,Y:=a.2.2.2.2.2} : qa) true a.2.2.1),h,b.X,b.Y))) | .inr o=>some (.inr (.inr o))))) (some (.inr (.inl (a.2.2.1,a.2.2.2.1))))
noncomputable def q4x (c : List Zi) (a : Yu) (d : List qr) (f : List (qa × Bool)) : Option (Int × (List (qa × Bool)) × List qr):=
  (loop (Zx a c) ((a).Head,0,f,d,((a).At).X,((a).At).Y) : Option (((List (qa × Bool)) × List qr) ⊕ (Int × (List (qa × Bool)) × List qr))).bind fun g=>(match g with | .inl b=>some (0,b.1,b.2) | .inr h=>some h)
noncomputable def q79 (b : List qr) (a : Int) : Option ((Int) ⊕ ((Unit) ⊕ (Qh × Int))):=
  cond (decide (a < (b.length : Int))) ((idx b a).bind fun c=>(q7e c).bind fun d=>cond (!d) (some (.inr (.inr (({Nodes:=[],Edges:=[]} : Qh),8)))) (some (.inl (w64 (a + 1))))) (some (.inr (.inl ())))
noncomputable def J5 (a : List qr) : Option (Qh × Int):=
  cond (decide ((a.length : Int) > 400)) (some (({Nodes:=[],Edges:=[]} : Qh),4)) ((loop (q79 a) 0 : Option ((Unit) ⊕ (Qh × Int))).bind fun c=>(match c with | .inl _=>(q3j a).bind fun b=>cond (!b.2) (some (({Nodes:=[],Edges:=[]} : Qh),4)) (some (b.1,0)) | .inr d=>some d))
noncomputable def q77 (c : List Yu) (b : Int) : Option ((Int) ⊕ ((Unit) ⊕ (Qh × Int))):=
  cond (decide (b < (c.length : Int))) ((idx c b).bind fun a=>(q4u a.At).bind fun d=>(cond (!d) (some true) (some (decide (a.Head > 3)))).bind fun f=>(cond f (some true) (some (decide (a.Steps < 0)))).bind fun g=>(cond g (some true) (some (decide (a.Steps > 500)))).bind fun h=>cond h (some (.inr (.inr (({Nodes:=[],Edges:=[]} : Qh),8)))) (some (.inl (w64 (b + 1))))) (some (.inr (.inl ())))
noncomputable def q3h (c : List Yu) (d : List Zi) (a : Int × List qr × (List (qa × Bool))) : Option ((Int × List qr × (List (qa × Bool))) ⊕ ((List qr) ⊕ (Qh × Int))):=
  cond (decide (a.1 < (c.length : Int))) ((idx c a.1).bind fun f=>(q4x d f a.2.1 a.2.2).bind fun b=>cond (b.1 != 0) (some (.inr (.inr (({Nodes:=[],Edges:=[]} : Qh),b.1)))) (some (.inl (w64 (a.1 + 1),b.2.2,b.2.1)))) (some (.inr (.inl a.2.1)))
noncomputable def qbv (c : List Zi) (a : List Yu) : Option (Qh × Int):=
  (q57 c).bind fun d=>cond (d != 0) (some (({Nodes:=[],Edges:=[]} : Qh),d)) (cond (decide ((a.length : Int) > 30)) (some (({Nodes:=[],Edges:=[]} : Qh),4)) ((loop (q77 a) 0 : Option ((Unit) ⊕ (Qh × Int))).bind fun g=>(match g with | .inl _=>(loop (q3h a c) (0,[],[]) : Option ((List qr) ⊕ (Qh × Int))).bind fun h=>(match h with | .inl j=>(J5 j).bind fun f=>some (f.1,f.2) | .inr b=>some b) | .inr b=>some b)))
noncomputable def qdx (b : List qr) (a : Int) : Option ((Int) ⊕ ((Unit) ⊕ (Qh × Int))):=
  cond (decide (a < (b.length : Int))) ((idx b a).bind fun c=>(q4e c).bind fun d=>cond (!d) (some (.inr (.inr (({Nodes:=[],Edges:=[]} : Qh),8)))) (some (.inl (w64 (a + 1))))) (some (.inr (.inl ())))
noncomputable def q8y (a : List qr) : Option (Qh × Int):=
  cond (decide ((a.length : Int) > 400)) (some (({Nodes:=[],Edges:=[]} : Qh),4)) ((loop (qdx a) 0 : Option ((Unit) ⊕ (Qh × Int))).bind fun c=>(match c with | .inl _=>(q5x a).bind fun b=>cond (!b.2) (some (({Nodes:=[],Edges:=[]} : Qh),4)) (some (b.1,0)) | .inr d=>some d))
noncomputable def q35 (b : List qr) (a : Int) : Option ((Int) ⊕ ((Unit) ⊕ (Bool))):=
  cond (decide (a < (b.length : Int))) ((idx b a).bind fun c=>(q4e c).bind fun d=>cond (!d) (some (.inr (.inr false))) (some (.inl (w64 (a + 1))))) (some (.inr (.inl ())))
noncomputable def q87 (a : List qr) : Option Bool:=
  (loop (q35 a) 0 : Option ((Unit) ⊕ (Bool))).bind fun b=>(match b with | .inl _=>some (decide ((a.length : Int)≤24)) | .inr c=>some c)
noncomputable def Ya (a : Int) (b : Int) : Option qa:=
  some ({X:=a,Y:=b} : qa)
noncomputable def q1m (a : Int) (b : Int) (c : Int) (d : Int) : Option qr:=
  (Ya a b).bind fun f=>(Ya c d).bind fun g=>some ({A:=f,B:=g} : qr)
noncomputable def q5w (b : List qa) (c : qa) (a : Int) : Option ((Int) ⊕ ((Unit) ⊕ (Int))):=
  cond (decide (a < (b.length : Int))) ((idx b a).bind fun d=>cond ((d.X == c.X) && ((d.Y == c.Y) && true)) (some (.inr (.inr a))) (some (.inl (w64 (a + 1))))) (some (.inr (.inl ())))
noncomputable def q8x (a : List qa) (b : qa) : Option Int:=
  (loop (q5w a b) 0 : Option ((Unit) ⊕ (Int))).bind fun c=>(match c with | .inl _=>some (-1) | .inr d=>some d)
noncomputable def q5f (a : Qh) (c : List qr) : Option Bool:=
  (J5 c).bind fun b=>(cond (b.2 == 0) ((q2g b.1 a).bind fun d=>some d) (some false)).bind fun f=>(cond f ((Uy a).bind fun g=>some (g == 0)) (some false)).bind fun h=>some h
noncomputable def q47 : Option Bool:=
  ((Ya 0 0).bind fun g=>(Ya 2 0).bind fun h=>(Ya 2 3).bind fun j=>(Ya 4 0).bind fun k=>some [g,h,j,k]).bind fun l=>(q2o ({Nodes:=l,Edges:=[({A:=0,B:=1} : qj),({A:=1,B:=2} : qj),({A:=1,B:=3} : qj)]} : Qh) 1).bind fun b=>((Ya 0 0).bind fun m=>(Ya 2 0).bind fun n=>(Ya 2 3).bind fun o=>(Ya 4 0).bind fun p=>some [m,n,o,p]).bind fun q=>(q78 ({Nodes:=q,Edges:=[({A:=0,B:=1} : qj),({A:=1,B:=2} : qj),({A:=1,B:=3} : qj)]} : Qh)).bind fun c=>(q1m 0 0 4 0).bind fun r=>(q1m 2 3 2 0).bind fun s=>(q1m 2 (-1) 2 0).bind fun t=>(J5 [r,s,t]).bind fun a=>(Ya 2 0).bind fun u=>(q8x a.1.Nodes u).bind fun v=>(q2o a.1 v).bind fun d=>(Ya 0 0).bind fun w=>(Ya 4 0).bind fun x=>(Ya 2 2).bind fun y=>(qbv [] [({At:=({X:=0,Y:=0} : qa),Head:=0,Steps:=4} : Yu),({At:=y,Head:=3,Steps:=9} : Yu)]).bind fun f=>(Ya 0 0).bind fun z=>(Ya 2 0).bind fun aa=>(Ya 2 2).bind fun ab=>(Ya 4 0).bind fun ac=>((Ya 0 0).bind fun ad=>(Ya 2 0).bind fun ae=>(Ya 2 3).bind fun af=>(Ya 4 0).bind fun ag=>some [ad,ae,af,ag]).bind fun _=>((Ya 0 0).bind fun ah=>(Ya 2 0).bind fun ai=>(Ya 2 3).bind fun aj=>(Ya 4 0).bind fun ak=>some [ah,ai,aj,ak]).bind fun al=>(q1m 0 0 4 0).bind fun am=>(q1m 2 0 2 3).bind fun an=>(q5f ({Nodes:=al,Edges:=[({A:=0,B:=1} : qj),({A:=1,B:=2} : qj),({A:=1,B:=3} : qj)]} : Qh) [am,an]).bind fun ao=>(cond ao (some (b.2 == 0)) (some false)).bind fun ap=>(cond ap (some (b.1 == 3)) (some false)).bind fun aq=>(cond aq (some (c.2 == 0)) (some false)).bind fun ar=>(cond ar (some (c.1 == 7)) (some false)).bind fun au=>(cond au (some (a.2 == 0)) (some false)).bind fun av=>(cond av (some (d.2 == 0)) (some false)).bind fun aw=>(cond aw (some (d.1 == 4)) (some false)).bind fun ax=>cond ax ((q1m 0 0 2 0).bind fun ay=>(q1m 2 0 4 0).bind fun az=>(q5f ({Nodes:=[w,x],Edges:=[({A:=0,B:=1} : qj)]} : Qh) [ay,az]).bind fun ba=>(cond ba (some (f.2 == 0)) (some false)).bind fun bb=>(cond bb ((q2g f.1 ({Nodes:=[z,aa,ab,ac],Edges:=[({A:=0,B:=1} : qj),({A:=1,B:=2} : qj),({A:=1,B:=3} : qj)]} : Qh)).bind fun bc=>some bc) (some false)).bind fun bd=>some bd) (some false)
noncomputable def qd7 (c : List qr) (d : Int) (g : Int) (h : qa) : Option Bool:=
  (q87 c).bind fun o=>(cond (!o) (some true) (some (decide ((c.length : Int) ≥ 24)))).bind fun p=>(cond p (some true) (some (decide (d < 0)))).bind fun q=>(cond q (some true) (some (decide (d ≥ (c.length : Int))))).bind fun r=>cond r (q47.bind fun s=>some s) ((idx c d).bind fun b=>(cond (b.A.X == b.B.X) (some (b.A.X,b.A.Y,b.A.X,g)) (some (b.A.X,b.A.Y,g,b.A.Y))).bind fun a=>(J5 c).bind fun f=>(slc c 0 d).bind fun t=>(app 32 [] t).bind fun u=>(slc c (w64 (d + 1)) c.length).bind fun v=>(app 32 u v).bind fun w=>(J5 w).bind fun j=>(q4s j.1 h).bind fun k=>(q4s f.1 h).bind fun l=>(cond (f.2 != 0) (some true) (some (j.2 != 0))).bind fun x=>(cond x (some true) (some (k.2 != 0))).bind fun y=>(cond y (some true) (some (l.2 != 0))).bind fun z=>(cond z (some true) ((cond k.1 (some (!l.1)) (some false)).bind fun aa=>some aa)).bind fun ab=>cond ab (some false) ((q91 ({A:=({X:=a.1,Y:=a.2.1} : qa),B:=b.B} : qr) ({X:=a.2.2.1,Y:=a.2.2.2} : qa)).bind fun ac=>(cond (!ac) (some true) (some ((a.2.2.1 == a.1) && ((a.2.2.2 == a.2.1) && true)))).bind fun ad=>(cond ad (some true) (some ((a.2.2.1 == b.B.X) && ((a.2.2.2 == b.B.Y) && true)))).bind fun ae=>cond ae (q47.bind fun af=>some af) ((app 32 [({A:=({X:=a.1,Y:=a.2.1} : qa),B:=({X:=a.2.2.1,Y:=a.2.2.2} : qa)} : qr)] c).bind fun m=>(idx m (w64 (d + 1))).bind fun _=>(J5 (m.set (w64 (d + 1)).toNat ({A:=({X:=a.2.2.1,Y:=a.2.2.2} : qa),B:=b.B} : qr))).bind fun n=>(cond (n.2 == 0) ((q2g n.1 f.1).bind fun ag=>some ag) (some false)).bind fun ah=>(cond ah (q47.bind fun ai=>some ai) (some false)).bind fun aj=>some aj)))
noncomputable def q4o (b : List qh) (a : Int) : Option ((Int) ⊕ ((Unit) ⊕ (Int))):=
  cond (decide (a < (b.length : Int))) ((idx b a).bind fun c=>(q3f c).bind fun d=>(cond (!d) (some true) ((cond (decide (a > 0)) ((idx b (w64 (a - 1))).bind fun f=>some (decide (f.Hi ≥ c.Lo))) (some false)).bind fun g=>some g)).bind fun h=>cond h (some (.inr (.inr 8))) (some (.inl (w64 (a + 1))))) (some (.inr (.inl ())))
noncomputable def qea (a : List qh) : Option Int:=
  cond (decide ((a.length : Int) > 400)) (some 4) ((loop (q4o a) 0 : Option ((Unit) ⊕ (Int))).bind fun b=>(match b with | .inl _=>some 0 | .inr c=>some c))
noncomputable def qnh (a : qh) : Option Bool:=
  (cond (decide (a.Lo < a.Hi)) (some (decide (a.Lo ≥ (-1000000)))) (some false)).bind fun b=>(cond b (some (decide (a.Hi≤1000000))) (some false)).bind fun c=>some c
noncomputable def qh2 (b : List qh) (a : Int) : Option ((Int) ⊕ ((Unit) ⊕ (Int))):=
  cond (decide (a < (b.length : Int))) ((idx b a).bind fun c=>(qnh c).bind fun d=>(cond (!d) (some true) ((cond (decide (a > 0)) ((idx b (w64 (a - 1))).bind fun f=>(idx b a).bind fun g=>some (decide (f.Hi ≥ g.Lo))) (some false)).bind fun h=>some h)).bind fun j=>cond j (some (.inr (.inr 8))) (some (.inl (w64 (a + 1))))) (some (.inr (.inl ())))
noncomputable def qdq (a : List qh) : Option Int:=
  cond (decide ((a.length : Int) > 400)) (some 4) ((loop (qh2 a) 0 : Option ((Unit) ⊕ (Int))).bind fun b=>(match b with | .inl _=>some 0 | .inr c=>some c))
noncomputable def q8q (b : List qh) (a : Int × List Int) : Option ((Int × List Int) ⊕ (List Int)):=
  cond (decide (a.1 < (b.length : Int))) ((idx b a.1).bind fun c=>(idx b a.1).bind fun d=>(app 8 a.2 [c.Lo,d.Hi]).bind fun f=>some (.inl (w64 (a.1 + 1),f))) (some (.inr a.2))
noncomputable def qne (b : List qh) (a : Int × List Int) : Option ((Int × List Int) ⊕ (List Int)):=
  cond (decide (a.1 < (b.length : Int))) ((idx b a.1).bind fun c=>(idx b a.1).bind fun d=>(app 8 a.2 [c.Lo,d.Hi]).bind fun f=>some (.inl (w64 (a.1 + 1),f))) (some (.inr a.2))
noncomputable def qh3 (a : List qh) (b : List qh) : Option (List Int):=
  (loop (q8q a) (0,[])).bind fun c=>(loop (qne b) (0,c)).bind fun d=>(qdt d).bind fun f=>some f
noncomputable def q8r (b : List qh) (c : Int) (a : Int) : Option ((Int) ⊕ ((Unit) ⊕ (Bool))):=
  cond (decide (a < (b.length : Int))) ((idx b a).bind fun d=>(cond (decide (d.Lo≤c)) ((idx b a).bind fun f=>some (decide (c < f.Hi))) (some false)).bind fun g=>cond g (some (.inr (.inr true))) (some (.inl (w64 (a + 1))))) (some (.inr (.inl ())))
noncomputable def qdr (a : List qh) (b : Int) : Option Bool:=
  (loop (q8r a b) 0 : Option ((Unit) ⊕ (Bool))).bind fun c=>(match c with | .inl _=>some false | .inr d=>some d)
noncomputable def qh4 (c : Int) (a : Bool) (b : Bool) : Option Bool:=
  cond (c == 1) ((cond a (some b) (some false)).bind fun d=>some d) (cond (c == 2) ((cond a (some true) (some b)).bind fun f=>some f) ((cond a (some (!b)) (some false)).bind fun g=>some g))
noncomputable def q8p (b : List Int) (c : List Bool) (a : Int × List qh) : Option ((Int × List qh) ⊕ (List qh)):=
  cond (decide ((w64 (a.1 + 1)) < (b.length : Int))) (((idx c a.1).bind fun d=>cond (!d) (some a.2) ((cond (decide ((a.2.length : Int) > 0)) ((idx a.2 (w64 ((a.2.length : Int) - 1))).bind fun f=>(idx b a.1).bind fun g=>some (f.Hi == g)) (some false)).bind fun h=>cond h ((idx b (w64 (a.1 + 1))).bind fun j=>(idx a.2 (w64 ((a.2.length : Int) - 1))).bind fun k=>some (a.2.set (w64 ((a.2.length : Int) - 1)).toNat ({Lo:=k.Lo,Hi:=j} : qh))) ((idx b a.1).bind fun l=>(idx b (w64 (a.1 + 1))).bind fun m=>(app 16 a.2 [({Lo:=l,Hi:=m} : qh)]).bind fun n=>some n))).bind fun o=>some (.inl (w64 (a.1 + 1),o))) (some (.inr a.2))
noncomputable def qh1 (a : List Int) (b : List Bool) : Option (List qh):=
  (loop (q8p a b) (0,[])).bind fun c=>some c
noncomputable def q8s (b : List Int) (c : List qh) (d : List qh) (f : Int) (a : Int × List Bool) : Option ((Int × List Bool) ⊕ (List Bool)):=
  cond (decide (a.1 < (b.length : Int))) ((idx b a.1).bind fun g=>(qdr c g).bind fun h=>(idx b a.1).bind fun j=>(qdr d j).bind fun k=>(qh4 f h k).bind fun l=>(app 1 a.2 [l]).bind fun m=>some (.inl (w64 (a.1 + 1),m))) (some (.inr a.2))
noncomputable def qds (d : Int) (a : List qh) (b : List qh) : Option (List qh):=
  (qh3 a b).bind fun c=>(loop (q8s c a b d) (0,[])).bind fun f=>(qh1 c f).bind fun g=>some g
noncomputable def qbm (b : List qh) (a : Int × Int) : Option ((Int × Int) ⊕ (Int)):=
  cond (decide (a.2 < (b.length : Int))) ((idx b a.2).bind fun c=>some (.inl (w64 (a.1 + (w64 (c.Hi - c.Lo))),w64 (a.2 + 1)))) (some (.inr a.1))
noncomputable def qoq (a : List qh) : Option (Int × Int):=
  (qea a).bind fun b=>cond (b != 0) (some (0,b)) ((loop (qbm a) (0,0)).bind fun c=>some (c,0))
noncomputable def q8t (b : List qh) (a : Int × Int) : Option ((Int × Int) ⊕ (Int)):=
  cond (decide (a.2 < (b.length : Int))) ((idx b a.2).bind fun c=>(idx b a.2).bind fun d=>some (.inl (w64 ((w64 (a.1 + c.Hi)) - d.Lo),w64 (a.2 + 1)))) (some (.inr a.1))
noncomputable def qng (a : List qh) : Option (Int × Int):=
  (qdq a).bind fun b=>cond (b != 0) ((qdq a).bind fun c=>some (0,c)) ((loop (q8t a) (0,0)).bind fun d=>some (d,0))
structure qcd where
  X : Int
  Y : Int
  Z : Int
  deriving DecidableEq
structure qpv where
  Turn : Int
  At : qcd
  deriving DecidableEq
structure q146 where
  Frame : qpv
  Size : qcd
  deriving DecidableEq
structure q145 where
  t_ : Int
  at_ : qcd
  flat_ : qcd
  deriving DecidableEq
end Go.Sh
