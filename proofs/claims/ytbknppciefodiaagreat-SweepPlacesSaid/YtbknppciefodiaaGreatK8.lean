/- PX -/
import Derived.Test.YtbknppciefodiaaGreatK7
namespace Go.Sh
open Go Go.Am
structure qw where
  X : Int
  Y : Int
  Z : Int
  deriving DecidableEq
structure K3 where
  From : qw
  To : qw
  Depth : Int
  deriving DecidableEq
structure K0 where
  Turn : Int
  At : qw
  deriving DecidableEq
structure Yf where
  Name : Int
  Frame : K0
  deriving DecidableEq
structure Z4 where
  Frame : K0
  Drawn : Int
  deriving DecidableEq
structure Qr where
  Lines : List K3
  Marks : List Yf
  End : Z4
  deriving DecidableEq
def Kb (x : K3) : List DV:=[.int .i64 x.From.X,.int .i64 x.From.Y,.int .i64 x.From.Z,.int .i64 x.To.X,.int .i64 x.To.Y,.int .i64 x.To.Z,.int .i64 x.Depth]
def Kf (x : Yf) : List DV:=[.int .u8 x.Name,.int .u8 x.Frame.Turn,.int .i64 x.Frame.At.X,.int .i64 x.Frame.At.Y,.int .i64 x.Frame.At.Z]
structure qh where
  Lo : qw
  Hi : qw
  deriving DecidableEq
def Qh (x : qh) : List DV:=[.int .i64 x.Lo.X,.int .i64 x.Lo.Y,.int .i64 x.Lo.Z,.int .i64 x.Hi.X,.int .i64 x.Hi.Y,.int .i64 x.Hi.Z]
def Qt (x : List qh) : List DV:=[.sl 6 (x.map Qh)]
noncomputable def Jd (a : qw) (b : Int) : Option Bool:=
  (cond (decide (a.X ≥ b)) (some (decide (a.Y ≥ b))) (some false)).bind fun c=>(cond c (some (decide (a.Z ≥ b))) (some false)).bind fun d=>(cond d (some (decide (a.X≤1000000))) (some false)).bind fun f=>(cond f (some (decide (a.Y≤1000000))) (some false)).bind fun g=>(cond g (some (decide (a.Z≤1000000))) (some false)).bind fun h=>some h
noncomputable def q71 (d : Qr) (c : Int) : Option ((Int) ⊕ ((Unit) ⊕ (Bool))):=
  cond (decide (c < (d.Lines.length : Int))) ((idx d.Lines c).bind fun a=>(idx d.Lines c).bind fun b=>(Jd a.From (-2000000)).bind fun f=>(cond (!f) (some true) ((Jd b.To (-2000000)).bind fun g=>some (!g))).bind fun h=>(cond h (some true) (some (decide ((max (max (max (max (max (w64 (a.From.X - b.To.X)) (w64 (b.To.X - a.From.X))) (w64 (a.From.Y - b.To.Y))) (w64 (b.To.Y - a.From.Y))) (w64 (a.From.Z - b.To.Z))) (w64 (b.To.Z - a.From.Z))) > 30)))).bind fun j=>cond j (some (.inr (.inr true))) (some (.inl (w64 (c + 1))))) (some (.inr (.inl ())))
noncomputable def q72 (b : List (List qh)) (a : Int) : Option ((Int) ⊕ ((Unit) ⊕ (Bool))):=
  cond (decide (a < (b.length : Int))) ((idx b a).bind fun c=>cond (decide ((c.length : Int) > 5)) (some (.inr (.inr true))) (some (.inl (w64 (a + 1))))) (some (.inr (.inl ())))
noncomputable def q70 (a : Qr) (c : List (List qh)) : Option Bool:=
  (cond (decide ((a.Lines.length : Int) > 12)) (some true) (some (decide ((a.Marks.length : Int) > 50)))).bind fun d=>(cond d (some true) (some (decide ((c.length : Int) > 25)))).bind fun f=>cond f (some true) ((loop (q71 a) 0 : Option ((Unit) ⊕ (Bool))).bind fun g=>(match g with | .inl _=>(loop (q72 c) 0 : Option ((Unit) ⊕ (Bool))).bind fun h=>(match h with | .inl _=>some false | .inr b=>some b) | .inr b=>some b))
noncomputable def q7j (b : List K3) (c : K3→Option Bool) (a : Int) : Option ((Int) ⊕ ((Unit) ⊕ (Int))):=
  cond (decide (a < (b.length : Int))) ((idx b a).bind fun d=>(c d).bind fun f=>cond f (some (.inr (.inr a))) (some (.inl (w64 (a + 1))))) (some (.inr (.inl ())))
noncomputable def qee (a : List K3) (b : K3→Option Bool) : Option Int:=
  (loop (q7j a b) 0 : Option ((Unit) ⊕ (Int))).bind fun c=>(match c with | .inl _=>some (-1) | .inr d=>some d)
noncomputable def q7h (a : List K3) (b : K3→Option Bool) : Option Bool:=
  (qee a b).bind fun c=>some (decide (c ≥ 0))
noncomputable def qcb (a : qw) : Option Bool:=
  (cond (decide ((min (min a.X a.Y) a.Z) ≥ (-1000000))) (some (decide ((max (max a.X a.Y) a.Z)≤1000000))) (some false)).bind fun b=>some b
noncomputable def q1l (a : K3) (b : Int × Int) : Option ((Int × Int) ⊕ (Int)):=
  cond (decide (b.2 < 3)) (((idxA 3 [w64 (a.To.X - a.From.X),w64 (a.To.Y - a.From.Y),w64 (a.To.Z - a.From.Z)] b.2).bind fun c=>cond (c == 0) (some (w64 (b.1 + 1))) (some b.1)).bind fun d=>some (.inl (d,w64 (b.2 + 1)))) (some (.inr b.1))
noncomputable def q97 (a : K3) : Option Bool:=
  (loop (q1l a) (0,0)).bind fun b=>(qcb a.From).bind fun c=>(cond (!c) (some true) ((qcb a.To).bind fun d=>some (!d))).bind fun f=>(cond f (some true) (some (decide (b < 2)))).bind fun g=>some g
noncomputable def q7k (b : List Yf) (c : Yf→Option Bool) (a : Int) : Option ((Int) ⊕ ((Unit) ⊕ (Int))):=
  cond (decide (a < (b.length : Int))) ((idx b a).bind fun d=>(c d).bind fun f=>cond f (some (.inr (.inr a))) (some (.inl (w64 (a + 1))))) (some (.inr (.inl ())))
noncomputable def qef (a : List Yf) (b : Yf→Option Bool) : Option Int:=
  (loop (q7k a b) 0 : Option ((Unit) ⊕ (Int))).bind fun c=>(match c with | .inl _=>some (-1) | .inr d=>some d)
noncomputable def qao (a : List Yf) (b : Yf→Option Bool) : Option Bool:=
  (qef a b).bind fun c=>some (decide (c ≥ 0))
noncomputable def q48 (a : qw) (b : Int) : Option Bool:=
  (cond (decide ((min (min a.X a.Y) a.Z) ≥ b)) (some (decide ((max (max a.X a.Y) a.Z)≤1000000))) (some false)).bind fun c=>some c
noncomputable def U7 (a : K0) : Option Int:=
  (cond (decide (a.Turn ≥ 24)) (some true) ((q48 a.At (-1000000)).bind fun b=>some (!b))).bind fun c=>cond c (some 8) (some 0)
noncomputable def q98 (a : Yf) : Option Bool:=
  (U7 a.Frame).bind fun b=>some (b != 0)
noncomputable def q96 (a : Qr) : Option Int:=
  (q7h a.Lines (fun b=>q97 b)).bind fun c=>(qao a.Marks (fun b=>q98 b)).bind fun d=>(cond c (some true) (some d)).bind fun f=>(cond f (some true) ((U7 a.End.Frame).bind fun g=>some (g != 0))).bind fun h=>(cond h (some true) (some (decide ((max (a.Lines.length : Int) (a.Marks.length : Int)) > 2000)))).bind fun j=>cond j (some 8) (some 0)
noncomputable def q99 (a : Int) : Option Int:=
  some (max a (w64 (0 - a)))
noncomputable def q93 (c : Qr) (b : Int × Int) : Option ((Int × Int) ⊕ (Int)):=
  cond (decide (b.2 < (c.Lines.length : Int))) ((idx c.Lines b.2).bind fun a=>(q99 (w64 (a.To.X - a.From.X))).bind fun d=>(q99 (w64 (a.To.Y - a.From.Y))).bind fun f=>(q99 (w64 (a.To.Z - a.From.Z))).bind fun g=>some (.inl (w64 (b.1 + (w64 ((w64 (d + f)) + g))),w64 (b.2 + 1)))) (some (.inr b.1))
noncomputable def q5k (a : Qr) : Option (Int × Int):=
  (q96 a).bind fun b=>cond (b != 0) (some (0,b)) ((loop (q93 a) (0,0)).bind fun c=>some (c,0))
noncomputable def q1i (b : List qh) (c : qh→Option Bool) (a : Int) : Option ((Int) ⊕ ((Unit) ⊕ (Int))):=
  cond (decide (a < (b.length : Int))) ((idx b a).bind fun d=>(c d).bind fun f=>cond f (some (.inr (.inr a))) (some (.inl (w64 (a + 1))))) (some (.inr (.inl ())))
noncomputable def qat (a : List qh) (b : qh→Option Bool) : Option Int:=
  (loop (q1i a b) 0 : Option ((Unit) ⊕ (Int))).bind fun c=>(match c with | .inl _=>some (-1) | .inr d=>some d)
noncomputable def q2a (a : List qh) (b : qh→Option Bool) : Option Bool:=
  (qat a b).bind fun c=>some (decide (c ≥ 0))
noncomputable def q8o (a : qw) : Option Bool:=
  (cond (decide ((min (min a.X a.Y) a.Z) ≥ (-1000000))) (some (decide ((max (max a.X a.Y) a.Z)≤1000000))) (some false)).bind fun b=>some b
noncomputable def q8p (a : qh) : Option Bool:=
  (cond (decide (a.Lo.X < a.Hi.X)) (some (decide (a.Lo.Y < a.Hi.Y))) (some false)).bind fun b=>(cond b (some (decide (a.Lo.Z < a.Hi.Z))) (some false)).bind fun c=>(cond c ((q8o a.Lo).bind fun d=>some d) (some false)).bind fun f=>(cond f ((q8o a.Hi).bind fun g=>some g) (some false)).bind fun h=>some h
noncomputable def q3r (a : qh) : Option Bool:=
  (q8p a).bind fun b=>some (!b)
def qes : ByteArray:=⟨#[0,1,2,2,3,3,3,3,4,4,4,4,4,4,4,4,5,5,5,5,5,5,5,5,5,5,5,5,5,5,5,5,6,6,6,6,6,6,6,6,6,6,6,6,6,6,6,6,6,6,6,6,6,6,6,6,6,6,6,6,6,6,6,6,7,7,7,7,7,7,7,7,7,7,7,7,7,7,7,7,7,7,7,7,7,7,7,7,7,7,7,7,7,7,7,7,7,7,7,7,7,7,7,7,7,7,7,7,7,7,7,7,7,7,7,7,7,7,7,7,7,7,7,7,7,7,7,7,8,8,8,8,8,8,8,8,8,8,8,8,8,8,8,8,8,8,8,8,8,8,8,8,8,8,8,8,8,8,8,8,8,8,8,8,8,8,8,8,8,8,8,8,8,8,8,8,8,8,8,8,8,8,8,8,8,8,8,8,8,8,8,8,8,8,8,8,8,8,8,8,8,8,8,8,8,8,8,8,8,8,8,8,8,8,8,8,8,8,8,8,8,8,8,8,8,8,8,8,8,8,8,8,8,8,8,8,8,8,8,8,8,8,8,8,8,8,8,8,8,8,8,8,8,8,8,8]⟩
noncomputable def q3b (c : Int) : Option Int:=
  (cond (decide (c ≥ 4294967296)) (some (Int.fdiv c (2 ^ 32),32)) (some (c,0))).bind fun a=>(cond (decide (a.1 ≥ 65536)) (some (Int.fdiv a.1 (2 ^ 16),w64 (a.2 + 16))) (some (a.1,a.2))).bind fun b=>(cond (decide (b.1 ≥ 256)) (some (Int.fdiv b.1 (2 ^ 8),w64 (b.2 + 8))) (some (b.1,b.2))).bind fun d=>(q5e qes (IntKind.wrap .u8 d.1)).bind fun f=>some (w64 (d.2 + (w64 f)))
noncomputable def q1d (a : Int) : Option Int:=
  (q3b a).bind fun b=>some b
noncomputable def q9k (a : Int) : Option Bool:=
  some (a != a)
noncomputable def Zf (a : Int) (b : Int) : Option Bool:=
  (q9k a).bind fun c=>(cond c ((q9k b).bind fun d=>some (!d)) (some false)).bind fun f=>(cond f (some true) (some (decide (a < b)))).bind fun g=>some g
noncomputable def q7u (c : Int) (a : Int × List Int) : Option ((Int × List Int) ⊕ (List Int)):=
  (cond (decide (a.1 > c)) ((idx a.2 a.1).bind fun d=>(idx a.2 (w64 (a.1 - 1))).bind fun f=>(Zf d f).bind fun g=>some g) (some false)).bind fun h=>cond h ((idx a.2 (w64 (a.1 - 1))).bind fun b=>(idx a.2 a.1).bind fun j=>(idx a.2 a.1).bind fun _=>(idx (a.2.set a.1.toNat b) (w64 (a.1 - 1))).bind fun _=>some (.inl (w64 (a.1 - 1),(a.2.set a.1.toNat b).set (w64 (a.1 - 1)).toNat j))) (some (.inr a.2))
noncomputable def q7t (b : Int) (c : Int) (a : Int × List Int) : Option ((Int × List Int) ⊕ (List Int)):=
  cond (decide (a.1 < b)) (((loop (q7u c) (a.1,a.2)).bind fun d=>some d).bind fun f=>some (.inl (w64 (a.1 + 1),f))) (some (.inr a.2))
noncomputable def q7s (b : List Int) (a : Int) (c : Int) : Option (List Int):=
  (loop (q7t c a) (w64 (a + 1),b)).bind fun d=>some d
noncomputable def q8g (d : Int) (b : Int) (a : Int × List Int) : Option ((Int × List Int) ⊕ (List Int)):=
  cond (decide ((w64 ((w64 (2 * a.1)) + 1)) ≥ d)) (some (.inr a.2)) ((cond (decide ((w64 ((w64 ((w64 (2 * a.1)) + 1)) + 1)) < d)) ((idx a.2 (w64 (b + (w64 ((w64 (2 * a.1)) + 1))))).bind fun g=>(idx a.2 (w64 ((w64 (b + (w64 ((w64 (2 * a.1)) + 1)))) + 1))).bind fun h=>(Zf g h).bind fun j=>some j) (some false)).bind fun k=>(cond k (some (w64 ((w64 ((w64 (2 * a.1)) + 1)) + 1))) (some (w64 ((w64 (2 * a.1)) + 1)))).bind fun c=>(idx a.2 (w64 (b + a.1))).bind fun l=>(idx a.2 (w64 (b + c))).bind fun m=>(Zf l m).bind fun n=>cond (!n) (some (.inr a.2)) ((idx a.2 (w64 (b + c))).bind fun f=>(idx a.2 (w64 (b + a.1))).bind fun o=>(idx a.2 (w64 (b + a.1))).bind fun _=>(idx (a.2.set (w64 (b + a.1)).toNat f) (w64 (b + c))).bind fun _=>some (.inl (c,(a.2.set (w64 (b + a.1)).toNat f).set (w64 (b + c)).toNat o))))
noncomputable def q58 (a : List Int) (b : Int) (c : Int) (d : Int) : Option (List Int):=
  (loop (q8g c d) (b,a)).bind fun f=>some f
noncomputable def q7q (d : Int) (b : Int) (a : Int × List Int) : Option ((Int × List Int) ⊕ (List Int)):=
  cond (decide (a.1 ≥ 0)) ((q58 a.2 a.1 (w64 (d - b)) b).bind fun c=>(K6 c.length a.2.length).bind fun _=>some (.inl (w64 (a.1 - 1),c))) (some (.inr a.2))
noncomputable def q7r (b : Int) (a : Int × List Int) : Option ((Int × List Int) ⊕ (List Int)):=
  cond (decide (a.1 ≥ 0)) ((idx a.2 (w64 (b + a.1))).bind fun c=>(idx a.2 b).bind fun d=>(idx a.2 b).bind fun _=>(idx (a.2.set b.toNat c) (w64 (b + a.1))).bind fun _=>(q58 ((a.2.set b.toNat c).set (w64 (b + a.1)).toNat d) 0 a.1 b).bind fun f=>(K6 f.length ((a.2.set b.toNat c).set (w64 (b + a.1)).toNat d).length).bind fun _=>some (.inl (w64 (a.1 - 1),f))) (some (.inr a.2))
noncomputable def q7p (c : List Int) (a : Int) (b : Int) : Option (List Int):=
  (loop (q7q b a) (w64 (Int.tdiv (w64 ((w64 (b - a)) - 1)) 2),c)).bind fun d=>(loop (q7r a) (w64 ((w64 (b - a)) - 1),d)).bind fun f=>some f
noncomputable def q3q (c : List Int) (a : Int) (b : Int) (d : Int) : Option (Int × Int × Int):=
  (idx c b).bind fun f=>(idx c a).bind fun g=>(Zf f g).bind fun h=>cond h (some (b,a,w64 (d + 1))) (some (a,b,d))
noncomputable def q52 (a : List Int) (f : Int) (g : Int) (h : Int) (j : Int) : Option (Int × Int):=
  (q3q a f g j).bind fun b=>(q3q a b.2.1 h b.2.2).bind fun c=>(q3q a b.1 c.1 c.2.2).bind fun d=>some (d.2.1,d.2.2)
noncomputable def q3p (c : List Int) (a : Int) (d : Int) : Option (Int × Int):=
  (q52 c (w64 (a - 1)) a (w64 (a + 1)) d).bind fun b=>some (b.1,b.2)
noncomputable def q7o (d : List Int) (a : Int) (b : Int) : Option (Int × Int):=
  (cond (decide ((w64 (b - a)) ≥ 8)) ((cond (decide ((w64 (b - a)) ≥ 50)) ((q3p d (w64 (a + (w64 ((w64 (Int.tdiv (w64 (b - a)) 4)) * 1)))) 0).bind fun g=>(q3p d (w64 (a + (w64 ((w64 (Int.tdiv (w64 (b - a)) 4)) * 2)))) g.2).bind fun h=>(q3p d (w64 (a + (w64 ((w64 (Int.tdiv (w64 (b - a)) 4)) * 3)))) h.2).bind fun j=>some (g.1,h.1,j.1,j.2)) (some (w64 (a + (w64 ((w64 (Int.tdiv (w64 (b - a)) 4)) * 1))),w64 (a + (w64 ((w64 (Int.tdiv (w64 (b - a)) 4)) * 2))),w64 (a + (w64 ((w64 (Int.tdiv (w64 (b - a)) 4)) * 3))),0))).bind fun f=>(q52 d f.1 f.2.1 f.2.2.1 f.2.2.2).bind fun k=>some (k.1,k.2)) (some (w64 (a + (w64 ((w64 (Int.tdiv (w64 (b - a)) 4)) * 2))),0))).bind fun c=>cond (c.2 == 0) (some (c.1,1)) (cond (c.2 == 12) (some (c.1,2)) (some (c.1,0)))
noncomputable def qbk (a : Int × Int × List Int) : Option ((Int × Int × List Int) ⊕ (List Int)):=
  cond (decide (a.1 < a.2.1)) ((idx a.2.2 a.2.1).bind fun b=>(idx a.2.2 a.1).bind fun c=>(idx a.2.2 a.1).bind fun _=>(idx (a.2.2.set a.1.toNat b) a.2.1).bind fun _=>some (.inl (w64 (a.1 + 1),w64 (a.2.1 - 1),(a.2.2.set a.1.toNat b).set a.2.1.toNat c))) (some (.inr a.2.2))
noncomputable def q8e (a : List Int) (b : Int) (c : Int) : Option (List Int):=
  (loop qbk (b,w64 (c - 1),a)).bind fun d=>some d
noncomputable def q7y (c : Int) (b : Int × Int × List Int) (a : Int) : Option ((Int) ⊕ (Int)):=
  (cond (decide (a < c)) ((idx b.2.2 a).bind fun d=>(idx b.2.2 (w64 (a - 1))).bind fun f=>(Zf d f).bind fun g=>some (!g)) (some false)).bind fun h=>cond h (some (.inl (w64 (a + 1)))) (some (.inr a))
noncomputable def qb7 (a : Int × List Int) : Option ((Int × List Int) ⊕ (List Int)):=
  cond (decide (a.1 ≥ 1)) ((idx a.2 a.1).bind fun c=>(idx a.2 (w64 (a.1 - 1))).bind fun d=>(Zf c d).bind fun f=>cond (!f) (some (.inr a.2)) ((idx a.2 (w64 (a.1 - 1))).bind fun b=>(idx a.2 a.1).bind fun g=>(idx a.2 a.1).bind fun _=>(idx (a.2.set a.1.toNat b) (w64 (a.1 - 1))).bind fun _=>some (.inl (w64 (a.1 - 1),(a.2.set a.1.toNat b).set (w64 (a.1 - 1)).toNat g)))) (some (.inr a.2))
noncomputable def q7z (d : Int) (b : Int) (a : Int × List Int) : Option ((Int × List Int) ⊕ (Int × List Int)):=
  cond (decide (a.1 < d)) ((idx a.2 a.1).bind fun f=>(idx a.2 (w64 (a.1 - 1))).bind fun g=>(Zf f g).bind fun h=>cond (!h) (some (.inr (b,a.2))) ((idx a.2 (w64 (a.1 - 1))).bind fun c=>(idx a.2 a.1).bind fun j=>(idx a.2 a.1).bind fun _=>(idx (a.2.set a.1.toNat c) (w64 (a.1 - 1))).bind fun _=>some (.inl (w64 (a.1 + 1),(a.2.set a.1.toNat c).set (w64 (a.1 - 1)).toNat j)))) (some (.inr (b,a.2)))
noncomputable def q55 (c : Int) (g : Int) (b : Int × Int × List Int) : Option ((Int × Int × List Int) ⊕ ((List Int) ⊕ (Bool × List Int))):=
  cond (decide (b.2.1 < 5)) (((loop (q7y c b) b.1).bind fun a=>cond (a == c) (some (.inr (true,b.2.2))) (cond (decide ((w64 (c - g)) < 50)) (some (.inr (false,b.2.2))) ((idx b.2.2 (w64 (a - 1))).bind fun d=>(idx b.2.2 a).bind fun h=>(idx b.2.2 a).bind fun _=>(idx (b.2.2.set a.toNat d) (w64 (a - 1))).bind fun _=>(cond (decide ((w64 (a - g)) ≥ 2)) ((loop qb7 (w64 (a - 1),(b.2.2.set a.toNat d).set (w64 (a - 1)).toNat h)).bind fun f=>some f) (some ((b.2.2.set a.toNat d).set (w64 (a - 1)).toNat h))).bind fun j=>cond (decide ((w64 (c - a)) ≥ 2)) ((loop (q7z c a) (w64 (a + 1),j)).bind fun f=>some (.inl f)) (some (.inl (a,j))))) : Option ((Int × List Int) ⊕ (Bool × List Int))).bind fun l=>(match l with | .inl k=>some (.inl (k.1,w64 (b.2.1 + 1),k.2)) | .inr m=>some (.inr (.inr m)))) (some (.inr (.inl b.2.2)))
noncomputable def q54 (b : List Int) (a : Int) (c : Int) : Option (Bool × List Int):=
  (loop (q55 c a) (w64 (a + 1),0,b) : Option ((List Int) ⊕ (Bool × List Int))).bind fun d=>(match d with | .inl f=>some (false,f) | .inr g=>some g)
noncomputable def q82 (b : Int × Int × List Int) (c : Int) (a : Int) : Option ((Int) ⊕ (Int)):=
  (cond (decide (a≤b.2.1)) ((idx b.2.2 c).bind fun d=>(idx b.2.2 a).bind fun f=>(Zf d f).bind fun g=>some (!g)) (some false)).bind fun h=>cond h (some (.inl (w64 (a + 1)))) (some (.inr a))
noncomputable def q83 (c : Int) (b : Int × Int × List Int) (d : Int) (a : Int) : Option ((Int) ⊕ (Int)):=
  (cond (decide (c≤a)) ((idx b.2.2 d).bind fun f=>(idx b.2.2 a).bind fun g=>(Zf f g).bind fun h=>some h) (some false)).bind fun j=>cond j (some (.inl (w64 (a - 1)))) (some (.inr a))
noncomputable def q81 (d : Int) (a : Int × Int × List Int) : Option ((Int × Int × List Int) ⊕ (Int × List Int)):=
  (loop (q82 a d) a.1).bind fun b=>(loop (q83 b a d) a.2.1).bind fun c=>cond (decide (b > c)) (some (.inr (b,a.2.2))) ((idx a.2.2 c).bind fun f=>(idx a.2.2 b).bind fun g=>(idx a.2.2 b).bind fun _=>(idx (a.2.2.set b.toNat f) c).bind fun _=>some (.inl (w64 (b + 1),w64 (c - 1),(a.2.2.set b.toNat f).set c.toNat g)))
noncomputable def q80 (b : List Int) (a : Int) (g : Int) (c : Int) : Option (Int × List Int):=
  (idx b c).bind fun d=>(idx b a).bind fun h=>(idx b a).bind fun _=>(idx (b.set a.toNat d) c).bind fun _=>(loop (q81 a) (w64 (a + 1),w64 (g - 1),(b.set a.toNat d).set c.toNat h)).bind fun f=>some (f.1,f.2)
noncomputable def q85 (h : Int) (c : List Int) (b : Int) (d : Int) (f : Int) (g : Int) (a : Int) : Option ((Int) ⊕ (Int)):=
  (cond (decide (a≤(w64 (h - 1)))) ((idx ((c.set b.toNat d).set f.toNat g) a).bind fun j=>(idx ((c.set b.toNat d).set f.toNat g) b).bind fun k=>(Zf j k).bind fun l=>some l) (some false)).bind fun m=>cond m (some (.inl (w64 (a + 1)))) (some (.inr a))
noncomputable def q86 (h : Int) (c : List Int) (b : Int) (d : Int) (f : Int) (g : Int) (a : Int) : Option ((Int) ⊕ (Int)):=
  (cond (decide (h≤a)) ((idx ((c.set b.toNat d).set f.toNat g) a).bind fun j=>(idx ((c.set b.toNat d).set f.toNat g) b).bind fun k=>(Zf j k).bind fun l=>some (!l)) (some false)).bind fun m=>cond m (some (.inl (w64 (a - 1)))) (some (.inr a))
noncomputable def q88 (b : Int × Int × List Int) (c : Int) (a : Int) : Option ((Int) ⊕ (Int)):=
  (cond (decide (a≤b.2.1)) ((idx b.2.2 a).bind fun d=>(idx b.2.2 c).bind fun f=>(Zf d f).bind fun g=>some g) (some false)).bind fun h=>cond h (some (.inl (w64 (a + 1)))) (some (.inr a))
noncomputable def q89 (c : Int) (b : Int × Int × List Int) (d : Int) (a : Int) : Option ((Int) ⊕ (Int)):=
  (cond (decide (c≤a)) ((idx b.2.2 a).bind fun f=>(idx b.2.2 d).bind fun g=>(Zf f g).bind fun h=>some (!h)) (some false)).bind fun j=>cond j (some (.inl (w64 (a - 1)))) (some (.inr a))
noncomputable def q87 (d : Int) (a : Int × Int × List Int) : Option ((Int × Int × List Int) ⊕ (Int × List Int)):=
  (loop (q88 a d) a.1).bind fun b=>(loop (q89 b a d) a.2.1).bind fun c=>cond (decide (b > c)) (some (.inr (c,a.2.2))) ((idx a.2.2 c).bind fun f=>(idx a.2.2 b).bind fun g=>(idx a.2.2 b).bind fun _=>(idx (a.2.2.set b.toNat f) c).bind fun _=>some (.inl (w64 (b + 1),w64 (c - 1),(a.2.2.set b.toNat f).set c.toNat g)))
noncomputable def q84 (b : List Int) (a : Int) (k : Int) (c : Int) : Option (Int × Bool × List Int):=
  (idx b c).bind fun d=>(idx b a).bind fun f=>(idx b a).bind fun _=>(idx (b.set a.toNat d) c).bind fun _=>(loop (q85 k b a d c f) (w64 (a + 1))).bind fun j=>(loop (q86 j b a d c f) (w64 (k - 1))).bind fun g=>cond (decide (j > g)) ((idx ((b.set a.toNat d).set c.toNat f) a).bind fun l=>(idx ((b.set a.toNat d).set c.toNat f) g).bind fun o=>(idx ((b.set a.toNat d).set c.toNat f) g).bind fun _=>(idx (((b.set a.toNat d).set c.toNat f).set g.toNat l) a).bind fun _=>some (g,true,(((b.set a.toNat d).set c.toNat f).set g.toNat l).set a.toNat o)) ((idx ((b.set a.toNat d).set c.toNat f) g).bind fun m=>(idx ((b.set a.toNat d).set c.toNat f) j).bind fun p=>(idx ((b.set a.toNat d).set c.toNat f) j).bind fun _=>(idx (((b.set a.toNat d).set c.toNat f).set j.toNat m) g).bind fun _=>(loop (q87 a) (w64 (j + 1),w64 (g - 1),(((b.set a.toNat d).set c.toNat f).set j.toNat m).set g.toNat p)).bind fun h=>(idx h.2 a).bind fun n=>(idx h.2 h.1).bind fun q=>(idx h.2 h.1).bind fun _=>(idx (h.2.set h.1.toNat n) a).bind fun _=>some (h.1,false,(h.2.set h.1.toNat n).set a.toNat q))
noncomputable def q2b (a : Int) : Option Int:=
  (q1d (IntKind.wrap .u64 a)).bind fun b=>(shlK .u64 1 b).bind fun c=>some c
noncomputable def q2c (a : Int) : Option Int:=
  some (xorI .u64 (xorI .u64 (xorI .u64 a (IntKind.wrap .u64 (a * (2 ^ 13)))) (Int.fdiv (xorI .u64 a (IntKind.wrap .u64 (a * (2 ^ 13)))) (2 ^ 7))) (IntKind.wrap .u64 ((xorI .u64 (xorI .u64 a (IntKind.wrap .u64 (a * (2 ^ 13)))) (Int.fdiv (xorI .u64 a (IntKind.wrap .u64 (a * (2 ^ 13)))) (2 ^ 7))) * (2 ^ 17))))
noncomputable def q7n (b : Int) (d : Int) (f : Int) (a : Int × List Int × Int) : Option ((Int × List Int × Int) ⊕ (List Int)):=
  cond (decide (a.1≤(w64 ((w64 (b + (w64 ((w64 (Int.tdiv (w64 (d - b)) 4)) * 2)))) + 1)))) ((q2c a.2.2).bind fun c=>(cond (decide ((w64 (andI .u64 c (IntKind.wrap .u64 (f - 1)))) ≥ (w64 (d - b)))) (some (w64 ((w64 (andI .u64 c (IntKind.wrap .u64 (f - 1)))) - (w64 (d - b))))) (some (w64 (andI .u64 c (IntKind.wrap .u64 (f - 1)))))).bind fun g=>(idx a.2.1 (w64 (b + g))).bind fun h=>(idx a.2.1 a.1).bind fun j=>(idx a.2.1 a.1).bind fun _=>(idx (a.2.1.set a.1.toNat h) (w64 (b + g))).bind fun _=>some (.inl (w64 (a.1 + 1),(a.2.1.set a.1.toNat h).set (w64 (b + g)).toNat j,c))) (some (.inr a.2.1))
noncomputable def q7m (c : List Int) (a : Int) (b : Int) : Option (List Int):=
  cond (decide ((w64 (b - a)) ≥ 8)) ((q2b (w64 (b - a))).bind fun d=>(loop (q7n a b d) (w64 ((w64 (a + (w64 ((w64 (Int.tdiv (w64 (b - a)) 4)) * 2)))) - 1),c,IntKind.wrap .u64 (w64 (b - a)))).bind fun f=>some f) (some c)
noncomputable def q56 (rec : List Int→Int→Int→Int→Option (List Int)) (a : Int × Int × Int × Bool × Bool × List Int) : Option ((Int × Int × Int × Bool × Bool × List Int) ⊕ (List Int)):=
  cond (decide ((w64 (a.2.1 - a.1))≤12)) ((q7s a.2.2.2.2.2 a.1 a.2.1).bind fun k=>(K6 k.length a.2.2.2.2.2.length).bind fun _=>some (.inr k)) (cond (a.2.2.1 == 0) ((q7p a.2.2.2.2.2 a.1 a.2.1).bind fun l=>(K6 l.length a.2.2.2.2.2.length).bind fun _=>some (.inr l)) ((cond (!a.2.2.2.1) ((q7m a.2.2.2.2.2 a.1 a.2.1).bind fun m=>(K6 m.length a.2.2.2.2.2.length).bind fun _=>some (w64 (a.2.2.1 - 1),m)) (some (a.2.2.1,a.2.2.2.2.2))).bind fun c=>(q7o c.2 a.1 a.2.1).bind fun g=>(cond (g.2 == 2) ((q8e c.2 a.1 a.2.1).bind fun n=>(K6 n.length c.2.length).bind fun _=>some (w64 ((w64 (a.2.1 - 1)) - (w64 (g.1 - a.1))),1,n)) (some (g.1,g.2,c.2))).bind fun d=>(cond a.2.2.2.1 (some a.2.2.2.2.1) (some false)).bind fun q=>(cond q (some (d.2.1 == 1)) (some false)).bind fun r=>(cond r ((q54 d.2.2 a.1 a.2.1).bind fun h=>(K6 h.2.length d.2.2.length).bind fun _=>cond h.1 (some (.inr h.2)) (some (.inl h.2))) (some (.inl d.2.2)) : Option ((List Int) ⊕ (List Int))).bind fun s=>(match s with | .inl f=>(cond (decide (a.1 > 0)) ((idx f (w64 (a.1 - 1))).bind fun t=>(idx f d.1).bind fun u=>(Zf t u).bind fun v=>some (!v)) (some false)).bind fun w=>cond w ((q80 f a.1 a.2.1 d.1).bind fun j=>(K6 j.2.length f.length).bind fun _=>some (.inl (j.1,a.2.1,c.1,a.2.2.2.1,a.2.2.2.2.1,j.2))) ((q84 f a.1 a.2.1 d.1).bind fun b=>(K6 b.2.2.length f.length).bind fun _=>cond (decide ((w64 (b.1 - a.1)) < (w64 (a.2.1 - b.1)))) ((rec b.2.2 a.1 b.1 c.1).bind fun o=>(K6 o.length b.2.2.length).bind fun _=>some (.inl (w64 (b.1 + 1),a.2.1,c.1,decide ((w64 (b.1 - a.1)) ≥ (w64 (Int.tdiv (w64 (a.2.1 - a.1)) 8))),b.2.1,o))) ((rec b.2.2 (w64 (b.1 + 1)) a.2.1 c.1).bind fun p=>(K6 p.length b.2.2.length).bind fun _=>some (.inl (a.1,b.1,c.1,decide ((w64 (a.2.1 - b.1)) ≥ (w64 (Int.tdiv (w64 (a.2.1 - a.1)) 8))),b.2.1,p)))) | .inr x=>some (.inr x))))
noncomputable def q57 (rec : List Int→Int→Int→Int→Option (List Int)) (a : List Int) (b : Int) (c : Int) (d : Int) : Option (List Int):=
  (loop (q56 rec) (b,c,d,true,true,a)).bind fun f=>some f
noncomputable def q8d : Nat→List Int→Int→Int→Int→Option (List Int)
  | 0,_,_,_,_=>none
  | n + 1,a,b,c,d=>q57 (q8d n)  a b c d
noncomputable def Ud (a : List Int) : Option (List Int):=
  (q1d (IntKind.wrap .u64 (a.length : Int))).bind fun c=>(lim (fun n=>q8d n a 0 (a.length : Int) c)).bind fun b=>(K6 b.length a.length).bind fun _=>some b
noncomputable def q29 (a : Int × (Nat × Nat) × Int × List Int) : Option ((Int × (Nat × Nat) × Int × List Int) ⊕ (Int × List Int)):=
  cond (decide (a.2.2.1 < (a.2.1.2 : Int))) (((idxW a.2.2.2 a.2.1 a.2.2.1).bind fun c=>(idxW a.2.2.2 a.2.1 (w64 (a.2.2.1 - 1))).bind fun d=>cond (c != d) ((idxW a.2.2.2 a.2.1 a.2.2.1).bind fun f=>(idx a.2.2.2 a.1).bind fun _=>some (w64 (a.1 + 1),a.2.1,a.2.2.2.set a.1.toNat f)) (some (a.1,a.2.1,a.2.2.2))).bind fun b=>some (.inl (b.1,b.2.1,w64 (a.2.2.1 + 1),b.2.2))) (some (.inr (a.1,a.2.2.2)))
noncomputable def Jr (a : List Int) (b : Int) : Option ((Int) ⊕ ((Unit) ⊕ ((Nat × Nat) × List Int))):=
  cond (decide (b < (a.length : Int))) ((idx a b).bind fun d=>(idx a (w64 (b - 1))).bind fun f=>cond (d == f) ((sub2 a.length b a.length).bind fun g=>(loop q29 (b,g,1,a)).bind fun c=>(sub2 c.2.length c.1 c.2.length).bind fun h=>(sub2 c.2.length 0 c.1).bind fun j=>some (.inr (.inr (j,clrw c.2 h 0)))) (some (.inl (w64 (b + 1))))) (some (.inr (.inl ())))
noncomputable def q1h (a : List Int) : Option ((Nat × Nat) × List Int):=
  cond (decide ((a.length : Int) < 2)) (some ((0,a.length),a)) ((loop (Jr a) 1 : Option ((Unit) ⊕ ((Nat × Nat) × List Int))).bind fun b=>(match b with | .inl _=>some ((0,a.length),a) | .inr c=>some c))
structure qj where
  X0 : Int
  Y0 : Int
  X1 : Int
  Y1 : Int
  deriving DecidableEq
def Q5 (x : qj) : List DV:=[.int .i64 x.X0,.int .i64 x.Y0,.int .i64 x.X1,.int .i64 x.Y1]
noncomputable def q4z (b : List qj) (c : qj→Option Bool) (a : Int) : Option ((Int) ⊕ ((Unit) ⊕ (Int))):=
  cond (decide (a < (b.length : Int))) ((idx b a).bind fun d=>(c d).bind fun f=>cond f (some (.inr (.inr a))) (some (.inl (w64 (a + 1))))) (some (.inr (.inl ())))
noncomputable def qeg (a : List qj) (b : qj→Option Bool) : Option Int:=
  (loop (q4z a b) 0 : Option ((Unit) ⊕ (Int))).bind fun c=>(match c with | .inl _=>some (-1) | .inr d=>some d)
noncomputable def qap (a : List qj) (b : qj→Option Bool) : Option Bool:=
  (qeg a b).bind fun c=>some (decide (c ≥ 0))
noncomputable def q3j (a : Int) : Option Bool:=
  (cond (decide (a ≥ (-1000000))) (some (decide (a≤1000000))) (some false)).bind fun b=>some b
noncomputable def q7b (a : qj) : Option Bool:=
  (cond (decide (a.X0 < a.X1)) (some (decide (a.Y0 < a.Y1))) (some false)).bind fun b=>(cond b ((q3j a.X0).bind fun c=>some c) (some false)).bind fun d=>(cond d ((q3j a.X1).bind fun f=>some f) (some false)).bind fun g=>(cond g ((q3j a.Y0).bind fun h=>some h) (some false)).bind fun j=>(cond j ((q3j a.Y1).bind fun k=>some k) (some false)).bind fun l=>some l
noncomputable def q3i (a : qj) : Option Bool:=
  (q7b a).bind fun b=>some (!b)
def Kv (x : List qj) : List DV:=[.sl 4 (x.map Q5)]
structure qn where
  Lo : Int
  Hi : Int
  deriving DecidableEq
def Qo (x : qn) : List DV:=[.int .i64 x.Lo,.int .i64 x.Hi]
noncomputable def q3o (b : List qn) (c : qn→Option Bool) (a : Int) : Option ((Int) ⊕ ((Unit) ⊕ (Int))):=
  cond (decide (a < (b.length : Int))) ((idx b a).bind fun d=>(c d).bind fun f=>cond f (some (.inr (.inr a))) (some (.inl (w64 (a + 1))))) (some (.inr (.inl ())))
noncomputable def qau (a : List qn) (b : qn→Option Bool) : Option Int:=
  (loop (q3o a b) 0 : Option ((Unit) ⊕ (Int))).bind fun c=>(match c with | .inl _=>some (-1) | .inr d=>some d)
noncomputable def qar (a : List qn) (b : qn→Option Bool) : Option Bool:=
  (qau a b).bind fun c=>some (decide (c ≥ 0))
noncomputable def q3v (a : qn) : Option Bool:=
  (cond (decide (a.Lo < a.Hi)) (some (decide (a.Lo ≥ (-1000000)))) (some false)).bind fun b=>(cond b (some (decide (a.Hi≤1000000))) (some false)).bind fun c=>some c
noncomputable def qeq (a : qn) : Option Bool:=
  (q3v a).bind fun b=>some (!b)
def q1p (x : List qn) : List DV:=[.sl 2 (x.map Qo)]
structure qq where
  at_ : Int
  list_ : Int
  by_ : Int
  deriving DecidableEq
def Qs (x : qq) : List DV:=[.int .i64 x.at_,.int .i64 x.list_,.int .i64 x.by_]
noncomputable def qbu (a : qq) (b : qq) : Option Int:=
  some (w64 (a.at_ - b.at_))
noncomputable def qb3 (c : Int) (d : qq→qq→Option Int) (a : Int × List qq) : Option ((Int × List qq) ⊕ (List qq)):=
  (cond (decide (a.1 > c)) ((idx a.2 a.1).bind fun f=>(idx a.2 (w64 (a.1 - 1))).bind fun g=>(d f g).bind fun h=>some (decide (h < 0))) (some false)).bind fun j=>cond j ((idx a.2 (w64 (a.1 - 1))).bind fun b=>(idx a.2 a.1).bind fun k=>(idx a.2 a.1).bind fun _=>(idx (a.2.set a.1.toNat b) (w64 (a.1 - 1))).bind fun _=>some (.inl (w64 (a.1 - 1),(a.2.set a.1.toNat b).set (w64 (a.1 - 1)).toNat k))) (some (.inr a.2))
noncomputable def qb2 (b : Int) (c : Int) (d : qq→qq→Option Int) (a : Int × List qq) : Option ((Int × List qq) ⊕ (List qq)):=
  cond (decide (a.1 < b)) (((loop (qb3 c d) (a.1,a.2)).bind fun f=>some f).bind fun g=>some (.inl (w64 (a.1 + 1),g))) (some (.inr a.2))
noncomputable def qb1 (b : qq→qq→Option Int) (c : List qq) (a : Int) (d : Int) : Option (List qq):=
  (loop (qb2 d a b) (w64 (a + 1),c)).bind fun f=>some f
noncomputable def qbl (d : Int) (b : Int) (f : qq→qq→Option Int) (a : Int × List qq) : Option ((Int × List qq) ⊕ (List qq)):=
  cond (decide ((w64 ((w64 (2 * a.1)) + 1)) ≥ d)) (some (.inr a.2)) ((cond (decide ((w64 ((w64 ((w64 (2 * a.1)) + 1)) + 1)) < d)) ((idx a.2 (w64 (b + (w64 ((w64 (2 * a.1)) + 1))))).bind fun h=>(idx a.2 (w64 ((w64 (b + (w64 ((w64 (2 * a.1)) + 1)))) + 1))).bind fun j=>(f h j).bind fun k=>some (decide (k < 0))) (some false)).bind fun l=>(cond l (some (w64 ((w64 ((w64 (2 * a.1)) + 1)) + 1))) (some (w64 ((w64 (2 * a.1)) + 1)))).bind fun c=>(idx a.2 (w64 (b + a.1))).bind fun m=>(idx a.2 (w64 (b + c))).bind fun n=>(f m n).bind fun o=>cond (!(decide (o < 0))) (some (.inr a.2)) ((idx a.2 (w64 (b + c))).bind fun g=>(idx a.2 (w64 (b + a.1))).bind fun p=>(idx a.2 (w64 (b + a.1))).bind fun _=>(idx (a.2.set (w64 (b + a.1)).toNat g) (w64 (b + c))).bind fun _=>some (.inl (c,(a.2.set (w64 (b + a.1)).toNat g).set (w64 (b + c)).toNat p))))
noncomputable def q8f (a : qq→qq→Option Int) (b : List qq) (c : Int) (d : Int) (f : Int) : Option (List qq):=
  (loop (qbl d f a) (c,b)).bind fun g=>some g
noncomputable def qaz (d : qq→qq→Option Int) (f : Int) (b : Int) (a : Int × List qq) : Option ((Int × List qq) ⊕ (List qq)):=
  cond (decide (a.1 ≥ 0)) ((q8f d a.2 a.1 (w64 (f - b)) b).bind fun c=>(K6 c.length a.2.length).bind fun _=>some (.inl (w64 (a.1 - 1),c))) (some (.inr a.2))
noncomputable def qb0 (b : Int) (g : qq→qq→Option Int) (a : Int × List qq) : Option ((Int × List qq) ⊕ (List qq)):=
  cond (decide (a.1 ≥ 0)) ((idx a.2 (w64 (b + a.1))).bind fun c=>(idx a.2 b).bind fun d=>(idx a.2 b).bind fun _=>(idx (a.2.set b.toNat c) (w64 (b + a.1))).bind fun _=>(q8f g ((a.2.set b.toNat c).set (w64 (b + a.1)).toNat d) 0 a.1 b).bind fun f=>(K6 f.length ((a.2.set b.toNat c).set (w64 (b + a.1)).toNat d).length).bind fun _=>some (.inl (w64 (a.1 - 1),f))) (some (.inr a.2))
noncomputable def qay (c : qq→qq→Option Int) (d : List qq) (a : Int) (b : Int) : Option (List qq):=
  (loop (qaz c b a) (w64 (Int.tdiv (w64 ((w64 (b - a)) - 1)) 2),d)).bind fun f=>(loop (qb0 a c) (w64 ((w64 (b - a)) - 1),f)).bind fun g=>some g
noncomputable def q53 (f : qq→qq→Option Int) (c : List qq) (a : Int) (b : Int) (d : Int) : Option (Int × Int × Int):=
  (idx c b).bind fun g=>(idx c a).bind fun h=>(f g h).bind fun j=>cond (decide (j < 0)) (some (b,a,w64 (d + 1))) (some (a,b,d))
noncomputable def q7v (a : qq→qq→Option Int) (b : List qq) (g : Int) (h : Int) (j : Int) (k : Int) : Option (Int × Int):=
  (q53 a b g h k).bind fun c=>(q53 a b c.2.1 j c.2.2).bind fun d=>(q53 a b c.1 d.1 d.2.2).bind fun f=>some (f.2.1,f.2.2)
noncomputable def q51 (c : qq→qq→Option Int) (d : List qq) (a : Int) (f : Int) : Option (Int × Int):=
  (q7v c d (w64 (a - 1)) a (w64 (a + 1)) f).bind fun b=>some (b.1,b.2)
noncomputable def qax (d : List qq) (a : Int) (b : Int) (f : qq→qq→Option Int) : Option (Int × Int):=
  (cond (decide ((w64 (b - a)) ≥ 8)) ((cond (decide ((w64 (b - a)) ≥ 50)) ((q51 f d (w64 (a + (w64 ((w64 (Int.tdiv (w64 (b - a)) 4)) * 1)))) 0).bind fun h=>(q51 f d (w64 (a + (w64 ((w64 (Int.tdiv (w64 (b - a)) 4)) * 2)))) h.2).bind fun j=>(q51 f d (w64 (a + (w64 ((w64 (Int.tdiv (w64 (b - a)) 4)) * 3)))) j.2).bind fun k=>some (h.1,j.1,k.1,k.2)) (some (w64 (a + (w64 ((w64 (Int.tdiv (w64 (b - a)) 4)) * 1))),w64 (a + (w64 ((w64 (Int.tdiv (w64 (b - a)) 4)) * 2))),w64 (a + (w64 ((w64 (Int.tdiv (w64 (b - a)) 4)) * 3))),0))).bind fun g=>(q7v f d g.1 g.2.1 g.2.2.1 g.2.2.2).bind fun l=>some (l.1,l.2)) (some (w64 (a + (w64 ((w64 (Int.tdiv (w64 (b - a)) 4)) * 2))),0))).bind fun c=>cond (c.2 == 0) (some (c.1,1)) (cond (c.2 == 12) (some (c.1,2)) (some (c.1,0)))
noncomputable def qbj (a : Int × Int × List qq) : Option ((Int × Int × List qq) ⊕ (List qq)):=
  cond (decide (a.1 < a.2.1)) ((idx a.2.2 a.2.1).bind fun b=>(idx a.2.2 a.1).bind fun c=>(idx a.2.2 a.1).bind fun _=>(idx (a.2.2.set a.1.toNat b) a.2.1).bind fun _=>some (.inl (w64 (a.1 + 1),w64 (a.2.1 - 1),(a.2.2.set a.1.toNat b).set a.2.1.toNat c))) (some (.inr a.2.2))
noncomputable def qbi (f : qq→qq→Option Int) (a : List qq) (b : Int) (c : Int) : Option (List qq):=
  (loop qbj (b,w64 (c - 1),a)).bind fun d=>some d
noncomputable def qb4 (c : Int) (b : Int × Int × List qq) (d : qq→qq→Option Int) (a : Int) : Option ((Int) ⊕ (Int)):=
  (cond (decide (a < c)) ((idx b.2.2 a).bind fun f=>(idx b.2.2 (w64 (a - 1))).bind fun g=>(d f g).bind fun h=>some (!(decide (h < 0)))) (some false)).bind fun j=>cond j (some (.inl (w64 (a + 1)))) (some (.inr a))
noncomputable def qb5 (c : qq→qq→Option Int) (a : Int × List qq) : Option ((Int × List qq) ⊕ (List qq)):=
  cond (decide (a.1 ≥ 1)) ((idx a.2 a.1).bind fun d=>(idx a.2 (w64 (a.1 - 1))).bind fun f=>(c d f).bind fun g=>cond (!(decide (g < 0))) (some (.inr a.2)) ((idx a.2 (w64 (a.1 - 1))).bind fun b=>(idx a.2 a.1).bind fun h=>(idx a.2 a.1).bind fun _=>(idx (a.2.set a.1.toNat b) (w64 (a.1 - 1))).bind fun _=>some (.inl (w64 (a.1 - 1),(a.2.set a.1.toNat b).set (w64 (a.1 - 1)).toNat h)))) (some (.inr a.2))
noncomputable def qb6 (d : Int) (f : qq→qq→Option Int) (b : Int) (a : Int × List qq) : Option ((Int × List qq) ⊕ (Int × List qq)):=
  cond (decide (a.1 < d)) ((idx a.2 a.1).bind fun g=>(idx a.2 (w64 (a.1 - 1))).bind fun h=>(f g h).bind fun j=>cond (!(decide (j < 0))) (some (.inr (b,a.2))) ((idx a.2 (w64 (a.1 - 1))).bind fun c=>(idx a.2 a.1).bind fun k=>(idx a.2 a.1).bind fun _=>(idx (a.2.set a.1.toNat c) (w64 (a.1 - 1))).bind fun _=>some (.inl (w64 (a.1 + 1),(a.2.set a.1.toNat c).set (w64 (a.1 - 1)).toNat k)))) (some (.inr (b,a.2)))
noncomputable def q7x (c : Int) (d : qq→qq→Option Int) (h : Int) (b : Int × Int × List qq) : Option ((Int × Int × List qq) ⊕ ((List qq) ⊕ (Bool × List qq))):=
  cond (decide (b.2.1 < 5)) (((loop (qb4 c b d) b.1).bind fun a=>cond (a == c) (some (.inr (true,b.2.2))) (cond (decide ((w64 (c - h)) < 50)) (some (.inr (false,b.2.2))) ((idx b.2.2 (w64 (a - 1))).bind fun f=>(idx b.2.2 a).bind fun j=>(idx b.2.2 a).bind fun _=>(idx (b.2.2.set a.toNat f) (w64 (a - 1))).bind fun _=>(cond (decide ((w64 (a - h)) ≥ 2)) ((loop (qb5 d) (w64 (a - 1),(b.2.2.set a.toNat f).set (w64 (a - 1)).toNat j)).bind fun g=>some g) (some ((b.2.2.set a.toNat f).set (w64 (a - 1)).toNat j))).bind fun k=>cond (decide ((w64 (c - a)) ≥ 2)) ((loop (qb6 c d a) (w64 (a + 1),k)).bind fun g=>some (.inl g)) (some (.inl (a,k))))) : Option ((Int × List qq) ⊕ (Bool × List qq))).bind fun m=>(match m with | .inl l=>some (.inl (l.1,w64 (b.2.1 + 1),l.2)) | .inr n=>some (.inr (.inr n)))) (some (.inr (.inl b.2.2)))
noncomputable def q7w (b : qq→qq→Option Int) (c : List qq) (a : Int) (d : Int) : Option (Bool × List qq):=
  (loop (q7x d b a) (w64 (a + 1),0,c) : Option ((List qq) ⊕ (Bool × List qq))).bind fun f=>(match f with | .inl g=>some (false,g) | .inr h=>some h)
noncomputable def qbg (b : Int × Int × List qq) (c : Int) (d : qq→qq→Option Int) (a : Int) : Option ((Int) ⊕ (Int)):=
  (cond (decide (a≤b.2.1)) ((idx b.2.2 c).bind fun f=>(idx b.2.2 a).bind fun g=>(d f g).bind fun h=>some (!(decide (h < 0)))) (some false)).bind fun j=>cond j (some (.inl (w64 (a + 1)))) (some (.inr a))
noncomputable def qbh (c : Int) (b : Int × Int × List qq) (d : Int) (f : qq→qq→Option Int) (a : Int) : Option ((Int) ⊕ (Int)):=
  (cond (decide (c≤a)) ((idx b.2.2 d).bind fun g=>(idx b.2.2 a).bind fun h=>(f g h).bind fun j=>some (decide (j < 0))) (some false)).bind fun k=>cond k (some (.inl (w64 (a - 1)))) (some (.inr a))
noncomputable def qbf (d : Int) (f : qq→qq→Option Int) (a : Int × Int × List qq) : Option ((Int × Int × List qq) ⊕ (Int × List qq)):=
  (loop (qbg a d f) a.1).bind fun b=>(loop (qbh b a d f) a.2.1).bind fun c=>cond (decide (b > c)) (some (.inr (b,a.2.2))) ((idx a.2.2 c).bind fun g=>(idx a.2.2 b).bind fun h=>(idx a.2.2 b).bind fun _=>(idx (a.2.2.set b.toNat g) c).bind fun _=>some (.inl (w64 (b + 1),w64 (c - 1),(a.2.2.set b.toNat g).set c.toNat h)))
noncomputable def qbe (g : qq→qq→Option Int) (b : List qq) (a : Int) (h : Int) (c : Int) : Option (Int × List qq):=
  (idx b c).bind fun d=>(idx b a).bind fun j=>(idx b a).bind fun _=>(idx (b.set a.toNat d) c).bind fun _=>(loop (qbf a g) (w64 (a + 1),w64 (h - 1),(b.set a.toNat d).set c.toNat j)).bind fun f=>some (f.1,f.2)
noncomputable def qb9 (h : Int) (c : List qq) (b : Int) (d : qq) (f : Int) (g : qq) (j : qq→qq→Option Int) (a : Int) : Option ((Int) ⊕ (Int)):=
  (cond (decide (a≤(w64 (h - 1)))) ((idx ((c.set b.toNat d).set f.toNat g) a).bind fun k=>(idx ((c.set b.toNat d).set f.toNat g) b).bind fun l=>(j k l).bind fun m=>some (decide (m < 0))) (some false)).bind fun n=>cond n (some (.inl (w64 (a + 1)))) (some (.inr a))
noncomputable def qba (h : Int) (c : List qq) (b : Int) (d : qq) (f : Int) (g : qq) (j : qq→qq→Option Int) (a : Int) : Option ((Int) ⊕ (Int)):=
  (cond (decide (h≤a)) ((idx ((c.set b.toNat d).set f.toNat g) a).bind fun k=>(idx ((c.set b.toNat d).set f.toNat g) b).bind fun l=>(j k l).bind fun m=>some (!(decide (m < 0)))) (some false)).bind fun n=>cond n (some (.inl (w64 (a - 1)))) (some (.inr a))
noncomputable def qbc (b : Int × Int × List qq) (c : Int) (d : qq→qq→Option Int) (a : Int) : Option ((Int) ⊕ (Int)):=
  (cond (decide (a≤b.2.1)) ((idx b.2.2 a).bind fun f=>(idx b.2.2 c).bind fun g=>(d f g).bind fun h=>some (decide (h < 0))) (some false)).bind fun j=>cond j (some (.inl (w64 (a + 1)))) (some (.inr a))
noncomputable def qbd (c : Int) (b : Int × Int × List qq) (d : Int) (f : qq→qq→Option Int) (a : Int) : Option ((Int) ⊕ (Int)):=
  (cond (decide (c≤a)) ((idx b.2.2 a).bind fun g=>(idx b.2.2 d).bind fun h=>(f g h).bind fun j=>some (!(decide (j < 0)))) (some false)).bind fun k=>cond k (some (.inl (w64 (a - 1)))) (some (.inr a))
noncomputable def qbb (d : Int) (f : qq→qq→Option Int) (a : Int × Int × List qq) : Option ((Int × Int × List qq) ⊕ (Int × List qq)):=
  (loop (qbc a d f) a.1).bind fun b=>(loop (qbd b a d f) a.2.1).bind fun c=>cond (decide (b > c)) (some (.inr (c,a.2.2))) ((idx a.2.2 c).bind fun g=>(idx a.2.2 b).bind fun h=>(idx a.2.2 b).bind fun _=>(idx (a.2.2.set b.toNat g) c).bind fun _=>some (.inl (w64 (b + 1),w64 (c - 1),(a.2.2.set b.toNat g).set c.toNat h)))
noncomputable def qb8 (k : qq→qq→Option Int) (b : List qq) (a : Int) (l : Int) (c : Int) : Option (Int × Bool × List qq):=
  (idx b c).bind fun d=>(idx b a).bind fun f=>(idx b a).bind fun _=>(idx (b.set a.toNat d) c).bind fun _=>(loop (qb9 l b a d c f k) (w64 (a + 1))).bind fun j=>(loop (qba j b a d c f k) (w64 (l - 1))).bind fun g=>cond (decide (j > g)) ((idx ((b.set a.toNat d).set c.toNat f) a).bind fun m=>(idx ((b.set a.toNat d).set c.toNat f) g).bind fun p=>(idx ((b.set a.toNat d).set c.toNat f) g).bind fun _=>(idx (((b.set a.toNat d).set c.toNat f).set g.toNat m) a).bind fun _=>some (g,true,(((b.set a.toNat d).set c.toNat f).set g.toNat m).set a.toNat p)) ((idx ((b.set a.toNat d).set c.toNat f) g).bind fun n=>(idx ((b.set a.toNat d).set c.toNat f) j).bind fun q=>(idx ((b.set a.toNat d).set c.toNat f) j).bind fun _=>(idx (((b.set a.toNat d).set c.toNat f).set j.toNat n) g).bind fun _=>(loop (qbb a k) (w64 (j + 1),w64 (g - 1),(((b.set a.toNat d).set c.toNat f).set j.toNat n).set g.toNat q)).bind fun h=>(idx h.2 a).bind fun o=>(idx h.2 h.1).bind fun r=>(idx h.2 h.1).bind fun _=>(idx (h.2.set h.1.toNat o) a).bind fun _=>some (h.1,false,(h.2.set h.1.toNat o).set a.toNat r))
noncomputable def qaw (b : Int) (d : Int) (f : Int) (a : Int × List qq × Int) : Option ((Int × List qq × Int) ⊕ (List qq)):=
  cond (decide (a.1≤(w64 ((w64 (b + (w64 ((w64 (Int.tdiv (w64 (d - b)) 4)) * 2)))) + 1)))) ((q2c a.2.2).bind fun c=>(cond (decide ((w64 (andI .u64 c (IntKind.wrap .u64 (f - 1)))) ≥ (w64 (d - b)))) (some (w64 ((w64 (andI .u64 c (IntKind.wrap .u64 (f - 1)))) - (w64 (d - b))))) (some (w64 (andI .u64 c (IntKind.wrap .u64 (f - 1)))))).bind fun g=>(idx a.2.1 (w64 (b + g))).bind fun h=>(idx a.2.1 a.1).bind fun j=>(idx a.2.1 a.1).bind fun _=>(idx (a.2.1.set a.1.toNat h) (w64 (b + g))).bind fun _=>some (.inl (w64 (a.1 + 1),(a.2.1.set a.1.toNat h).set (w64 (b + g)).toNat j,c))) (some (.inr a.2.1))
noncomputable def qav (g : qq→qq→Option Int) (c : List qq) (a : Int) (b : Int) : Option (List qq):=
  cond (decide ((w64 (b - a)) ≥ 8)) ((q2b (w64 (b - a))).bind fun d=>(loop (qaw a b d) (w64 ((w64 (a + (w64 ((w64 (Int.tdiv (w64 (b - a)) 4)) * 2)))) - 1),c,IntKind.wrap .u64 (w64 (b - a)))).bind fun f=>some f) (some c)
noncomputable def q8b (c : qq→qq→Option Int) (rec : List qq→Int→Int→Int→Option (List qq)) (a : Int × Int × Int × Bool × Bool × List qq) : Option ((Int × Int × Int × Bool × Bool × List qq) ⊕ (List qq)):=
  cond (decide ((w64 (a.2.1 - a.1))≤12)) ((qb1 c a.2.2.2.2.2 a.1 a.2.1).bind fun l=>(K6 l.length a.2.2.2.2.2.length).bind fun _=>some (.inr l)) (cond (a.2.2.1 == 0) ((qay c a.2.2.2.2.2 a.1 a.2.1).bind fun m=>(K6 m.length a.2.2.2.2.2.length).bind fun _=>some (.inr m)) ((cond (!a.2.2.2.1) ((qav c a.2.2.2.2.2 a.1 a.2.1).bind fun n=>(K6 n.length a.2.2.2.2.2.length).bind fun _=>some (w64 (a.2.2.1 - 1),n)) (some (a.2.2.1,a.2.2.2.2.2))).bind fun d=>(qax d.2 a.1 a.2.1 c).bind fun h=>(cond (h.2 == 2) ((qbi c d.2 a.1 a.2.1).bind fun o=>(K6 o.length d.2.length).bind fun _=>some (w64 ((w64 (a.2.1 - 1)) - (w64 (h.1 - a.1))),1,o)) (some (h.1,h.2,d.2))).bind fun f=>(cond a.2.2.2.1 (some a.2.2.2.2.1) (some false)).bind fun r=>(cond r (some (f.2.1 == 1)) (some false)).bind fun s=>(cond s ((q7w c f.2.2 a.1 a.2.1).bind fun j=>(K6 j.2.length f.2.2.length).bind fun _=>cond j.1 (some (.inr j.2)) (some (.inl j.2))) (some (.inl f.2.2)) : Option ((List qq) ⊕ (List qq))).bind fun t=>(match t with | .inl g=>(cond (decide (a.1 > 0)) ((idx g (w64 (a.1 - 1))).bind fun u=>(idx g f.1).bind fun v=>(c u v).bind fun w=>some (!(decide (w < 0)))) (some false)).bind fun x=>cond x ((qbe c g a.1 a.2.1 f.1).bind fun k=>(K6 k.2.length g.length).bind fun _=>some (.inl (k.1,a.2.1,d.1,a.2.2.2.1,a.2.2.2.2.1,k.2))) ((qb8 c g a.1 a.2.1 f.1).bind fun b=>(K6 b.2.2.length g.length).bind fun _=>cond (decide ((w64 (b.1 - a.1)) < (w64 (a.2.1 - b.1)))) ((rec b.2.2 a.1 b.1 d.1).bind fun p=>(K6 p.length b.2.2.length).bind fun _=>some (.inl (w64 (b.1 + 1),a.2.1,d.1,decide ((w64 (b.1 - a.1)) ≥ (w64 (Int.tdiv (w64 (a.2.1 - a.1)) 8))),b.2.1,p))) ((rec b.2.2 (w64 (b.1 + 1)) a.2.1 d.1).bind fun q=>(K6 q.length b.2.2.length).bind fun _=>some (.inl (a.1,b.1,d.1,decide ((w64 (a.2.1 - b.1)) ≥ (w64 (Int.tdiv (w64 (a.2.1 - a.1)) 8))),b.2.1,q)))) | .inr y=>some (.inr y))))
noncomputable def q8c (rec : List qq→Int→Int→Int→Option (List qq)) (a : qq→qq→Option Int) (b : List qq) (c : Int) (d : Int) (f : Int) : Option (List qq):=
  (loop (q8b a rec) (c,d,f,true,true,b)).bind fun g=>some g
noncomputable def q8a : Nat→(qq→qq→Option Int)→List qq→Int→Int→Int→Option (List qq)
  | 0,_,_,_,_,_=>none
  | n + 1,a,b,c,d,f=>q8c (q8a n a) a b c d f
noncomputable def q7l (c : qq→qq→Option Int) (a : List qq) : Option (List qq):=
  (q1d (IntKind.wrap .u64 (a.length : Int))).bind fun d=>(lim (fun n=>q8a n c a 0 (a.length : Int) d)).bind fun b=>(K6 b.length a.length).bind fun _=>some b
noncomputable def qej (a : List qq) : Option (List qq):=
  some a
noncomputable def q5c (b : List qn) (c : Int × List qq) (a : Int × List qq) : Option ((Int × List qq) ⊕ (List qq)):=
  cond (decide (a.1 < (b.length : Int))) ((idx b a.1).bind fun d=>(app 24 a.2 [({at_:=d.Lo,list_:=c.1,by_:=1} : qq),({at_:=d.Hi,list_:=c.1,by_:=(-1)} : qq)]).bind fun f=>some (.inl (w64 (a.1 + 1),f))) (some (.inr a.2))
noncomputable def q1k (b : List (List qn)) (a : Int × List qq) : Option ((Int × List qq) ⊕ (List qq)):=
  cond (decide (a.1 < (b.length : Int))) (((idx b a.1).bind fun c=>(loop (q5c c a) (0,a.2)).bind fun d=>some d).bind fun f=>some (.inl (w64 (a.1 + 1),f))) (some (.inr a.2))
noncomputable def qbv (b : List (List qn)) : Option (List (List qn) × List qq):=
  (loop (q1k b) (0,[])).bind fun c=>(q7l (fun f g=>qbu f g) c).bind fun a=>(K6 a.length c.length).bind fun _=>(qej a).bind fun d=>(K6 d.length a.length).bind fun _=>some (b,d)
noncomputable def qbw (d : Int) (c : Bool) (b : Int) (a : List qn) : Option (Bool × Int × List qn):=
  (cond (!c) (some true) (some (b == d))).bind fun f=>cond f (some (c,b,a)) ((cond (decide ((a.length : Int) > 0)) ((idx a (w64 ((a.length : Int) - 1))).bind fun g=>some (g.Hi == b)) (some false)).bind fun h=>cond h ((idx a (w64 ((a.length : Int) - 1))).bind fun j=>some (c,b,a.set (w64 ((a.length : Int) - 1)).toNat ({Lo:=j.Lo,Hi:=d} : qn))) ((app 16 a [({Lo:=b,Hi:=d} : qn)]).bind fun k=>some (c,b,k)))
noncomputable def q5d (f : List (List qn) × List qq) (g : Bool→Bool→Option Bool) (a : Int × List Int × Int × Bool × List qn) : Option ((Int × List Int × Int × Bool × List qn) ⊕ (List qn)):=
  cond (decide (a.1 < (f.2.length : Int))) ((idx f.2 a.1).bind fun b=>((qbw b.at_ a.2.2.2.1 a.2.2.1 a.2.2.2.2).bind fun h=>(idxA 2 a.2.1 b.list_).bind fun c=>(idxA 2 a.2.1 b.list_).bind fun _=>(idxA 2 (a.2.1.set b.list_.toNat (w64 (c + b.by_))) 0).bind fun j=>(idxA 2 (a.2.1.set b.list_.toNat (w64 (c + b.by_))) 1).bind fun k=>(g (decide (j > 0)) (decide (k > 0))).bind fun l=>some (a.2.1.set b.list_.toNat (w64 (c + b.by_)),l,h.2.2)).bind fun d=>some (.inl (w64 (a.1 + 1),d.1,b.at_,d.2.1,d.2.2))) (some (.inr a.2.2.2.2))
noncomputable def q3u (a : List qn) (b : List qn) (d : Bool→Bool→Option Bool) : Option (List qn):=
  (qbv [a,b]).bind fun c=>(K6 c.1.length [a,b].length).bind fun _=>((loop (q5d c d) (0,[0,0],0,false,[])).bind fun f=>some f).bind fun g=>some g
noncomputable def qbs (a : Bool) (b : Bool) : Option Bool:=
  some a
noncomputable def q8s (a : List qn) : Option (List qn × Int):=
  cond (decide ((a.length : Int) > 400)) (some ([],4)) ((qar a (fun b=>qeq b)).bind fun c=>cond c (some ([],8)) ((q3u a [] (fun b d=>qbs b d)).bind fun f=>some (f,0)))
noncomputable def qec (b : List qn) (f : List qn) (a : Int) : Option ((Int) ⊕ ((Unit) ⊕ (Bool))):=
  cond (decide (a < (b.length : Int))) ((idx b a).bind fun c=>(idx f a).bind fun d=>cond (!((c.Lo == d.Lo) && ((c.Hi == d.Hi) && true))) (some (.inr (.inr false))) (some (.inl (w64 (a + 1))))) (some (.inr (.inl ())))
noncomputable def qas (a : List qn) (b : List qn) : Option Bool:=
  cond ((a.length : Int) != (b.length : Int)) (some false) ((loop (qec a b) 0 : Option ((Unit) ⊕ (Bool))).bind fun c=>(match c with | .inl _=>some true | .inr d=>some d))
noncomputable def q78 (c : Int) (a : Int × List qj) : Option ((Int × List qj) ⊕ (List qj)):=
  cond (decide (a.1 < (a.2.length : Int))) ((idx a.2 a.1).bind fun b=>some (.inl (w64 (a.1 + 1),a.2.set a.1.toNat ({X0:=b.X0,Y0:=b.Y0,X1:=c,Y1:=b.Y1} : qj)))) (some (.inr a.2))
noncomputable def q79 (b : List qn) (f : Int) (c : Int) (g : List qj) (a : Int × List qj) : Option ((Int × List qj) ⊕ (List qn × Int × Int × List qj)):=
  cond (decide (a.1 < (b.length : Int))) ((idx b a.1).bind fun d=>(app 32 a.2 [({X0:=f,Y0:=d.Lo,X1:=c,Y1:=d.Hi} : qj)]).bind fun h=>some (.inl (w64 (a.1 + 1),h))) (some (.inr (b,(g.length : Int),c,a.2)))
noncomputable def q77 (a : List qj) (d : List qn) (f : Int) (h : Int) (g : Int) (b : Int) (c : List qn) : Option (List qn × Int × Int × List qj):=
  (cond (decide ((c.length : Int) > 0)) (some (h == g)) (some false)).bind fun j=>(cond j ((qas d c).bind fun k=>some k) (some false)).bind fun l=>cond l ((loop (q78 b) (f,a)).bind fun m=>some (d,f,b,m)) ((loop (q79 c g b a) (0,a)).bind fun n=>some n)
noncomputable def Je (b : List qj) (a : Int × List Int) : Option ((Int × List Int) ⊕ (List Int)):=
  cond (decide (a.1 < (b.length : Int))) ((idx b a.1).bind fun c=>(app 8 a.2 [c.X0,c.X1]).bind fun d=>some (.inl (w64 (a.1 + 1),d))) (some (.inr a.2))
noncomputable def Uv (c : List qj) (d : Int) (a : Int × List qn) : Option ((Int × List qn) ⊕ (List qn)):=
  cond (decide (a.1 < (c.length : Int))) (((idx c a.1).bind fun b=>(cond (decide (b.X0≤d)) (some (decide (d < b.X1))) (some false)).bind fun f=>cond f ((app 16 a.2 [({Lo:=b.Y0,Hi:=b.Y1} : qn)]).bind fun g=>some g) (some a.2)).bind fun h=>some (.inl (w64 (a.1 + 1),h))) (some (.inr a.2))
noncomputable def q3k (d : List Int) (g : List qj) (a : Int × List qn × Int × Int × List qj) : Option ((Int × List qn × Int × Int × List qj) ⊕ (List qn × Int × Int × List qj)):=
  cond (decide (a.1 < (d.length : Int))) ((idx d (w64 (a.1 - 1))).bind fun f=>(idx d a.1).bind fun h=>((idx [g] 0).bind fun j=>(loop (Uv j f) (0,[])).bind fun k=>some k).bind fun l=>((q8s l).bind fun m=>(q77 a.2.2.2.2 a.2.1 a.2.2.1 a.2.2.2.1 f h m.1).bind fun b=>some (b.1,b.2.1,b.2.2.1,b.2.2.2)).bind fun c=>some (.inl (w64 (a.1 + 1),c.1,c.2.1,c.2.2.1,c.2.2.2))) (some (.inr (a.2.1,a.2.2.1,a.2.2.2.1,a.2.2.2.2)))
noncomputable def q7a (d : List qj) : Option (List qj × Int):=
  (((idx [d] 0).bind fun j=>(loop (Je j) (0,[])).bind fun b=>some b).bind fun f=>(Ud f).bind fun c=>(K6 c.length f.length).bind fun _=>(q1h c).bind fun a=>(K6 a.2.length c.length).bind fun _=>(q1m a.2.length a.1).bind fun _=>some ((a.2.drop a.1.1).take a.1.2)).bind fun k=>((loop (q3k k d) (1,[],0,0,[])).bind fun b=>some b).bind fun g=>(cond (decide ((g.2.2.2.length : Int) > 400)) (some (4,[])) (some (0,g.2.2.2))).bind fun h=>some (h.2,h.1)
noncomputable def q27 (a : List qj) : Option (List qj × Int):=
  cond (decide ((a.length : Int) > 400)) (some ([],4)) ((qap a (fun c=>q3i c)).bind fun d=>cond d (some ([],8)) ((q7a a).bind fun b=>some (b.1,b.2)))
noncomputable def qea (d : List qj) (f : List qj) (a : Int) : Option ((Int) ⊕ ((Unit) ⊕ (Bool))):=
  cond (decide (a < (d.length : Int))) ((idx d a).bind fun b=>(idx f a).bind fun c=>cond (!((b.X0 == c.X0) && ((b.Y0 == c.Y0) && ((b.X1 == c.X1) && ((b.Y1 == c.Y1) && true))))) (some (.inr (.inr false))) (some (.inl (w64 (a + 1))))) (some (.inr (.inl ())))
noncomputable def q7i (a : List qj) (b : List qj) : Option Bool:=
  cond ((a.length : Int) != (b.length : Int)) (some false) ((loop (qea a b) 0 : Option ((Unit) ⊕ (Bool))).bind fun c=>(match c with | .inl _=>some true | .inr d=>some d))
noncomputable def q8m (c : Int) (a : Int × List qh) : Option ((Int × List qh) ⊕ (List qh)):=
  cond (decide (a.1 < (a.2.length : Int))) ((idx a.2 a.1).bind fun b=>some (.inl (w64 (a.1 + 1),a.2.set a.1.toNat ({Lo:=b.Lo,Hi:=({X:=b.Hi.X,Y:=b.Hi.Y,Z:=c} : qw)} : qh)))) (some (.inr a.2))
noncomputable def q8n (c : List qj) (f : Int) (d : Int) (g : List qh) (a : Int × List qh) : Option ((Int × List qh) ⊕ (List qj × Int × Int × List qh)):=
  cond (decide (a.1 < (c.length : Int))) ((idx c a.1).bind fun b=>(app 48 a.2 [({Lo:=({X:=b.X0,Y:=b.Y0,Z:=f} : qw),Hi:=({X:=b.X1,Y:=b.Y1,Z:=d} : qw)} : qh)]).bind fun h=>some (.inl (w64 (a.1 + 1),h))) (some (.inr (c,(g.length : Int),d,a.2)))
noncomputable def q8l (a : List qh) (d : List qj) (f : Int) (h : Int) (g : Int) (b : Int) (c : List qj) : Option (List qj × Int × Int × List qh):=
  (cond (decide ((c.length : Int) > 0)) (some (h == g)) (some false)).bind fun j=>(cond j ((q7i d c).bind fun k=>some k) (some false)).bind fun l=>cond l ((loop (q8m b) (f,a)).bind fun m=>some (d,f,b,m)) ((loop (q8n c g b a) (0,a)).bind fun n=>some n)
noncomputable def q2d (b : List qh) (a : Int × List Int) : Option ((Int × List Int) ⊕ (List Int)):=
  cond (decide (a.1 < (b.length : Int))) ((idx b a.1).bind fun c=>(app 8 a.2 [c.Lo.Z,c.Hi.Z]).bind fun d=>some (.inl (w64 (a.1 + 1),d))) (some (.inr a.2))
noncomputable def q2e (c : List qh) (d : Int) (a : Int × List qj) : Option ((Int × List qj) ⊕ (List qj)):=
  cond (decide (a.1 < (c.length : Int))) (((idx c a.1).bind fun b=>(cond (decide (b.Lo.Z≤d)) (some (decide (d < b.Hi.Z))) (some false)).bind fun f=>cond f ((app 32 a.2 [({X0:=b.Lo.X,Y0:=b.Lo.Y,X1:=b.Hi.X,Y1:=b.Hi.Y} : qj)]).bind fun g=>some g) (some a.2)).bind fun h=>some (.inl (w64 (a.1 + 1),h))) (some (.inr a.2))
noncomputable def q5b (d : List Int) (h : List qh) (a : Int × List qj × Int × Int × List qh) : Option ((Int × List qj × Int × Int × List qh) ⊕ ((List qj × Int × Int × List qh) ⊕ (List qh × Int))):=
  cond (decide (a.1 < (d.length : Int))) ((idx d (w64 (a.1 - 1))).bind fun g=>(idx d a.1).bind fun j=>((idx [h] 0).bind fun k=>(loop (q2e k g) (0,[])).bind fun l=>some l).bind fun m=>((q27 m).bind fun f=>cond (f.2 != 0) (some (.inr ([],f.2))) ((q8l a.2.2.2.2 a.2.1 a.2.2.1 a.2.2.2.1 g j f.1).bind fun b=>some (.inl (b.1,b.2.1,b.2.2.1,b.2.2.2))) : Option ((List qj × Int × Int × List qh) ⊕ (List qh × Int))).bind fun n=>(match n with | .inl c=>some (.inl (w64 (a.1 + 1),c.1,c.2.1,c.2.2.1,c.2.2.2)) | .inr o=>some (.inr (.inr o)))) (some (.inr (.inl (a.2.1,a.2.2.1,a.2.2.2.1,a.2.2.2.2))))
noncomputable def q8q (f : List qh) : Option (List qh × Int):=
  (((idx [f] 0).bind fun j=>(loop (q2d j) (0,[])).bind fun b=>some b).bind fun g=>(Ud g).bind fun c=>(K6 c.length g.length).bind fun _=>(q1h c).bind fun a=>(K6 a.2.length c.length).bind fun _=>(q1m a.2.length a.1).bind fun _=>some ((a.2.drop a.1.1).take a.1.2)).bind fun k=>((loop (q5b k f) (1,[],0,0,[]) : Option ((List qj × Int × Int × List qh) ⊕ (List qh × Int))).bind fun l=>(match l with | .inl b=>some (.inl b) | .inr d=>some (.inr d)) : Option ((List qj × Int × Int × List qh) ⊕ (List qh × Int))).bind fun m=>(match m with | .inl h=>cond (decide ((h.2.2.2.length : Int) > 400)) (some ([],4)) (some (h.2.2.2,0)) | .inr d=>some d)
noncomputable def qih (d : List qh) (f : List qh) (c : Int) : Option ((Int) ⊕ ((Unit) ⊕ (Bool))):=
  cond (decide (c < (d.length : Int))) ((idx d c).bind fun a=>(idx f c).bind fun b=>cond (!((a.Lo.X == b.Lo.X) && ((a.Lo.Y == b.Lo.Y) && ((a.Lo.Z == b.Lo.Z) && ((a.Hi.X == b.Hi.X) && ((a.Hi.Y == b.Hi.Y) && ((a.Hi.Z == b.Hi.Z) && true))))))) (some (.inr (.inr false))) (some (.inl (w64 (c + 1))))) (some (.inr (.inl ())))
noncomputable def qeb (a : List qh) (b : List qh) : Option Bool:=
  cond ((a.length : Int) != (b.length : Int)) (some false) ((loop (qih a b) 0 : Option ((Unit) ⊕ (Bool))).bind fun c=>(match c with | .inl _=>some true | .inr d=>some d))
noncomputable def q1j (a : List qh) : Option Int:=
  cond (decide ((a.length : Int) > 400)) (some 4) ((q2a a (fun c=>q3r c)).bind fun d=>cond d (some 8) ((q8q a).bind fun b=>(cond (b.2 != 0) (some true) ((qeb b.1 a).bind fun f=>some (!f))).bind fun g=>cond g (some 8) (some 0)))
noncomputable def qc3 (a : K3) : Option Bool:=
  some (decide (a.Depth < 0))
noncomputable def q91 (b : List (List qh)) (a : Int) : Option ((Int) ⊕ ((Unit) ⊕ (Int))):=
  cond (decide (a < (b.length : Int))) ((idx b a).bind fun d=>(q1j d).bind fun c=>cond (c != 0) (some (.inr (.inr c))) (some (.inl (w64 (a + 1))))) (some (.inr (.inl ())))
noncomputable def qc2 (a : Qr) (b : List (List qh)) : Option Int:=
  (q5k a).bind fun c=>cond (c.2 != 0) (some c.2) (cond (decide ((b.length : Int) > 20)) (some 4) ((loop (q91 b) 0 : Option ((Unit) ⊕ (Int))).bind fun d=>(match d with | .inl _=>(cond (decide ((a.Lines.length : Int) > 0)) (some ((b.length : Int) == 0)) (some false)).bind fun f=>cond f (some 6) ((q7h a.Lines (fun g=>qc3 g)).bind fun h=>cond h (some 2) (some 0)) | .inr j=>some j)))
noncomputable def qc4 (a : qw) : Option Bool:=
  (cond (decide ((min (min a.X a.Y) a.Z) ≥ (-1000000))) (some (decide ((max (max a.X a.Y) a.Z)≤1000000))) (some false)).bind fun b=>some b
noncomputable def q4y (b : List qh) (c : qh→Option Bool) (a : Int) : Option ((Int) ⊕ ((Unit) ⊕ (Int))):=
  cond (decide (a < (b.length : Int))) ((idx b a).bind fun d=>(c d).bind fun f=>cond f (some (.inr (.inr a))) (some (.inl (w64 (a + 1))))) (some (.inr (.inl ())))
noncomputable def qed (a : List qh) (b : qh→Option Bool) : Option Int:=
  (loop (q4y a b) 0 : Option ((Unit) ⊕ (Int))).bind fun c=>(match c with | .inl _=>some (-1) | .inr d=>some d)
noncomputable def qan (a : List qh) (b : qh→Option Bool) : Option Bool:=
  (qed a b).bind fun c=>some (decide (c ≥ 0))
noncomputable def q3s (a : qh) : Option Bool:=
  (q8p a).bind fun b=>some (!b)
noncomputable def q8i (a : List qh) : Option (List qh × Int):=
  cond (decide ((a.length : Int) > 400)) (some ([],4)) ((qan a (fun c=>q3s c)).bind fun d=>cond d (some ([],8)) ((q8q a).bind fun b=>some (b.1,b.2)))
noncomputable def q5j (d : List qh) (a : K3) (c : Int × List qh) : Option ((Int × List qh) ⊕ ((List qh) ⊕ (List qh × Int))):=
  cond (decide (c.1 < (d.length : Int))) ((idx d c.1).bind fun b=>(qc4 ({X:=w64 (b.Lo.X + (min a.From.X a.To.X)),Y:=w64 (b.Lo.Y + (min a.From.Y a.To.Y)),Z:=w64 (b.Lo.Z + (min a.From.Z a.To.Z))} : qw)).bind fun f=>(cond (!f) (some true) ((qc4 ({X:=w64 (b.Hi.X + (max a.From.X a.To.X)),Y:=w64 (b.Hi.Y + (max a.From.Y a.To.Y)),Z:=w64 (b.Hi.Z + (max a.From.Z a.To.Z))} : qw)).bind fun g=>some (!g))).bind fun h=>cond h (some (.inr (.inr ([],16)))) ((app 48 c.2 [({Lo:=({X:=w64 (b.Lo.X + (min a.From.X a.To.X)),Y:=w64 (b.Lo.Y + (min a.From.Y a.To.Y)),Z:=w64 (b.Lo.Z + (min a.From.Z a.To.Z))} : qw),Hi:=({X:=w64 (b.Hi.X + (max a.From.X a.To.X)),Y:=w64 (b.Hi.Y + (max a.From.Y a.To.Y)),Z:=w64 (b.Hi.Z + (max a.From.Z a.To.Z))} : qw)} : qh)]).bind fun j=>some (.inl (w64 (c.1 + 1),j)))) (some (.inr (.inl c.2)))
noncomputable def q90 (b : K3) (c : List qh) : Option (List qh × Int):=
  (loop (q5j c b) (0,[]) : Option ((List qh) ⊕ (List qh × Int))).bind fun d=>(match d with | .inl f=>(q8i f).bind fun a=>some (a.1,a.2) | .inr g=>some g)
noncomputable def q8x (c : Qr) (d : List (List qh)) (a : Int × List (List qh)) : Option ((Int × List (List qh)) ⊕ ((List (List qh)) ⊕ (List (List qh) × Int))):=
  cond (decide (a.1 < (c.Lines.length : Int))) ((idx c.Lines a.1).bind fun f=>(idx d (min f.Depth (w64 ((d.length : Int) - 1)))).bind fun g=>(q90 f g).bind fun b=>(cond (b.2 != 0) (some (.inr ([],b.2))) ((app 24 a.2 [b.1]).bind fun h=>some (.inl h)) : Option ((List (List qh)) ⊕ (List (List qh) × Int))).bind fun j=>(match j with | .inl k=>some (.inl (w64 (a.1 + 1),k)) | .inr l=>some (.inr (.inr l)))) (some (.inr (.inl a.2)))
noncomputable def q8w (b : Qr) (c : List (List qh)) : Option (List (List qh) × Int):=
  (qc2 b c).bind fun d=>cond (d != 0) (some ([],d)) ((some ()).bind fun _=>((loop (q8x b c) (0,[]) : Option ((List (List qh)) ⊕ (List (List qh) × Int))).bind fun f=>(match f with | .inl g=>some (.inl g) | .inr a=>some (.inr a)) : Option ((List (List qh)) ⊕ (List (List qh) × Int))).bind fun h=>(match h with | .inl j=>some (j,0) | .inr a=>some a))
noncomputable def q4s (a : K0) : Option Int:=
  (cond (decide (a.Turn ≥ 24)) (some true) ((Jd a.At (-1000000)).bind fun b=>some (!b))).bind fun c=>cond c (some 8) (some 0)
noncomputable def q6u (d : Qr) (a : Int) : Option ((Int) ⊕ ((Unit) ⊕ (Int))):=
  cond (decide (a < (d.Lines.length : Int))) ((idx d.Lines a).bind fun b=>(idx d.Lines a).bind fun c=>(cond (b.From.X != c.To.X) (some (w64 (0 + 1))) (some 0)).bind fun f=>(cond (b.From.Y != c.To.Y) (some (w64 (f + 1))) (some f)).bind fun g=>(cond (b.From.Z != c.To.Z) (some (w64 (g + 1))) (some g)).bind fun h=>(cond (decide (h > 1)) (some true) ((Jd b.From (-1000000)).bind fun j=>some (!j))).bind fun k=>(cond k (some true) ((Jd c.To (-1000000)).bind fun l=>some (!l))).bind fun m=>cond m (some (.inr (.inr 8))) (some (.inl (w64 (a + 1))))) (some (.inr (.inl ())))
noncomputable def q6v (b : Qr) (a : Int) : Option ((Int) ⊕ ((Unit) ⊕ (Int))):=
  cond (decide (a < (b.Marks.length : Int))) ((idx b.Marks a).bind fun c=>(q4s c.Frame).bind fun d=>cond (d != 0) (some (.inr (.inr 8))) (some (.inl (w64 (a + 1))))) (some (.inr (.inl ())))
noncomputable def qad (a : Qr) : Option Int:=
  (cond (decide ((a.Lines.length : Int) > 2000)) (some true) (some (decide ((a.Marks.length : Int) > 2000)))).bind fun c=>(cond c (some true) ((q4s a.End.Frame).bind fun d=>some (d != 0))).bind fun f=>cond f (some 8) ((loop (q6u a) 0 : Option ((Unit) ⊕ (Int))).bind fun g=>(match g with | .inl _=>(loop (q6v a) 0 : Option ((Unit) ⊕ (Int))).bind fun h=>(match h with | .inl _=>some 0 | .inr b=>some b) | .inr b=>some b))
noncomputable def qag (a : qh) : Option Bool:=
  (Jd a.Lo (-1000000)).bind fun b=>(cond b ((Jd a.Hi (-1000000)).bind fun c=>some c) (some false)).bind fun d=>(cond d (some (decide (a.Lo.X < a.Hi.X))) (some false)).bind fun f=>(cond f (some (decide (a.Lo.Y < a.Hi.Y))) (some false)).bind fun g=>(cond g (some (decide (a.Lo.Z < a.Hi.Z))) (some false)).bind fun h=>some h
noncomputable def q4l (b : Int × List Int) (c : List Int) (a : Int) : Option ((Int) ⊕ (Int)):=
  (cond (decide (a > 0)) ((idx b.2 (w64 (a - 1))).bind fun d=>(idx c b.1).bind fun f=>some (decide (d > f))) (some false)).bind fun g=>cond g (some (.inl (w64 (a - 1)))) (some (.inr a))
noncomputable def q4k (d : List Int) (a : Int × List Int) : Option ((Int × List Int) ⊕ (List Int)):=
  cond (decide (a.1 < (d.length : Int))) (((loop (q4l a d) (a.2.length : Int)).bind fun c=>(cond (decide (c > 0)) ((idx a.2 (w64 (c - 1))).bind fun h=>(idx d a.1).bind fun j=>some (h == j)) (some false)).bind fun k=>cond k (some a.2) ((app 8 a.2 [0]).bind fun b=>(sub2 b.length (w64 (c + 1)) b.length).bind fun g=>(sub2 b.length c b.length).bind fun f=>(idx d a.1).bind fun l=>(idx (cpyw b g ((b.drop f.1).take f.2)) c).bind fun _=>some ((cpyw b g ((b.drop f.1).take f.2)).set c.toNat l))).bind fun m=>some (.inl (w64 (a.1 + 1),m))) (some (.inr a.2))
noncomputable def Ub (a : List Int) : Option (List Int):=
  (loop (q4k a) (0,[])).bind fun b=>some b
noncomputable def q4t (b : List qh) (a : Int × List Int) : Option ((Int × List Int) ⊕ (List Int)):=
  cond (decide (a.1 < (b.length : Int))) ((idx b a.1).bind fun c=>(idx b a.1).bind fun d=>(app 8 a.2 [c.Lo.Z,d.Hi.Z]).bind fun f=>some (.inl (w64 (a.1 + 1),f))) (some (.inr a.2))
noncomputable def q4u (b : List qh) (a : Int × List Int) : Option ((Int × List Int) ⊕ (List Int)):=
  cond (decide (a.1 < (b.length : Int))) ((idx b a.1).bind fun c=>(idx b a.1).bind fun d=>(app 8 a.2 [c.Lo.Z,d.Hi.Z]).bind fun f=>some (.inl (w64 (a.1 + 1),f))) (some (.inr a.2))
noncomputable def qaf (a : List qh) (b : List qh) : Option (List Int):=
  (loop (q4t a) (0,[])).bind fun c=>(loop (q4u b) (0,c)).bind fun d=>(Ub d).bind fun f=>some f
noncomputable def q6w (b : List qh) (c : Int) (a : Int × List qj) : Option ((Int × List qj) ⊕ (List qj)):=
  cond (decide (a.1 < (b.length : Int))) (((idx b a.1).bind fun d=>(cond (decide (d.Lo.Z≤c)) ((idx b a.1).bind fun f=>some (decide (c < f.Hi.Z))) (some false)).bind fun g=>cond g ((idx b a.1).bind fun h=>(idx b a.1).bind fun j=>(idx b a.1).bind fun k=>(idx b a.1).bind fun l=>(app 32 a.2 [({X0:=h.Lo.X,Y0:=j.Lo.Y,X1:=k.Hi.X,Y1:=l.Hi.Y} : qj)]).bind fun m=>some m) (some a.2)).bind fun n=>some (.inl (w64 (a.1 + 1),n))) (some (.inr a.2))
noncomputable def Uc (a : List qh) (b : Int) : Option (List qj):=
  (loop (q6w a b) (0,[])).bind fun c=>some c
noncomputable def q4o (b : List qj) (a : Int × List Int) : Option ((Int × List Int) ⊕ (List Int)):=
  cond (decide (a.1 < (b.length : Int))) ((idx b a.1).bind fun c=>(idx b a.1).bind fun d=>(app 8 a.2 [c.X0,d.X1]).bind fun f=>some (.inl (w64 (a.1 + 1),f))) (some (.inr a.2))
noncomputable def q4p (b : List qj) (a : Int × List Int) : Option ((Int × List Int) ⊕ (List Int)):=
  cond (decide (a.1 < (b.length : Int))) ((idx b a.1).bind fun c=>(idx b a.1).bind fun d=>(app 8 a.2 [c.X0,d.X1]).bind fun f=>some (.inl (w64 (a.1 + 1),f))) (some (.inr a.2))
noncomputable def qab (a : List qj) (b : List qj) : Option (List Int):=
  (loop (q4o a) (0,[])).bind fun c=>(loop (q4p b) (0,c)).bind fun d=>(Ub d).bind fun f=>some f
noncomputable def q4q (b : List qj) (a : Int × List Int) : Option ((Int × List Int) ⊕ (List Int)):=
  cond (decide (a.1 < (b.length : Int))) ((idx b a.1).bind fun c=>(idx b a.1).bind fun d=>(app 8 a.2 [c.Y0,d.Y1]).bind fun f=>some (.inl (w64 (a.1 + 1),f))) (some (.inr a.2))
noncomputable def q4r (b : List qj) (a : Int × List Int) : Option ((Int × List Int) ⊕ (List Int)):=
  cond (decide (a.1 < (b.length : Int))) ((idx b a.1).bind fun c=>(idx b a.1).bind fun d=>(app 8 a.2 [c.Y0,d.Y1]).bind fun f=>some (.inl (w64 (a.1 + 1),f))) (some (.inr a.2))
noncomputable def qac (a : List qj) (b : List qj) : Option (List Int):=
  (loop (q4q a) (0,[])).bind fun c=>(loop (q4r b) (0,c)).bind fun d=>(Ub d).bind fun f=>some f
noncomputable def q3e (b : List qj) (c : Int) (d : Int) (a : Int) : Option ((Int) ⊕ ((Unit) ⊕ (Bool))):=
  cond (decide (a < (b.length : Int))) ((idx b a).bind fun f=>(cond (decide (f.X0≤c)) ((idx b a).bind fun g=>some (decide (c < g.X1))) (some false)).bind fun h=>(cond h ((idx b a).bind fun j=>some (decide (j.Y0≤d))) (some false)).bind fun k=>(cond k ((idx b a).bind fun l=>some (decide (d < l.Y1))) (some false)).bind fun m=>cond m (some (.inr (.inr true))) (some (.inl (w64 (a + 1))))) (some (.inr (.inl ())))
noncomputable def q6q (a : List qj) (b : Int) (c : Int) : Option Bool:=
  (loop (q3e a b c) 0 : Option ((Unit) ⊕ (Bool))).bind fun d=>(match d with | .inl _=>some false | .inr f=>some f)
noncomputable def q6o (c : Int) (a : Bool) (b : Bool) : Option Bool:=
  cond (c == 1) ((cond a (some b) (some false)).bind fun d=>some d) (cond (c == 2) ((cond a (some true) (some b)).bind fun f=>some f) ((cond a (some (!b)) (some false)).bind fun g=>some g))
noncomputable def q4j (b : List Int) (c : List Bool) (a : Int × List qn) : Option ((Int × List qn) ⊕ (List qn)):=
  cond (decide ((w64 (a.1 + 1)) < (b.length : Int))) (((idx c a.1).bind fun d=>cond (!d) (some a.2) ((cond (decide ((a.2.length : Int) > 0)) ((idx a.2 (w64 ((a.2.length : Int) - 1))).bind fun f=>(idx b a.1).bind fun g=>some (f.Hi == g)) (some false)).bind fun h=>cond h ((idx b (w64 (a.1 + 1))).bind fun j=>(idx a.2 (w64 ((a.2.length : Int) - 1))).bind fun k=>some (a.2.set (w64 ((a.2.length : Int) - 1)).toNat ({Lo:=k.Lo,Hi:=j} : qn))) ((idx b a.1).bind fun l=>(idx b (w64 (a.1 + 1))).bind fun m=>(app 16 a.2 [({Lo:=l,Hi:=m} : qn)]).bind fun n=>some n))).bind fun o=>some (.inl (w64 (a.1 + 1),o))) (some (.inr a.2))
noncomputable def q4i (a : List Int) (b : List Bool) : Option (List qn):=
  (loop (q4j a b) (0,[])).bind fun c=>some c
noncomputable def qdv (b : List qn) (f : List qn) (a : Int) : Option ((Int) ⊕ ((Unit) ⊕ (Bool))):=
  cond (decide (a < (b.length : Int))) ((idx b a).bind fun c=>(idx f a).bind fun d=>cond (!((c.Lo == d.Lo) && ((c.Hi == d.Hi) && true))) (some (.inr (.inr false))) (some (.inl (w64 (a + 1))))) (some (.inr (.inl ())))
noncomputable def q6p (a : List qn) (b : List qn) : Option Bool:=
  cond ((a.length : Int) != (b.length : Int)) (some false) ((loop (qdv a b) 0 : Option ((Unit) ⊕ (Bool))).bind fun c=>(match c with | .inl _=>some true | .inr d=>some d))
noncomputable def q4m (b : List Int) (c : List Int) (d : List qn × Int × Int × List qj) (f : List qj) (g : List qj) (h : Int) (a : Int × List Bool) : Option ((Int × List Bool) ⊕ (List Bool)):=
  cond (decide (a.1 < (b.length : Int))) ((idx c d.2.2.1).bind fun j=>(idx b a.1).bind fun k=>(q6q f j k).bind fun l=>(idx c d.2.2.1).bind fun m=>(idx b a.1).bind fun n=>(q6q g m n).bind fun o=>(q6o h l o).bind fun p=>(app 1 a.2 [p]).bind fun q=>some (.inl (w64 (a.1 + 1),q))) (some (.inr a.2))
noncomputable def q4n (c : List Int) (d : List qn × Int × Int × List qj) (a : Int × List qj) : Option ((Int × List qj) ⊕ (List qj)):=
  cond (decide (a.1 < (a.2.length : Int))) ((idx c (w64 (d.2.2.1 + 1))).bind fun f=>(idx a.2 a.1).bind fun b=>some (.inl (w64 (a.1 + 1),a.2.set a.1.toNat ({X0:=b.X0,Y0:=b.Y0,X1:=f,Y1:=b.Y1} : qj)))) (some (.inr a.2))
noncomputable def q6r (b : List qn) (d : List Int) (c : List qn × Int × Int × List qj) (a : Int × List qj) : Option ((Int × List qj) ⊕ (List qn × Int × List qj)):=
  cond (decide (a.1 < (b.length : Int))) ((idx d c.2.2.1).bind fun f=>(idx b a.1).bind fun g=>(idx d (w64 (c.2.2.1 + 1))).bind fun h=>(idx b a.1).bind fun j=>(app 32 a.2 [({X0:=f,Y0:=g.Lo,X1:=h,Y1:=j.Hi} : qj)]).bind fun k=>some (.inl (w64 (a.1 + 1),k))) (some (.inr (b,(c.2.2.2.length : Int),a.2)))
noncomputable def q3f (b : List Int) (d : List Int) (g : List qj) (h : List qj) (j : Int) (a : List qn × Int × Int × List qj) : Option ((List qn × Int × Int × List qj) ⊕ (List qj)):=
  cond (decide ((w64 (a.2.2.1 + 1)) < (b.length : Int))) (((loop (q4m d b a g h j) (0,[])).bind fun k=>(q4i d k).bind fun f=>(cond (decide (a.2.2.1 > 0)) ((q6p f a.1).bind fun l=>some l) (some false)).bind fun m=>cond m ((loop (q4n b a) (a.2.1,a.2.2.2)).bind fun n=>some (a.1,a.2.1,n)) ((loop (q6r f b a) (0,a.2.2.2)).bind fun o=>some o)).bind fun c=>some (.inl (c.1,c.2.1,w64 (a.2.2.1 + 1),c.2.2))) (some (.inr a.2.2.2))
noncomputable def Jp (c : Int) (a : List qj) (b : List qj) : Option (List qj):=
  (qab a b).bind fun d=>(qac a b).bind fun f=>(loop (q3f d f a b c) ([],0,0,[])).bind fun g=>some g
noncomputable def qdw (d : List qj) (f : List qj) (a : Int) : Option ((Int) ⊕ ((Unit) ⊕ (Bool))):=
  cond (decide (a < (d.length : Int))) ((idx d a).bind fun b=>(idx f a).bind fun c=>cond (!((b.X0 == c.X0) && ((b.Y0 == c.Y0) && ((b.X1 == c.X1) && ((b.Y1 == c.Y1) && true))))) (some (.inr (.inr false))) (some (.inl (w64 (a + 1))))) (some (.inr (.inl ())))
noncomputable def q6t (a : List qj) (b : List qj) : Option Bool:=
  cond ((a.length : Int) != (b.length : Int)) (some false) ((loop (qdw a b) 0 : Option ((Unit) ⊕ (Bool))).bind fun c=>(match c with | .inl _=>some true | .inr d=>some d))
noncomputable def q4w (c : List Int) (d : List qj × Int × Int × List qh) (a : Int × List qh) : Option ((Int × List qh) ⊕ (List qh)):=
  cond (decide (a.1 < (a.2.length : Int))) ((idx c (w64 (d.2.2.1 + 1))).bind fun f=>(idx a.2 a.1).bind fun b=>some (.inl (w64 (a.1 + 1),a.2.set a.1.toNat ({Lo:=b.Lo,Hi:=({X:=b.Hi.X,Y:=b.Hi.Y,Z:=f} : qw)} : qh)))) (some (.inr a.2))
noncomputable def q6y (b : List qj) (d : List Int) (c : List qj × Int × Int × List qh) (a : Int × List qh) : Option ((Int × List qh) ⊕ (List qj × Int × List qh)):=
  cond (decide (a.1 < (b.length : Int))) ((idx b a.1).bind fun f=>(idx b a.1).bind fun g=>(idx d c.2.2.1).bind fun h=>(idx b a.1).bind fun j=>(idx b a.1).bind fun k=>(idx d (w64 (c.2.2.1 + 1))).bind fun l=>(app 48 a.2 [({Lo:=({X:=f.X0,Y:=g.Y0,Z:=h} : qw),Hi:=({X:=j.X1,Y:=k.Y1,Z:=l} : qw)} : qh)]).bind fun m=>some (.inl (w64 (a.1 + 1),m))) (some (.inr (b,(c.2.2.2.length : Int),a.2)))
noncomputable def q26 (b : List Int) (f : List qh) (g : List qh) (h : Int) (a : List qj × Int × Int × List qh) : Option ((List qj × Int × Int × List qh) ⊕ ((List qh) ⊕ (List qh × Bool))):=
  cond (decide ((w64 (a.2.2.1 + 1)) < (b.length : Int))) (((idx b a.2.2.1).bind fun j=>(Uc f j).bind fun k=>(idx b a.2.2.1).bind fun l=>(Uc g l).bind fun m=>(Jp h k m).bind fun c=>(cond (decide ((c.length : Int) > 400)) (some true) ((idx b a.2.2.1).bind fun n=>(Uc f n).bind fun o=>(Jp 2 o []).bind fun p=>some (decide ((p.length : Int) > 400)))).bind fun q=>(cond q (some true) ((idx b a.2.2.1).bind fun r=>(Uc g r).bind fun s=>(Jp 2 s []).bind fun t=>some (decide ((t.length : Int) > 400)))).bind fun u=>cond u (some (.inr ([],false))) ((cond (decide (a.2.2.1 > 0)) ((q6t c a.1).bind fun v=>some v) (some false)).bind fun w=>cond w ((loop (q4w b a) (a.2.1,a.2.2.2)).bind fun x=>some (.inl (a.1,a.2.1,x))) ((loop (q6y c b a) (0,a.2.2.2)).bind fun y=>some (.inl y))) : Option ((List qj × Int × List qh) ⊕ (List qh × Bool))).bind fun z=>(match z with | .inl d=>some (.inl (d.1,d.2.1,w64 (a.2.2.1 + 1),d.2.2)) | .inr x1=>some (.inr (.inr x1)))) (some (.inr (.inl a.2.2.2)))
noncomputable def q4v (d : Int) (a : List qh) (b : List qh) : Option (List qh × Bool):=
  (qaf a b).bind fun f=>(loop (q26 f a b d) ([],0,0,[]) : Option ((List qh) ⊕ (List qh × Bool))).bind fun g=>(match g with | .inl c=>some (c,decide ((c.length : Int)≤400)) | .inr h=>some h)
noncomputable def qdz (d : List qh) (f : List qh) (c : Int) : Option ((Int) ⊕ ((Unit) ⊕ (Bool))):=
  cond (decide (c < (d.length : Int))) ((idx d c).bind fun a=>(idx f c).bind fun b=>cond (!((a.Lo.X == b.Lo.X) && ((a.Lo.Y == b.Lo.Y) && ((a.Lo.Z == b.Lo.Z) && ((a.Hi.X == b.Hi.X) && ((a.Hi.Y == b.Hi.Y) && ((a.Hi.Z == b.Hi.Z) && true))))))) (some (.inr (.inr false))) (some (.inl (w64 (c + 1))))) (some (.inr (.inl ())))
noncomputable def q6z (a : List qh) (b : List qh) : Option Bool:=
  cond ((a.length : Int) != (b.length : Int)) (some false) ((loop (qdz a b) 0 : Option ((Unit) ⊕ (Bool))).bind fun c=>(match c with | .inl _=>some true | .inr d=>some d))
noncomputable def q6x (b : List qh) (a : Int) : Option ((Int) ⊕ ((Unit) ⊕ (Int))):=
  cond (decide (a < (b.length : Int))) ((idx b a).bind fun c=>(qag c).bind fun d=>cond (!d) (some (.inr (.inr 8))) (some (.inl (w64 (a + 1))))) (some (.inr (.inl ())))
noncomputable def qae (a : List qh) : Option Int:=
  cond (decide ((a.length : Int) > 400)) (some 4) ((loop (q6x a) 0 : Option ((Unit) ⊕ (Int))).bind fun c=>(match c with | .inl _=>(q4v 2 a []).bind fun b=>(cond (!b.2) (some true) ((q6z b.1 a).bind fun d=>some (!d))).bind fun f=>cond f (some 8) (some 0) | .inr g=>some g))
def q9q (x : qw) : List DV:=[.int .i64 x.X,.int .i64 x.Y,.int .i64 x.Z]
noncomputable def qc0 (a : K3) (b : List qh) : Option (List qh × Int):=
  (q5k ({Lines:=[a],Marks:=[],End:=({Frame:=({Turn:=0,At:=({X:=0,Y:=0,Z:=0} : qw)} : K0),Drawn:=0} : Z4)} : Qr)).bind fun c=>cond (c.2 != 0) (some ([],c.2)) ((q1j b).bind fun d=>cond (d != 0) (some ([],d)) ((q90 a b).bind fun f=>some (f.1,f.2)))
noncomputable def qem (b : List qh) (a : Int × List Int) : Option ((Int × List Int) ⊕ (List Int)):=
  cond (decide (a.1 < (b.length : Int))) ((idx b a.1).bind fun c=>(app 8 a.2 [c.Lo.Z,c.Hi.Z]).bind fun d=>some (.inl (w64 (a.1 + 1),d))) (some (.inr a.2))
noncomputable def qen (b : List qh) (a : Int × List Int) : Option ((Int × List Int) ⊕ (List Int)):=
  cond (decide (a.1 < (b.length : Int))) ((idx b a.1).bind fun c=>(app 8 a.2 [c.Lo.Z,c.Hi.Z]).bind fun d=>some (.inl (w64 (a.1 + 1),d))) (some (.inr a.2))
noncomputable def qeo (c : List qh) (d : Int) (a : Int × List qj) : Option ((Int × List qj) ⊕ (List qj)):=
  cond (decide (a.1 < (c.length : Int))) (((idx c a.1).bind fun b=>(cond (decide (b.Lo.Z≤d)) (some (decide (d < b.Hi.Z))) (some false)).bind fun f=>cond f ((app 32 a.2 [({X0:=b.Lo.X,Y0:=b.Lo.Y,X1:=b.Hi.X,Y1:=b.Hi.Y} : qj)]).bind fun g=>some g) (some a.2)).bind fun h=>some (.inl (w64 (a.1 + 1),h))) (some (.inr a.2))
noncomputable def qep (c : List qh) (d : Int) (a : Int × List qj) : Option ((Int × List qj) ⊕ (List qj)):=
  cond (decide (a.1 < (c.length : Int))) (((idx c a.1).bind fun b=>(cond (decide (b.Lo.Z≤d)) (some (decide (d < b.Hi.Z))) (some false)).bind fun f=>cond f ((app 32 a.2 [({X0:=b.Lo.X,Y0:=b.Lo.Y,X1:=b.Hi.X,Y1:=b.Hi.Y} : qj)]).bind fun g=>some g) (some a.2)).bind fun h=>some (.inl (w64 (a.1 + 1),h))) (some (.inr a.2))
noncomputable def q5a (f : List Int) (l : List qh) (m : List qh) (o : List qj→List qj→Option (List qj × Int)) (a : Int × List qj × Int × Int × List qh) : Option ((Int × List qj × Int × Int × List qh) ⊕ ((List qj × Int × Int × List qh) ⊕ (List qh × Int))):=
  cond (decide (a.1 < (f.length : Int))) ((idx f (w64 (a.1 - 1))).bind fun g=>(idx f a.1).bind fun p=>((idx [l,m] 0).bind fun q=>(loop (qeo q g) (0,[])).bind fun h=>some h).bind fun r=>((idx [l,m] 1).bind fun s=>(loop (qep s g) (0,[])).bind fun h=>some h).bind fun t=>((q27 r).bind fun b=>(cond (b.2 == 0) ((q27 t).bind fun j=>cond (j.2 == 0) ((o b.1 j.1).bind fun n=>some (n.1,n.2)) (some (b.1,j.2))) (some (b.1,b.2))).bind fun k=>cond (k.2 != 0) (some (.inr ([],k.2))) ((q8l a.2.2.2.2 a.2.1 a.2.2.1 a.2.2.2.1 g p k.1).bind fun c=>some (.inl (c.1,c.2.1,c.2.2.1,c.2.2.2))) : Option ((List qj × Int × Int × List qh) ⊕ (List qh × Int))).bind fun u=>(match u with | .inl d=>some (.inl (w64 (a.1 + 1),d.1,d.2.1,d.2.2.1,d.2.2.2)) | .inr v=>some (.inr (.inr v)))) (some (.inr (.inl (a.2.1,a.2.2.1,a.2.2.2.1,a.2.2.2.2))))
noncomputable def qbq (k : List qj→List qj→Option (List qj × Int)) (c : List qh) (d : List qh) : Option (List qh × Int):=
  (((idx [c,d] 0).bind fun l=>(loop (qem l) (0,[])).bind fun b=>some b).bind fun m=>((idx [c,d] 1).bind fun n=>(loop (qen n) (0,m)).bind fun b=>some b).bind fun h=>(Ud h).bind fun f=>(K6 f.length h.length).bind fun _=>(q1h f).bind fun a=>(K6 a.2.length f.length).bind fun _=>(q1m a.2.length a.1).bind fun _=>some ((a.2.drop a.1.1).take a.1.2)).bind fun o=>((loop (q5a o c d k) (1,[],0,0,[]) : Option ((List qj × Int × Int × List qh) ⊕ (List qh × Int))).bind fun p=>(match p with | .inl b=>some (.inl b) | .inr g=>some (.inr g)) : Option ((List qj × Int × Int × List qh) ⊕ (List qh × Int))).bind fun q=>(match q with | .inl j=>cond (decide ((j.2.2.2.length : Int) > 400)) (some ([],4)) (some (j.2.2.2,0)) | .inr g=>some g)
noncomputable def qbp (a : List qh) (b : List qh) (g : List qj→List qj→Option (List qj × Int)) : Option (List qh × Int):=
  (q1j a).bind fun c=>cond (c != 0) (some ([],c)) ((q1j b).bind fun d=>cond (d != 0) (some ([],d)) ((qbq g a b).bind fun f=>some (f.1,f.2)))
noncomputable def q50 (b : List qj) (c : qj→Option Bool) (a : Int) : Option ((Int) ⊕ ((Unit) ⊕ (Int))):=
  cond (decide (a < (b.length : Int))) ((idx b a).bind fun d=>(c d).bind fun f=>cond f (some (.inr (.inr a))) (some (.inl (w64 (a + 1))))) (some (.inr (.inl ())))
noncomputable def qeh (a : List qj) (b : qj→Option Bool) : Option Int:=
  (loop (q50 a b) 0 : Option ((Unit) ⊕ (Int))).bind fun c=>(match c with | .inl _=>some (-1) | .inr d=>some d)
noncomputable def qaq (a : List qj) (b : qj→Option Bool) : Option Bool:=
  (qeh a b).bind fun c=>some (decide (c ≥ 0))
noncomputable def q3h (a : qj) : Option Bool:=
  (q7b a).bind fun b=>some (!b)
noncomputable def q75 (a : List qj) : Option Int:=
  cond (decide ((a.length : Int) > 400)) (some 4) ((qaq a (fun c=>q3h c)).bind fun d=>cond d (some 8) ((q7a a).bind fun b=>(cond (b.2 != 0) (some true) ((q7i b.1 a).bind fun f=>some (!f))).bind fun g=>cond g (some 8) (some 0)))
noncomputable def qai (b : List qj) (c : List qj) : Option Int:=
  (q75 b).bind fun a=>cond (a != 0) (some a) ((q75 c).bind fun d=>some d)
noncomputable def qe1 (b : List qj) (a : Int × List Int) : Option ((Int × List Int) ⊕ (List Int)):=
  cond (decide (a.1 < (b.length : Int))) ((idx b a.1).bind fun c=>(app 8 a.2 [c.X0,c.X1]).bind fun d=>some (.inl (w64 (a.1 + 1),d))) (some (.inr a.2))
noncomputable def qe2 (b : List qj) (a : Int × List Int) : Option ((Int × List Int) ⊕ (List Int)):=
  cond (decide (a.1 < (b.length : Int))) ((idx b a.1).bind fun c=>(app 8 a.2 [c.X0,c.X1]).bind fun d=>some (.inl (w64 (a.1 + 1),d))) (some (.inr a.2))
noncomputable def qe3 (c : List qj) (d : Int) (a : Int × List qn) : Option ((Int × List qn) ⊕ (List qn)):=
  cond (decide (a.1 < (c.length : Int))) (((idx c a.1).bind fun b=>(cond (decide (b.X0≤d)) (some (decide (d < b.X1))) (some false)).bind fun f=>cond f ((app 16 a.2 [({Lo:=b.Y0,Hi:=b.Y1} : qn)]).bind fun g=>some g) (some a.2)).bind fun h=>some (.inl (w64 (a.1 + 1),h))) (some (.inr a.2))
noncomputable def qe4 (c : List qj) (d : Int) (a : Int × List qn) : Option ((Int × List qn) ⊕ (List qn)):=
  cond (decide (a.1 < (c.length : Int))) (((idx c a.1).bind fun b=>(cond (decide (b.X0≤d)) (some (decide (d < b.X1))) (some false)).bind fun f=>cond f ((app 16 a.2 [({Lo:=b.Y0,Hi:=b.Y1} : qn)]).bind fun g=>some g) (some a.2)).bind fun h=>some (.inl (w64 (a.1 + 1),h))) (some (.inr a.2))
noncomputable def q4x (d : List Int) (j : List qj) (k : List qj) (l : List qn→List qn→Option (List qn × Int)) (a : Int × List qn × Int × Int × List qj) : Option ((Int × List qn × Int × Int × List qj) ⊕ ((List qn × Int × Int × List qj) ⊕ (List qj × Int))):=
  cond (decide (a.1 < (d.length : Int))) ((idx d (w64 (a.1 - 1))).bind fun f=>(idx d a.1).bind fun m=>((idx [j,k] 0).bind fun n=>(loop (qe3 n f) (0,[])).bind fun g=>some g).bind fun o=>((idx [j,k] 1).bind fun p=>(loop (qe4 p f) (0,[])).bind fun g=>some g).bind fun q=>((l o q).bind fun h=>cond (h.2 != 0) (some (.inr ([],h.2))) ((q77 a.2.2.2.2 a.2.1 a.2.2.1 a.2.2.2.1 f m h.1).bind fun b=>some (.inl (b.1,b.2.1,b.2.2.1,b.2.2.2))) : Option ((List qn × Int × Int × List qj) ⊕ (List qj × Int))).bind fun r=>(match r with | .inl c=>some (.inl (w64 (a.1 + 1),c.1,c.2.1,c.2.2.1,c.2.2.2)) | .inr s=>some (.inr (.inr s)))) (some (.inr (.inl (a.2.1,a.2.2.1,a.2.2.2.1,a.2.2.2.2))))
noncomputable def qaj (c : List qj) (d : List qj) (m : List qn→List qn→Option (List qn × Int)) : Option (List qj × Int):=
  (qai c d).bind fun h=>cond (h != 0) (some ([],h)) ((((idx [c,d] 0).bind fun n=>(loop (qe1 n) (0,[])).bind fun b=>some b).bind fun o=>((idx [c,d] 1).bind fun p=>(loop (qe2 p) (0,o)).bind fun b=>some b).bind fun j=>(Ud j).bind fun f=>(K6 f.length j.length).bind fun _=>(q1h f).bind fun a=>(K6 a.2.length f.length).bind fun _=>(q1m a.2.length a.1).bind fun _=>some ((a.2.drop a.1.1).take a.1.2)).bind fun q=>((loop (q4x q c d m) (1,[],0,0,[]) : Option ((List qn × Int × Int × List qj) ⊕ (List qj × Int))).bind fun r=>(match r with | .inl b=>some (.inl b) | .inr g=>some (.inr g)) : Option ((List qn × Int × Int × List qj) ⊕ (List qj × Int))).bind fun s=>(match s with | .inl k=>(cond (decide ((k.2.2.2.length : Int) > 400)) (some (4,[])) (some (0,k.2.2.2))).bind fun l=>some (l.2,l.1) | .inr g=>some g))
noncomputable def q2f (b : List qn) (a : Int) : Option ((Int) ⊕ ((Unit) ⊕ (Int))):=
  cond (decide (a < (b.length : Int))) ((idx b a).bind fun c=>(q3v c).bind fun d=>(cond (!d) (some true) ((cond (decide (a > 0)) ((idx b (w64 (a - 1))).bind fun f=>some (decide (f.Hi ≥ c.Lo))) (some false)).bind fun g=>some g)).bind fun h=>cond h (some (.inr (.inr 8))) (some (.inl (w64 (a + 1))))) (some (.inr (.inl ())))
noncomputable def q3t (a : List qn) : Option Int:=
  cond (decide ((a.length : Int) > 400)) (some 4) ((loop (q2f a) 0 : Option ((Unit) ⊕ (Int))).bind fun b=>(match b with | .inl _=>some 0 | .inr c=>some c))
noncomputable def qbt (a : List qn) (b : List qn) (g : Bool→Bool→Option Bool) : Option (List qn × Int):=
  (q3t a).bind fun c=>cond (c != 0) (some ([],c)) ((q3t b).bind fun d=>cond (d != 0) (some ([],d)) ((q3u a b g).bind fun f=>cond (decide ((f.length : Int) > 400)) (some ([],4)) (some (f,0))))
noncomputable def qer (a : Bool) (b : Bool) : Option Bool:=
  (cond a (some true) (some b)).bind fun c=>some c
noncomputable def q8t (b : List qn) (c : List qn) : Option (List qn × Int):=
  (qbt b c (fun d f=>qer d f)).bind fun a=>some (a.1,a.2)
noncomputable def q76 (b : List qj) (c : List qj) : Option (List qj × Int):=
  (qaj b c (fun d f=>q8t d f)).bind fun a=>some (a.1,a.2)
noncomputable def qbn (b : List qh) (c : List qh) : Option (List qh × Int):=
  (qbp b c (fun d f=>q76 d f)).bind fun a=>some (a.1,a.2)
noncomputable def q5i (c : List (List qh) × Int) (a : List qh × Int) : Option ((List qh × Int) ⊕ ((List qh) ⊕ (List qh × Int))):=
  cond (decide (a.2 < (c.1.length : Int))) ((idx c.1 a.2).bind fun d=>(qbn a.1 d).bind fun b=>cond (b.2 != 0) (some (.inr (.inr ([],b.2)))) (some (.inl (b.1,w64 (a.2 + 1))))) (some (.inr (.inl a.1)))
noncomputable def q3x (b : Qr) (c : List (List qh)) : Option (List qh × Int):=
  (q8w b c).bind fun a=>cond (a.2 != 0) (some ([],a.2)) ((loop (q5i a) ([],0) : Option ((List qh) ⊕ (List qh × Int))).bind fun d=>(match d with | .inl f=>some (f,0) | .inr g=>some g))
noncomputable def qc1 (a : K3) (b : K3) : Option Bool:=
  (cond (!((a.From.X == b.From.X) && ((a.From.Y == b.From.Y) && ((a.From.Z == b.From.Z) && true)))) (some (!((a.From.X == b.To.X) && ((a.From.Y == b.To.Y) && ((a.From.Z == b.To.Z) && true))))) (some false)).bind fun c=>(cond c (some (!((a.To.X == b.From.X) && ((a.To.Y == b.From.Y) && ((a.To.Z == b.From.Z) && true))))) (some false)).bind fun d=>(cond d (some (!((a.To.X == b.To.X) && ((a.To.Y == b.To.Y) && ((a.To.Z == b.To.Z) && true))))) (some false)).bind fun f=>some f
noncomputable def q92 (a : qh) (b : qh) : Option Bool:=
  (cond (decide (b.Lo.X < a.Hi.X)) (some (decide (a.Lo.X < b.Hi.X))) (some false)).bind fun c=>(cond c (some (decide (b.Lo.Y < a.Hi.Y))) (some false)).bind fun d=>(cond d (some (decide (a.Lo.Y < b.Hi.Y))) (some false)).bind fun f=>(cond f (some (decide (b.Lo.Z < a.Hi.Z))) (some false)).bind fun g=>(cond g (some (decide (a.Lo.Z < b.Hi.Z))) (some false)).bind fun h=>some h
noncomputable def qc6 (a : qh) (b : List qh) : Option Bool:=
  (q2a b (fun c=>q92 c a)).bind fun d=>some d
noncomputable def qc5 (a : List qh) (b : List qh) : Option Bool:=
  (q2a a (fun c=>qc6 c b)).bind fun d=>some d
def Uj (x : Int × Int) : List DV:=[.int .i64 x.1,.int .i64 x.2]
noncomputable def q5f (b : Int × (List ((Int × Int) × Bool))) (c : Qr) (d : List (List qh) × Int) (a : Int × (List ((Int × Int) × Bool))) : Option ((Int × (List ((Int × Int) × Bool))) ⊕ ((List ((Int × Int) × Bool)))):=
  cond (decide (a.1 < b.1)) (((idx c.Lines a.1).bind fun f=>(idx c.Lines b.1).bind fun g=>(qc1 f g).bind fun h=>(cond h ((idx d.1 a.1).bind fun j=>(idx d.1 b.1).bind fun k=>(qc5 j k).bind fun l=>some l) (some false)).bind fun m=>cond m (some (Ut (a.1,b.1) true a.2)) (some a.2)).bind fun n=>some (.inl (w64 (a.1 + 1),n))) (some (.inr a.2))
noncomputable def q8z (b : List (List qh) × Int) (c : Qr) (a : Int × (List ((Int × Int) × Bool))) : Option ((Int × (List ((Int × Int) × Bool))) ⊕ ((List ((Int × Int) × Bool)))):=
  cond (decide (a.1 < (b.1.length : Int))) (((loop (q5f a c b) (0,a.2)).bind fun d=>some d).bind fun f=>some (.inl (w64 (a.1 + 1),f))) (some (.inr a.2))
noncomputable def q5h (c : List (List qh) × Int) (b : Int × (List (Int × Int))) (d : (List ((Int × Int) × Bool))) (a : Int × (List (Int × Int))) : Option ((Int × (List (Int × Int))) ⊕ ((List (Int × Int)))):=
  cond (decide (a.1 < (c.1.length : Int))) ((cond (Zc false (b.1,a.1) d) ((app 16 a.2 [(b.1,a.1)]).bind fun f=>some f) (some a.2)).bind fun g=>some (.inl (w64 (a.1 + 1),g))) (some (.inr a.2))
noncomputable def q5g (b : List (List qh) × Int) (c : (List ((Int × Int) × Bool))) (a : Int × (List (Int × Int))) : Option ((Int × (List (Int × Int))) ⊕ ((List (Int × Int)))):=
  cond (decide (a.1 < (b.1.length : Int))) (((loop (q5h b a c) (0,a.2)).bind fun d=>some d).bind fun f=>some (.inl (w64 (a.1 + 1),f))) (some (.inr a.2))
noncomputable def q8y (b : Qr) (c : List (List qh)) : Option ((List (Int × Int)) × Int):=
  (q8w b c).bind fun a=>cond (a.2 != 0) (some ([],a.2)) ((loop (q8z a b) (0,[])).bind fun d=>(loop (q5g a d) (0,[])).bind fun f=>some (f,0))
noncomputable def q73 (b : List (Int × Int)) (f : List (Int × Int)) (a : Int) : Option ((Int) ⊕ ((Unit) ⊕ (Bool))):=
  cond (decide (a < (b.length : Int))) ((idx b a).bind fun c=>(idx f a).bind fun d=>cond (!((c.1 == d.1) && ((c.2 == d.2) && true))) (some (.inr (.inr false))) (some (.inl (w64 (a + 1))))) (some (.inr (.inl ())))
noncomputable def qah (a : List (Int × Int)) (b : List (Int × Int)) : Option Bool:=
  cond ((a.length : Int) != (b.length : Int)) (some false) ((loop (q73 a b) 0 : Option ((Unit) ⊕ (Bool))).bind fun c=>(match c with | .inl _=>some true | .inr d=>some d))
noncomputable def q23 (a : Int) (b : Int) (c : Int) (d : Int) : Option K3:=
  some ({From:=({X:=a,Y:=b,Z:=0} : qw),To:=({X:=c,Y:=d,Z:=0} : qw),Depth:=0} : K3)
noncomputable def q6d : Option (List qh):=
  some [({Lo:=({X:=0,Y:=0,Z:=0} : qw),Hi:=({X:=1,Y:=1,Z:=1} : qw)} : qh)]
noncomputable def qel (a : qh) : Option (Int × Int × Int):=
  some (w64 (a.Hi.X - a.Lo.X),w64 (a.Hi.Y - a.Lo.Y),w64 (a.Hi.Z - a.Lo.Z))
noncomputable def q8k (c : List qh) (a : Int × Int) : Option ((Int × Int) ⊕ (Int)):=
  cond (decide (a.2 < (c.length : Int))) ((idx c a.2).bind fun d=>(qel d).bind fun b=>some (.inl (w64 (a.1 + (w64 ((w64 (b.1 * b.2.1)) * b.2.2))),w64 (a.2 + 1)))) (some (.inr a.1))
noncomputable def qbo (a : List qh) : Option (Int × Int):=
  (q1j a).bind fun b=>cond (b != 0) (some (0,b)) ((loop (q8k a) (0,0)).bind fun c=>some (c,0))
noncomputable def qa0 : Option Bool:=
  (q23 0 0 3 0).bind fun f=>q6d.bind fun g=>(qc0 f g).bind fun a=>(q23 0 0 1 0).bind fun h=>(q23 1 0 2 0).bind fun j=>(q23 2 0 2 1).bind fun k=>q6d.bind fun l=>(q3x ({Lines:=[h,j,k],Marks:=[],End:=({Frame:=({Turn:=0,At:=({X:=0,Y:=0,Z:=0} : qw)} : K0),Drawn:=0} : Z4)} : Qr) [l]).bind fun b=>(qbo b.1).bind fun c=>(q23 0 0 2 0).bind fun m=>(q23 1 (-1) 1 1).bind fun n=>q6d.bind fun o=>(q8y ({Lines:=[m,n],Marks:=[],End:=({Frame:=({Turn:=0,At:=({X:=0,Y:=0,Z:=0} : qw)} : K0),Drawn:=0} : Z4)} : Qr) [o]).bind fun d=>cond (a.2 == 0) ((q6z a.1 [({Lo:=({X:=0,Y:=0,Z:=0} : qw),Hi:=({X:=4,Y:=1,Z:=1} : qw)} : qh)]).bind fun p=>(cond p (some (b.2 == 0)) (some false)).bind fun q=>(cond q (some (c.2 == 0)) (some false)).bind fun r=>(cond r (some (c.1 == 4)) (some false)).bind fun s=>(cond s (some (d.2 == 0)) (some false)).bind fun t=>cond t ((qah d.1 [(0,1)]).bind fun u=>some u) (some false)) (some false)
noncomputable def q6a (c : Qr) (b : Int) : Option ((Int) ⊕ ((Unit) ⊕ (Bool))):=
  cond (decide (b < (c.Lines.length : Int))) ((idx c.Lines b).bind fun a=>(cond (decide (a.Depth < 0)) (some true) ((Jd a.From (-1000)).bind fun d=>some (!d))).bind fun f=>(cond f (some true) (some (decide ((max (max a.From.X a.From.Y) a.From.Z) > 1000)))).bind fun g=>cond g (some (.inr (.inr false))) (some (.inl (w64 (b + 1))))) (some (.inr (.inl ())))
noncomputable def q6b (b : List (List qh)) (a : Int) : Option ((Int) ⊕ ((Unit) ⊕ (Bool))):=
  cond (decide (a < (b.length : Int))) ((idx b a).bind fun c=>(qae c).bind fun d=>cond (d != 0) (some (.inr (.inr false))) (some (.inl (w64 (a + 1))))) (some (.inr (.inl ())))
noncomputable def q69 (b : Qr) (a : List (List qh)) : Option Bool:=
  (q70 b a).bind fun d=>(cond d (some true) ((qad b).bind fun f=>some (f != 0))).bind fun g=>(cond g (some true) (some (decide ((a.length : Int) < 1)))).bind fun h=>(cond h (some true) (some (decide ((a.length : Int) > 5)))).bind fun j=>cond j (some false) ((loop (q6a b) 0 : Option ((Unit) ⊕ (Bool))).bind fun k=>(match k with | .inl _=>(loop (q6b a) 0 : Option ((Unit) ⊕ (Bool))).bind fun l=>(match l with | .inl _=>some true | .inr c=>some c) | .inr c=>some c))
noncomputable def qd5 (a : Int) : Option qw:=
  cond ((IntKind.wrap .u8 (Int.tdiv a 2)) == 0) (some ({X:=w64 (1 - (w64 (2 * (w64 (Int.tmod a 2))))),Y:=0,Z:=0} : qw)) (cond ((IntKind.wrap .u8 (Int.tdiv a 2)) == 1) (some ({X:=0,Y:=w64 (1 - (w64 (2 * (w64 (Int.tmod a 2))))),Z:=0} : qw)) (some ({X:=0,Y:=0,Z:=w64 (1 - (w64 (2 * (w64 (Int.tmod a 2)))))} : qw)))
noncomputable def qgh (a : qw) (b : qw) : Option qw:=
  some ({X:=w64 ((w64 (a.Y * b.Z)) - (w64 (a.Z * b.Y))),Y:=w64 ((w64 (a.Z * b.X)) - (w64 (a.X * b.Z))),Z:=w64 ((w64 (a.X * b.Y)) - (w64 (a.Y * b.X)))} : qw)
noncomputable def q2w (a : Int) : Option (qw × qw × qw):=
  (cond (decide ((Int.tmod a 4) ≥ (IntKind.wrap .u8 ((IntKind.wrap .u8 (Int.tdiv (IntKind.wrap .u8 (Int.tdiv a 4)) 2)) * 2)))) (some (IntKind.wrap .u8 ((Int.tmod a 4) + 2))) (some (Int.tmod a 4))).bind fun d=>(qd5 (IntKind.wrap .u8 (Int.tdiv a 4))).bind fun b=>(qd5 d).bind fun c=>(qgh b c).bind fun f=>some (b,c,f)
noncomputable def q60 (a : qw × qw × qw) (b : qw) : Option qw:=
  some ({X:=w64 ((w64 ((w64 (b.X * a.1.X)) + (w64 (b.Y * a.2.1.X)))) + (w64 (b.Z * a.2.2.X))),Y:=w64 ((w64 ((w64 (b.X * a.1.Y)) + (w64 (b.Y * a.2.1.Y)))) + (w64 (b.Z * a.2.2.Y))),Z:=w64 ((w64 ((w64 (b.X * a.1.Z)) + (w64 (b.Y * a.2.1.Z)))) + (w64 (b.Z * a.2.2.Z)))} : qw)
noncomputable def q5y (a : K0) (c : qw) : Option qw:=
  (q2w a.Turn).bind fun d=>(q60 d c).bind fun b=>some ({X:=w64 (b.X + a.At.X),Y:=w64 (b.Y + a.At.Y),Z:=w64 (b.Z + a.At.Z)} : qw)
noncomputable def q2t (a : K0) (b : qw) : Option (qw × Int):=
  (U7 a).bind fun c=>cond (c != 0) (some (({X:=0,Y:=0,Z:=0} : qw),c)) ((q48 b (-1000000)).bind fun f=>cond (!f) (some (({X:=0,Y:=0,Z:=0} : qw),2)) ((q5y a b).bind fun d=>(q48 d (-1000000)).bind fun g=>cond (!g) (some (({X:=0,Y:=0,Z:=0} : qw),16)) (some (d,0))))
noncomputable def q5z (a : qw × qw × qw) (c : Int) : Option ((Int) ⊕ ((Unit) ⊕ (Int))):=
  cond (decide (c < 24)) ((q2w c).bind fun b=>cond ((b.1.X == a.1.X) && ((b.1.Y == a.1.Y) && ((b.1.Z == a.1.Z) && ((b.2.1.X == a.2.1.X) && ((b.2.1.Y == a.2.1.Y) && ((b.2.1.Z == a.2.1.Z) && ((b.2.2.X == a.2.2.X) && ((b.2.2.Y == a.2.2.Y) && ((b.2.2.Z == a.2.2.Z) && true))))))))) (some (.inr (.inr c))) (some (.inl (IntKind.wrap .u8 (c + 1))))) (some (.inr (.inl ())))
noncomputable def q9x (a : qw × qw × qw) : Option Int:=
  (loop (q5z a) 0 : Option ((Unit) ⊕ (Int))).bind fun b=>(match b with | .inl _=>some 0 | .inr c=>some c)
noncomputable def q2x (b : (qw × qw × qw)) (a : Int × List qw) : Option ((Int × List qw) ⊕ (List qw)):=
  cond (decide (a.1 < 3)) ((idxA 3 a.2 a.1).bind fun c=>(q60 b c).bind fun d=>(idxA 3 a.2 a.1).bind fun _=>some (.inl (w64 (a.1 + 1),a.2.set a.1.toNat d))) (some (.inr a.2))
noncomputable def q9y (b : K0) (c : K0) : Option K0:=
  (q2w b.Turn).bind fun a=>(q2w c.Turn).bind fun d=>(loop (q2x d) (0,[a.1,a.2.1,a.2.2])).bind fun f=>(arr3 f).bind fun g=>(q9x g).bind fun h=>(q5y c b.At).bind fun j=>some ({Turn:=h,At:=j} : K0)
noncomputable def q11 (a : K0) (b : K0) : Option (K0 × Int):=
  (U7 a).bind fun c=>cond (c != 0) (some (({Turn:=0,At:=({X:=0,Y:=0,Z:=0} : qw)} : K0),c)) ((U7 b).bind fun d=>cond (d != 0) (some (({Turn:=0,At:=({X:=0,Y:=0,Z:=0} : qw)} : K0),d)) ((q9y a b).bind fun f=>(U7 f).bind fun g=>cond (g != 0) (some (({Turn:=0,At:=({X:=0,Y:=0,Z:=0} : qw)} : K0),16)) (some (f,0))))
noncomputable def q94 (c : Qr) (d : K0) (a : Int × List K3) : Option ((Int × List K3) ⊕ ((List K3) ⊕ (Qr × Int))):=
  cond (decide (a.1 < (c.Lines.length : Int))) ((idx c.Lines a.1).bind fun b=>(q2t d b.From).bind fun f=>(q2t d b.To).bind fun g=>(cond (f.2 != 0) (some true) (some (g.2 != 0))).bind fun h=>cond h (some (.inr (.inr (({Lines:=[],Marks:=[],End:=({Frame:=({Turn:=0,At:=({X:=0,Y:=0,Z:=0} : qw)} : K0),Drawn:=0} : Z4)} : Qr),16)))) ((app 56 a.2 [({From:=f.1,To:=g.1,Depth:=b.Depth} : K3)]).bind fun j=>some (.inl (w64 (a.1 + 1),j)))) (some (.inr (.inl a.2)))
noncomputable def q95 (c : Qr) (f : K0) (a : Int × List Yf) : Option ((Int × List Yf) ⊕ ((List Yf) ⊕ (Qr × Int))):=
  cond (decide (a.1 < (c.Marks.length : Int))) ((idx c.Marks a.1).bind fun d=>(q11 d.Frame f).bind fun b=>cond (b.2 != 0) (some (.inr (.inr (({Lines:=[],Marks:=[],End:=({Frame:=({Turn:=0,At:=({X:=0,Y:=0,Z:=0} : qw)} : K0),Drawn:=0} : Z4)} : Qr),b.2)))) ((app 40 a.2 [({Name:=d.Name,Frame:=b.1} : Yf)]).bind fun g=>some (.inl (w64 (a.1 + 1),g)))) (some (.inr (.inl a.2)))
noncomputable def qca (a : Qr) (b : K0) : Option (Qr × Int):=
  (q96 a).bind fun f=>cond (f != 0) (some (({Lines:=[],Marks:=[],End:=({Frame:=({Turn:=0,At:=({X:=0,Y:=0,Z:=0} : qw)} : K0),Drawn:=0} : Z4)} : Qr),f)) ((U7 b).bind fun g=>cond (g != 0) (some (({Lines:=[],Marks:=[],End:=({Frame:=({Turn:=0,At:=({X:=0,Y:=0,Z:=0} : qw)} : K0),Drawn:=0} : Z4)} : Qr),g)) ((loop (q94 a b) (0,[]) : Option ((List K3) ⊕ (Qr × Int))).bind fun h=>(match h with | .inl j=>(loop (q95 a b) (0,[]) : Option ((List Yf) ⊕ (Qr × Int))).bind fun k=>(match k with | .inl l=>(q11 a.End.Frame b).bind fun c=>cond (c.2 != 0) (some (({Lines:=[],Marks:=[],End:=({Frame:=({Turn:=0,At:=({X:=0,Y:=0,Z:=0} : qw)} : K0),Drawn:=0} : Z4)} : Qr),c.2)) (some (({Lines:=j,Marks:=l,End:=({Frame:=c.1,Drawn:=a.End.Drawn} : Z4)} : Qr),0)) | .inr d=>some d) | .inr d=>some d)))
noncomputable def q59 (d : List qh) (f : K0) (c : Int × List qh) : Option ((Int × List qh) ⊕ ((List qh) ⊕ (List qh × Int))):=
  cond (decide (c.1 < (d.length : Int))) ((idx d c.1).bind fun g=>(q2t f g.Lo).bind fun a=>(q2t f g.Hi).bind fun b=>(cond (a.2 != 0) (some true) (some (b.2 != 0))).bind fun h=>cond h (some (.inr (.inr ([],16)))) ((app 48 c.2 [({Lo:=({X:=min a.1.X b.1.X,Y:=min a.1.Y b.1.Y,Z:=min a.1.Z b.1.Z} : qw),Hi:=({X:=max a.1.X b.1.X,Y:=max a.1.Y b.1.Y,Z:=max a.1.Z b.1.Z} : qw)} : qh)]).bind fun j=>some (.inl (w64 (c.1 + 1),j)))) (some (.inr (.inl c.2)))
noncomputable def q8j (a : List qh) (b : K0) : Option (List qh × Int):=
  (q1j a).bind fun c=>cond (c != 0) (some ([],c)) ((U7 b).bind fun d=>cond (d != 0) (some ([],d)) ((loop (q59 a b) (0,[]) : Option ((List qh) ⊕ (List qh × Int))).bind fun g=>(match g with | .inl h=>(q8i h).bind fun f=>some (f.1,f.2) | .inr j=>some j)))
noncomputable def q68 (c : List (List qh)) (d : K0) (f : Bool) (a : Int × List (List qh)) : Option ((Int × List (List qh)) ⊕ ((List (List qh)) ⊕ (Bool))):=
  cond (decide (a.1 < (c.length : Int))) ((idx c a.1).bind fun g=>(q8j g ({Turn:=d.Turn,At:=({X:=0,Y:=0,Z:=0} : qw)} : K0)).bind fun b=>cond (b.2 != 0) ((cond f ((cond (b.2 == 16) (some true) (some (b.2 == 4))).bind fun h=>some h) (some false)).bind fun j=>some (.inr (.inr j))) ((app 24 a.2 [b.1]).bind fun k=>some (.inl (w64 (a.1 + 1),k)))) (some (.inr (.inl a.2)))
noncomputable def qdf (h : Qr) (j : List (List qh)) (f : K0) : Option Bool:=
  qa0.bind fun a=>(q69 h j).bind fun k=>(cond (!k) (some true) ((q4s f).bind fun l=>some (l != 0))).bind fun m=>(cond m (some true) (some (!a))).bind fun n=>cond n (some a) ((q3x h j).bind fun b=>(qca h f).bind fun g=>(loop (q68 j f a) (0,[]) : Option ((List (List qh)) ⊕ (Bool))).bind fun o=>(match o with | .inl p=>(cond (b.2 != 0) (some true) (some (g.2 != 0))).bind fun q=>cond q ((cond a ((cond (b.2 == 0) (some true) (some (b.2 == 16))).bind fun r=>(cond r (some true) (some (b.2 == 4))).bind fun s=>some s) (some false)).bind fun t=>(cond t ((cond (g.2 == 0) (some true) (some (g.2 == 16))).bind fun u=>some u) (some false)).bind fun v=>some v) ((q8j b.1 f).bind fun c=>(q3x g.1 p).bind fun d=>(cond (c.2 != 0) (some true) (some (d.2 != 0))).bind fun w=>cond w ((cond a ((cond (c.2 == 0) (some true) (some (c.2 == 16))).bind fun x=>(cond x (some true) (some (c.2 == 4))).bind fun y=>some y) (some false)).bind fun z=>(cond z ((cond (d.2 == 0) (some true) (some (d.2 == 16))).bind fun aa=>(cond aa (some true) (some (d.2 == 4))).bind fun ab=>some ab) (some false)).bind fun ac=>some ac) ((cond a ((q6z c.1 d.1).bind fun ad=>some ad) (some false)).bind fun ae=>some ae)) | .inr x1=>some x1))
noncomputable def qo4 (a : qn) : Option Bool:=
  (cond (decide (a.Lo < a.Hi)) (some (decide (a.Lo ≥ (-1000000)))) (some false)).bind fun b=>(cond b (some (decide (a.Hi≤1000000))) (some false)).bind fun c=>some c
noncomputable def qhs (b : List qn) (a : Int) : Option ((Int) ⊕ ((Unit) ⊕ (Int))):=
  cond (decide (a < (b.length : Int))) ((idx b a).bind fun c=>(qo4 c).bind fun d=>(cond (!d) (some true) ((cond (decide (a > 0)) ((idx b (w64 (a - 1))).bind fun f=>(idx b a).bind fun g=>some (decide (f.Hi ≥ g.Lo))) (some false)).bind fun h=>some h)).bind fun j=>cond j (some (.inr (.inr 8))) (some (.inl (w64 (a + 1))))) (some (.inr (.inl ())))
noncomputable def qds (a : List qn) : Option Int:=
  cond (decide ((a.length : Int) > 400)) (some 4) ((loop (qhs a) 0 : Option ((Unit) ⊕ (Int))).bind fun b=>(match b with | .inl _=>some 0 | .inr c=>some c))
noncomputable def qa7 (b : List qn) (a : Int × List Int) : Option ((Int × List Int) ⊕ (List Int)):=
  cond (decide (a.1 < (b.length : Int))) ((idx b a.1).bind fun c=>(idx b a.1).bind fun d=>(app 8 a.2 [c.Lo,d.Hi]).bind fun f=>some (.inl (w64 (a.1 + 1),f))) (some (.inr a.2))
noncomputable def qo1 (b : List qn) (a : Int × List Int) : Option ((Int × List Int) ⊕ (List Int)):=
  cond (decide (a.1 < (b.length : Int))) ((idx b a.1).bind fun c=>(idx b a.1).bind fun d=>(app 8 a.2 [c.Lo,d.Hi]).bind fun f=>some (.inl (w64 (a.1 + 1),f))) (some (.inr a.2))
noncomputable def qht (a : List qn) (b : List qn) : Option (List Int):=
  (loop (qa7 a) (0,[])).bind fun c=>(loop (qo1 b) (0,c)).bind fun d=>(Ub d).bind fun f=>some f
noncomputable def qa8 (b : List qn) (c : Int) (a : Int) : Option ((Int) ⊕ ((Unit) ⊕ (Bool))):=
  cond (decide (a < (b.length : Int))) ((idx b a).bind fun d=>(cond (decide (d.Lo≤c)) ((idx b a).bind fun f=>some (decide (c < f.Hi))) (some false)).bind fun g=>cond g (some (.inr (.inr true))) (some (.inl (w64 (a + 1))))) (some (.inr (.inl ())))
noncomputable def qdt (a : List qn) (b : Int) : Option Bool:=
  (loop (qa8 a b) 0 : Option ((Unit) ⊕ (Bool))).bind fun c=>(match c with | .inl _=>some false | .inr d=>some d)
noncomputable def qa9 (b : List Int) (c : List qn) (d : List qn) (f : Int) (a : Int × List Bool) : Option ((Int × List Bool) ⊕ (List Bool)):=
  cond (decide (a.1 < (b.length : Int))) ((idx b a.1).bind fun g=>(qdt c g).bind fun h=>(idx b a.1).bind fun j=>(qdt d j).bind fun k=>(q6o f h k).bind fun l=>(app 1 a.2 [l]).bind fun m=>some (.inl (w64 (a.1 + 1),m))) (some (.inr a.2))
noncomputable def qdu (d : Int) (a : List qn) (b : List qn) : Option (List qn):=
  (qht a b).bind fun c=>(loop (qa9 c a b d) (0,[])).bind fun f=>(q4i c f).bind fun g=>some g
noncomputable def qbr (b : List qn) (a : Int × Int) : Option ((Int × Int) ⊕ (Int)):=
  cond (decide (a.2 < (b.length : Int))) ((idx b a.2).bind fun c=>some (.inl (w64 (a.1 + (w64 (c.Hi - c.Lo))),w64 (a.2 + 1)))) (some (.inr a.1))
noncomputable def qpt (a : List qn) : Option (Int × Int):=
  (q3t a).bind fun b=>cond (b != 0) (some (0,b)) ((loop (qbr a) (0,0)).bind fun c=>some (c,0))
noncomputable def qaa (b : List qn) (a : Int × Int) : Option ((Int × Int) ⊕ (Int)):=
  cond (decide (a.2 < (b.length : Int))) ((idx b a.2).bind fun c=>(idx b a.2).bind fun d=>some (.inl (w64 ((w64 (a.1 + c.Hi)) - d.Lo),w64 (a.2 + 1)))) (some (.inr a.1))
noncomputable def qo3 (a : List qn) : Option (Int × Int):=
  (qds a).bind fun b=>cond (b != 0) ((qds a).bind fun c=>some (0,c)) ((loop (qaa a) (0,0)).bind fun d=>some (d,0))
structure qjp where
  Frame : K0
  Size : qw
  deriving DecidableEq
structure q16q where
  t_ : Int
  at_ : qw
  flat_ : qw
  deriving DecidableEq
end Go.Sh
