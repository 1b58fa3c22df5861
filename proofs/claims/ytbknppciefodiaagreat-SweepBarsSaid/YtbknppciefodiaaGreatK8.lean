/- PX -/
import Derived.Test.YtbknppciefodiaaGreatK7
namespace Go.Sh
open Go Go.Am
structure qv where
  X : Int
  Y : Int
  Z : Int
  deriving DecidableEq
structure Qv where
  From : qv
  To : qv
  Depth : Int
  deriving DecidableEq
structure Ys where
  Turn : Int
  At : qv
  deriving DecidableEq
structure Ye where
  Name : Int
  Frame : Ys
  deriving DecidableEq
structure q42 where
  Frame : Ys
  Drawn : Int
  deriving DecidableEq
structure K1 where
  Lines : List Qv
  Marks : List Ye
  End : q42
  deriving DecidableEq
def Qf (x : Qv) : List DV:=[.int .i64 x.From.X,.int .i64 x.From.Y,.int .i64 x.From.Z,.int .i64 x.To.X,.int .i64 x.To.Y,.int .i64 x.To.Z,.int .i64 x.Depth]
def Qy (x : Ye) : List DV:=[.int .u8 x.Name,.int .u8 x.Frame.Turn,.int .i64 x.Frame.At.X,.int .i64 x.Frame.At.Y,.int .i64 x.Frame.At.Z]
structure qg where
  Lo : qv
  Hi : qv
  deriving DecidableEq
def qw (x : qg) : List DV:=[.int .i64 x.Lo.X,.int .i64 x.Lo.Y,.int .i64 x.Lo.Z,.int .i64 x.Hi.X,.int .i64 x.Hi.Y,.int .i64 x.Hi.Z]
def Ql (x : List qg) : List DV:=[.sl 6 (x.map qw)]
noncomputable def Zt (a : qv) (b : Int) : Option Bool:=
  (cond (decide (a.X ≥ b)) (some (decide (a.Y ≥ b))) (some false)).bind fun c=>(cond c (some (decide (a.Z ≥ b))) (some false)).bind fun d=>(cond d (some (decide (a.X≤1000000))) (some false)).bind fun f=>(cond f (some (decide (a.Y≤1000000))) (some false)).bind fun g=>(cond g (some (decide (a.Z≤1000000))) (some false)).bind fun h=>some h
noncomputable def q50 (d : K1) (c : Int) : Option ((Int) ⊕ ((Unit) ⊕ (Bool))):=
  cond (decide (c < (d.Lines.length : Int))) ((idx d.Lines c).bind fun a=>(idx d.Lines c).bind fun b=>(Zt a.From (-2000000)).bind fun f=>(cond (!f) (some true) ((Zt b.To (-2000000)).bind fun g=>some (!g))).bind fun h=>(cond h (some true) (some (decide ((max (max (max (max (max (w64 (a.From.X - b.To.X)) (w64 (b.To.X - a.From.X))) (w64 (a.From.Y - b.To.Y))) (w64 (b.To.Y - a.From.Y))) (w64 (a.From.Z - b.To.Z))) (w64 (b.To.Z - a.From.Z))) > 30)))).bind fun j=>cond j (some (.inr (.inr true))) (some (.inl (w64 (c + 1))))) (some (.inr (.inl ())))
noncomputable def q51 (b : List (List qg)) (a : Int) : Option ((Int) ⊕ ((Unit) ⊕ (Bool))):=
  cond (decide (a < (b.length : Int))) ((idx b a).bind fun c=>cond (decide ((c.length : Int) > 5)) (some (.inr (.inr true))) (some (.inl (w64 (a + 1))))) (some (.inr (.inl ())))
noncomputable def q4z (a : K1) (c : List (List qg)) : Option Bool:=
  (cond (decide ((a.Lines.length : Int) > 12)) (some true) (some (decide ((a.Marks.length : Int) > 50)))).bind fun d=>(cond d (some true) (some (decide ((c.length : Int) > 25)))).bind fun f=>cond f (some true) ((loop (q50 a) 0 : Option ((Unit) ⊕ (Bool))).bind fun g=>(match g with | .inl _=>(loop (q51 c) 0 : Option ((Unit) ⊕ (Bool))).bind fun h=>(match h with | .inl _=>some false | .inr b=>some b) | .inr b=>some b))
noncomputable def q5e (b : List Qv) (c : Qv→Option Bool) (a : Int) : Option ((Int) ⊕ ((Unit) ⊕ (Int))):=
  cond (decide (a < (b.length : Int))) ((idx b a).bind fun d=>(c d).bind fun f=>cond f (some (.inr (.inr a))) (some (.inl (w64 (a + 1))))) (some (.inr (.inl ())))
noncomputable def qbj (a : List Qv) (b : Qv→Option Bool) : Option Int:=
  (loop (q5e a b) 0 : Option ((Unit) ⊕ (Int))).bind fun c=>(match c with | .inl _=>some (-1) | .inr d=>some d)
noncomputable def q5d (a : List Qv) (b : Qv→Option Bool) : Option Bool:=
  (qbj a b).bind fun c=>some (decide (c ≥ 0))
noncomputable def q9t (a : qv) : Option Bool:=
  (cond (decide ((min (min a.X a.Y) a.Z) ≥ (-1000000))) (some (decide ((max (max a.X a.Y) a.Z)≤1000000))) (some false)).bind fun b=>some b
noncomputable def Ub (a : Qv) (b : Int × Int) : Option ((Int × Int) ⊕ (Int)):=
  cond (decide (b.2 < 3)) (((idxA 3 [w64 (a.To.X - a.From.X),w64 (a.To.Y - a.From.Y),w64 (a.To.Z - a.From.Z)] b.2).bind fun c=>cond (c == 0) (some (w64 (b.1 + 1))) (some b.1)).bind fun d=>some (.inl (d,w64 (b.2 + 1)))) (some (.inr b.1))
noncomputable def q6p (a : Qv) : Option Bool:=
  (loop (Ub a) (0,0)).bind fun b=>(q9t a.From).bind fun c=>(cond (!c) (some true) ((q9t a.To).bind fun d=>some (!d))).bind fun f=>(cond f (some true) (some (decide (b < 2)))).bind fun g=>some g
noncomputable def q5f (b : List Ye) (c : Ye→Option Bool) (a : Int) : Option ((Int) ⊕ ((Unit) ⊕ (Int))):=
  cond (decide (a < (b.length : Int))) ((idx b a).bind fun d=>(c d).bind fun f=>cond f (some (.inr (.inr a))) (some (.inl (w64 (a + 1))))) (some (.inr (.inl ())))
noncomputable def qbk (a : List Ye) (b : Ye→Option Bool) : Option Int:=
  (loop (q5f a b) 0 : Option ((Unit) ⊕ (Int))).bind fun c=>(match c with | .inl _=>some (-1) | .inr d=>some d)
noncomputable def q8a (a : List Ye) (b : Ye→Option Bool) : Option Bool:=
  (qbk a b).bind fun c=>some (decide (c ≥ 0))
noncomputable def q7c (a : qv) (b : Int) : Option Bool:=
  (cond (decide ((min (min a.X a.Y) a.Z) ≥ b)) (some (decide ((max (max a.X a.Y) a.Z)≤1000000))) (some false)).bind fun c=>some c
noncomputable def q49 (a : Ys) : Option Int:=
  (cond (decide (a.Turn ≥ 24)) (some true) ((q7c a.At (-1000000)).bind fun b=>some (!b))).bind fun c=>cond c (some 8) (some 0)
noncomputable def q6q (a : Ye) : Option Bool:=
  (q49 a.Frame).bind fun b=>some (b != 0)
noncomputable def q9s (a : K1) : Option Int:=
  (q5d a.Lines (fun b=>q6p b)).bind fun c=>(q8a a.Marks (fun b=>q6q b)).bind fun d=>(cond c (some true) (some d)).bind fun f=>(cond f (some true) ((q49 a.End.Frame).bind fun g=>some (g != 0))).bind fun h=>(cond h (some true) (some (decide ((max (a.Lines.length : Int) (a.Marks.length : Int)) > 2000)))).bind fun j=>cond j (some 8) (some 0)
noncomputable def q6r (a : Int) : Option Int:=
  some (max a (w64 (0 - a)))
noncomputable def q6o (c : K1) (b : Int × Int) : Option ((Int × Int) ⊕ (Int)):=
  cond (decide (b.2 < (c.Lines.length : Int))) ((idx c.Lines b.2).bind fun a=>(q6r (w64 (a.To.X - a.From.X))).bind fun d=>(q6r (w64 (a.To.Y - a.From.Y))).bind fun f=>(q6r (w64 (a.To.Z - a.From.Z))).bind fun g=>some (.inl (w64 (b.1 + (w64 ((w64 (d + f)) + g))),w64 (b.2 + 1)))) (some (.inr b.1))
noncomputable def q3y (a : K1) : Option (Int × Int):=
  (q9s a).bind fun b=>cond (b != 0) (some (0,b)) ((loop (q6o a) (0,0)).bind fun c=>some (c,0))
noncomputable def q3g (b : List qg) (c : qg→Option Bool) (a : Int) : Option ((Int) ⊕ ((Unit) ⊕ (Int))):=
  cond (decide (a < (b.length : Int))) ((idx b a).bind fun d=>(c d).bind fun f=>cond f (some (.inr (.inr a))) (some (.inl (w64 (a + 1))))) (some (.inr (.inl ())))
noncomputable def qbm (a : List qg) (b : qg→Option Bool) : Option Int:=
  (loop (q3g a b) 0 : Option ((Unit) ⊕ (Int))).bind fun c=>(match c with | .inl _=>some (-1) | .inr d=>some d)
noncomputable def q8c (a : List qg) (b : qg→Option Bool) : Option Bool:=
  (qbm a b).bind fun c=>some (decide (c ≥ 0))
noncomputable def q6f (a : qv) : Option Bool:=
  (cond (decide ((min (min a.X a.Y) a.Z) ≥ (-1000000))) (some (decide ((max (max a.X a.Y) a.Z)≤1000000))) (some false)).bind fun b=>some b
noncomputable def q6g (a : qg) : Option Bool:=
  (cond (decide (a.Lo.X < a.Hi.X)) (some (decide (a.Lo.Y < a.Hi.Y))) (some false)).bind fun b=>(cond b (some (decide (a.Lo.Z < a.Hi.Z))) (some false)).bind fun c=>(cond c ((q6f a.Lo).bind fun d=>some d) (some false)).bind fun f=>(cond f ((q6f a.Hi).bind fun g=>some g) (some false)).bind fun h=>some h
noncomputable def q28 (a : qg) : Option Bool:=
  (q6g a).bind fun b=>some (!b)
def qbs : ByteArray:=⟨#[0,1,2,2,3,3,3,3,4,4,4,4,4,4,4,4,5,5,5,5,5,5,5,5,5,5,5,5,5,5,5,5,6,6,6,6,6,6,6,6,6,6,6,6,6,6,6,6,6,6,6,6,6,6,6,6,6,6,6,6,6,6,6,6,7,7,7,7,7,7,7,7,7,7,7,7,7,7,7,7,7,7,7,7,7,7,7,7,7,7,7,7,7,7,7,7,7,7,7,7,7,7,7,7,7,7,7,7,7,7,7,7,7,7,7,7,7,7,7,7,7,7,7,7,7,7,7,7,8,8,8,8,8,8,8,8,8,8,8,8,8,8,8,8,8,8,8,8,8,8,8,8,8,8,8,8,8,8,8,8,8,8,8,8,8,8,8,8,8,8,8,8,8,8,8,8,8,8,8,8,8,8,8,8,8,8,8,8,8,8,8,8,8,8,8,8,8,8,8,8,8,8,8,8,8,8,8,8,8,8,8,8,8,8,8,8,8,8,8,8,8,8,8,8,8,8,8,8,8,8,8,8,8,8,8,8,8,8,8,8,8,8,8,8,8,8,8,8,8,8,8,8,8,8,8,8]⟩
noncomputable def q1r (c : Int) : Option Int:=
  (cond (decide (c ≥ 4294967296)) (some (Int.fdiv c (2 ^ 32),32)) (some (c,0))).bind fun a=>(cond (decide (a.1 ≥ 65536)) (some (Int.fdiv a.1 (2 ^ 16),w64 (a.2 + 16))) (some (a.1,a.2))).bind fun b=>(cond (decide (b.1 ≥ 256)) (some (Int.fdiv b.1 (2 ^ 8),w64 (b.2 + 8))) (some (b.1,b.2))).bind fun d=>(q3w qbs (IntKind.wrap .u8 d.1)).bind fun f=>some (w64 (d.2 + (w64 f)))
noncomputable def U5 (a : Int) : Option Int:=
  (q1r a).bind fun b=>some b
noncomputable def q6z (a : Int) : Option Bool:=
  some (a != a)
noncomputable def Yo (a : Int) (b : Int) : Option Bool:=
  (q6z a).bind fun c=>(cond c ((q6z b).bind fun d=>some (!d)) (some false)).bind fun f=>(cond f (some true) (some (decide (a < b)))).bind fun g=>some g
noncomputable def q5p (c : Int) (a : Int × List Int) : Option ((Int × List Int) ⊕ (List Int)):=
  (cond (decide (a.1 > c)) ((idx a.2 a.1).bind fun d=>(idx a.2 (w64 (a.1 - 1))).bind fun f=>(Yo d f).bind fun g=>some g) (some false)).bind fun h=>cond h ((idx a.2 (w64 (a.1 - 1))).bind fun b=>(idx a.2 a.1).bind fun j=>(idx a.2 a.1).bind fun _=>(idx (a.2.set a.1.toNat b) (w64 (a.1 - 1))).bind fun _=>some (.inl (w64 (a.1 - 1),(a.2.set a.1.toNat b).set (w64 (a.1 - 1)).toNat j))) (some (.inr a.2))
noncomputable def q5o (b : Int) (c : Int) (a : Int × List Int) : Option ((Int × List Int) ⊕ (List Int)):=
  cond (decide (a.1 < b)) (((loop (q5p c) (a.1,a.2)).bind fun d=>some d).bind fun f=>some (.inl (w64 (a.1 + 1),f))) (some (.inr a.2))
noncomputable def q5n (b : List Int) (a : Int) (c : Int) : Option (List Int):=
  (loop (q5o c a) (w64 (a + 1),b)).bind fun d=>some d
noncomputable def q6b (d : Int) (b : Int) (a : Int × List Int) : Option ((Int × List Int) ⊕ (List Int)):=
  cond (decide ((w64 ((w64 (2 * a.1)) + 1)) ≥ d)) (some (.inr a.2)) ((cond (decide ((w64 ((w64 ((w64 (2 * a.1)) + 1)) + 1)) < d)) ((idx a.2 (w64 (b + (w64 ((w64 (2 * a.1)) + 1))))).bind fun g=>(idx a.2 (w64 ((w64 (b + (w64 ((w64 (2 * a.1)) + 1)))) + 1))).bind fun h=>(Yo g h).bind fun j=>some j) (some false)).bind fun k=>(cond k (some (w64 ((w64 ((w64 (2 * a.1)) + 1)) + 1))) (some (w64 ((w64 (2 * a.1)) + 1)))).bind fun c=>(idx a.2 (w64 (b + a.1))).bind fun l=>(idx a.2 (w64 (b + c))).bind fun m=>(Yo l m).bind fun n=>cond (!n) (some (.inr a.2)) ((idx a.2 (w64 (b + c))).bind fun f=>(idx a.2 (w64 (b + a.1))).bind fun o=>(idx a.2 (w64 (b + a.1))).bind fun _=>(idx (a.2.set (w64 (b + a.1)).toNat f) (w64 (b + c))).bind fun _=>some (.inl (c,(a.2.set (w64 (b + a.1)).toNat f).set (w64 (b + c)).toNat o))))
noncomputable def q3o (a : List Int) (b : Int) (c : Int) (d : Int) : Option (List Int):=
  (loop (q6b c d) (b,a)).bind fun f=>some f
noncomputable def q5l (d : Int) (b : Int) (a : Int × List Int) : Option ((Int × List Int) ⊕ (List Int)):=
  cond (decide (a.1 ≥ 0)) ((q3o a.2 a.1 (w64 (d - b)) b).bind fun c=>(Qu c.length a.2.length).bind fun _=>some (.inl (w64 (a.1 - 1),c))) (some (.inr a.2))
noncomputable def q5m (b : Int) (a : Int × List Int) : Option ((Int × List Int) ⊕ (List Int)):=
  cond (decide (a.1 ≥ 0)) ((idx a.2 (w64 (b + a.1))).bind fun c=>(idx a.2 b).bind fun d=>(idx a.2 b).bind fun _=>(idx (a.2.set b.toNat c) (w64 (b + a.1))).bind fun _=>(q3o ((a.2.set b.toNat c).set (w64 (b + a.1)).toNat d) 0 a.1 b).bind fun f=>(Qu f.length ((a.2.set b.toNat c).set (w64 (b + a.1)).toNat d).length).bind fun _=>some (.inl (w64 (a.1 - 1),f))) (some (.inr a.2))
noncomputable def q5k (c : List Int) (a : Int) (b : Int) : Option (List Int):=
  (loop (q5l b a) (w64 (Int.tdiv (w64 ((w64 (b - a)) - 1)) 2),c)).bind fun d=>(loop (q5m a) (w64 ((w64 (b - a)) - 1),d)).bind fun f=>some f
noncomputable def q27 (c : List Int) (a : Int) (b : Int) (d : Int) : Option (Int × Int × Int):=
  (idx c b).bind fun f=>(idx c a).bind fun g=>(Yo f g).bind fun h=>cond h (some (b,a,w64 (d + 1))) (some (a,b,d))
noncomputable def q3i (a : List Int) (f : Int) (g : Int) (h : Int) (j : Int) : Option (Int × Int):=
  (q27 a f g j).bind fun b=>(q27 a b.2.1 h b.2.2).bind fun c=>(q27 a b.1 c.1 c.2.2).bind fun d=>some (d.2.1,d.2.2)
noncomputable def q26 (c : List Int) (a : Int) (d : Int) : Option (Int × Int):=
  (q3i c (w64 (a - 1)) a (w64 (a + 1)) d).bind fun b=>some (b.1,b.2)
noncomputable def q5j (d : List Int) (a : Int) (b : Int) : Option (Int × Int):=
  (cond (decide ((w64 (b - a)) ≥ 8)) ((cond (decide ((w64 (b - a)) ≥ 50)) ((q26 d (w64 (a + (w64 ((w64 (Int.tdiv (w64 (b - a)) 4)) * 1)))) 0).bind fun g=>(q26 d (w64 (a + (w64 ((w64 (Int.tdiv (w64 (b - a)) 4)) * 2)))) g.2).bind fun h=>(q26 d (w64 (a + (w64 ((w64 (Int.tdiv (w64 (b - a)) 4)) * 3)))) h.2).bind fun j=>some (g.1,h.1,j.1,j.2)) (some (w64 (a + (w64 ((w64 (Int.tdiv (w64 (b - a)) 4)) * 1))),w64 (a + (w64 ((w64 (Int.tdiv (w64 (b - a)) 4)) * 2))),w64 (a + (w64 ((w64 (Int.tdiv (w64 (b - a)) 4)) * 3))),0))).bind fun f=>(q3i d f.1 f.2.1 f.2.2.1 f.2.2.2).bind fun k=>some (k.1,k.2)) (some (w64 (a + (w64 ((w64 (Int.tdiv (w64 (b - a)) 4)) * 2))),0))).bind fun c=>cond (c.2 == 0) (some (c.1,1)) (cond (c.2 == 12) (some (c.1,2)) (some (c.1,0)))
noncomputable def q96 (a : Int × Int × List Int) : Option ((Int × Int × List Int) ⊕ (List Int)):=
  cond (decide (a.1 < a.2.1)) ((idx a.2.2 a.2.1).bind fun b=>(idx a.2.2 a.1).bind fun c=>(idx a.2.2 a.1).bind fun _=>(idx (a.2.2.set a.1.toNat b) a.2.1).bind fun _=>some (.inl (w64 (a.1 + 1),w64 (a.2.1 - 1),(a.2.2.set a.1.toNat b).set a.2.1.toNat c))) (some (.inr a.2.2))
noncomputable def q69 (a : List Int) (b : Int) (c : Int) : Option (List Int):=
  (loop q96 (b,w64 (c - 1),a)).bind fun d=>some d
noncomputable def q5t (c : Int) (b : Int × Int × List Int) (a : Int) : Option ((Int) ⊕ (Int)):=
  (cond (decide (a < c)) ((idx b.2.2 a).bind fun d=>(idx b.2.2 (w64 (a - 1))).bind fun f=>(Yo d f).bind fun g=>some (!g)) (some false)).bind fun h=>cond h (some (.inl (w64 (a + 1)))) (some (.inr a))
noncomputable def q8t (a : Int × List Int) : Option ((Int × List Int) ⊕ (List Int)):=
  cond (decide (a.1 ≥ 1)) ((idx a.2 a.1).bind fun c=>(idx a.2 (w64 (a.1 - 1))).bind fun d=>(Yo c d).bind fun f=>cond (!f) (some (.inr a.2)) ((idx a.2 (w64 (a.1 - 1))).bind fun b=>(idx a.2 a.1).bind fun g=>(idx a.2 a.1).bind fun _=>(idx (a.2.set a.1.toNat b) (w64 (a.1 - 1))).bind fun _=>some (.inl (w64 (a.1 - 1),(a.2.set a.1.toNat b).set (w64 (a.1 - 1)).toNat g)))) (some (.inr a.2))
noncomputable def q5u (d : Int) (b : Int) (a : Int × List Int) : Option ((Int × List Int) ⊕ (Int × List Int)):=
  cond (decide (a.1 < d)) ((idx a.2 a.1).bind fun f=>(idx a.2 (w64 (a.1 - 1))).bind fun g=>(Yo f g).bind fun h=>cond (!h) (some (.inr (b,a.2))) ((idx a.2 (w64 (a.1 - 1))).bind fun c=>(idx a.2 a.1).bind fun j=>(idx a.2 a.1).bind fun _=>(idx (a.2.set a.1.toNat c) (w64 (a.1 - 1))).bind fun _=>some (.inl (w64 (a.1 + 1),(a.2.set a.1.toNat c).set (w64 (a.1 - 1)).toNat j)))) (some (.inr (b,a.2)))
noncomputable def q3l (c : Int) (g : Int) (b : Int × Int × List Int) : Option ((Int × Int × List Int) ⊕ ((List Int) ⊕ (Bool × List Int))):=
  cond (decide (b.2.1 < 5)) (((loop (q5t c b) b.1).bind fun a=>cond (a == c) (some (.inr (true,b.2.2))) (cond (decide ((w64 (c - g)) < 50)) (some (.inr (false,b.2.2))) ((idx b.2.2 (w64 (a - 1))).bind fun d=>(idx b.2.2 a).bind fun h=>(idx b.2.2 a).bind fun _=>(idx (b.2.2.set a.toNat d) (w64 (a - 1))).bind fun _=>(cond (decide ((w64 (a - g)) ≥ 2)) ((loop q8t (w64 (a - 1),(b.2.2.set a.toNat d).set (w64 (a - 1)).toNat h)).bind fun f=>some f) (some ((b.2.2.set a.toNat d).set (w64 (a - 1)).toNat h))).bind fun j=>cond (decide ((w64 (c - a)) ≥ 2)) ((loop (q5u c a) (w64 (a + 1),j)).bind fun f=>some (.inl f)) (some (.inl (a,j))))) : Option ((Int × List Int) ⊕ (Bool × List Int))).bind fun l=>(match l with | .inl k=>some (.inl (k.1,w64 (b.2.1 + 1),k.2)) | .inr m=>some (.inr (.inr m)))) (some (.inr (.inl b.2.2)))
noncomputable def q3k (b : List Int) (a : Int) (c : Int) : Option (Bool × List Int):=
  (loop (q3l c a) (w64 (a + 1),0,b) : Option ((List Int) ⊕ (Bool × List Int))).bind fun d=>(match d with | .inl f=>some (false,f) | .inr g=>some g)
noncomputable def q5x (b : Int × Int × List Int) (c : Int) (a : Int) : Option ((Int) ⊕ (Int)):=
  (cond (decide (a≤b.2.1)) ((idx b.2.2 c).bind fun d=>(idx b.2.2 a).bind fun f=>(Yo d f).bind fun g=>some (!g)) (some false)).bind fun h=>cond h (some (.inl (w64 (a + 1)))) (some (.inr a))
noncomputable def q5y (c : Int) (b : Int × Int × List Int) (d : Int) (a : Int) : Option ((Int) ⊕ (Int)):=
  (cond (decide (c≤a)) ((idx b.2.2 d).bind fun f=>(idx b.2.2 a).bind fun g=>(Yo f g).bind fun h=>some h) (some false)).bind fun j=>cond j (some (.inl (w64 (a - 1)))) (some (.inr a))
noncomputable def q5w (d : Int) (a : Int × Int × List Int) : Option ((Int × Int × List Int) ⊕ (Int × List Int)):=
  (loop (q5x a d) a.1).bind fun b=>(loop (q5y b a d) a.2.1).bind fun c=>cond (decide (b > c)) (some (.inr (b,a.2.2))) ((idx a.2.2 c).bind fun f=>(idx a.2.2 b).bind fun g=>(idx a.2.2 b).bind fun _=>(idx (a.2.2.set b.toNat f) c).bind fun _=>some (.inl (w64 (b + 1),w64 (c - 1),(a.2.2.set b.toNat f).set c.toNat g)))
noncomputable def q5v (b : List Int) (a : Int) (g : Int) (c : Int) : Option (Int × List Int):=
  (idx b c).bind fun d=>(idx b a).bind fun h=>(idx b a).bind fun _=>(idx (b.set a.toNat d) c).bind fun _=>(loop (q5w a) (w64 (a + 1),w64 (g - 1),(b.set a.toNat d).set c.toNat h)).bind fun f=>some (f.1,f.2)
noncomputable def q60 (h : Int) (c : List Int) (b : Int) (d : Int) (f : Int) (g : Int) (a : Int) : Option ((Int) ⊕ (Int)):=
  (cond (decide (a≤(w64 (h - 1)))) ((idx ((c.set b.toNat d).set f.toNat g) a).bind fun j=>(idx ((c.set b.toNat d).set f.toNat g) b).bind fun k=>(Yo j k).bind fun l=>some l) (some false)).bind fun m=>cond m (some (.inl (w64 (a + 1)))) (some (.inr a))
noncomputable def q61 (h : Int) (c : List Int) (b : Int) (d : Int) (f : Int) (g : Int) (a : Int) : Option ((Int) ⊕ (Int)):=
  (cond (decide (h≤a)) ((idx ((c.set b.toNat d).set f.toNat g) a).bind fun j=>(idx ((c.set b.toNat d).set f.toNat g) b).bind fun k=>(Yo j k).bind fun l=>some (!l)) (some false)).bind fun m=>cond m (some (.inl (w64 (a - 1)))) (some (.inr a))
noncomputable def q63 (b : Int × Int × List Int) (c : Int) (a : Int) : Option ((Int) ⊕ (Int)):=
  (cond (decide (a≤b.2.1)) ((idx b.2.2 a).bind fun d=>(idx b.2.2 c).bind fun f=>(Yo d f).bind fun g=>some g) (some false)).bind fun h=>cond h (some (.inl (w64 (a + 1)))) (some (.inr a))
noncomputable def q64 (c : Int) (b : Int × Int × List Int) (d : Int) (a : Int) : Option ((Int) ⊕ (Int)):=
  (cond (decide (c≤a)) ((idx b.2.2 a).bind fun f=>(idx b.2.2 d).bind fun g=>(Yo f g).bind fun h=>some (!h)) (some false)).bind fun j=>cond j (some (.inl (w64 (a - 1)))) (some (.inr a))
noncomputable def q62 (d : Int) (a : Int × Int × List Int) : Option ((Int × Int × List Int) ⊕ (Int × List Int)):=
  (loop (q63 a d) a.1).bind fun b=>(loop (q64 b a d) a.2.1).bind fun c=>cond (decide (b > c)) (some (.inr (c,a.2.2))) ((idx a.2.2 c).bind fun f=>(idx a.2.2 b).bind fun g=>(idx a.2.2 b).bind fun _=>(idx (a.2.2.set b.toNat f) c).bind fun _=>some (.inl (w64 (b + 1),w64 (c - 1),(a.2.2.set b.toNat f).set c.toNat g)))
noncomputable def q5z (b : List Int) (a : Int) (k : Int) (c : Int) : Option (Int × Bool × List Int):=
  (idx b c).bind fun d=>(idx b a).bind fun f=>(idx b a).bind fun _=>(idx (b.set a.toNat d) c).bind fun _=>(loop (q60 k b a d c f) (w64 (a + 1))).bind fun j=>(loop (q61 j b a d c f) (w64 (k - 1))).bind fun g=>cond (decide (j > g)) ((idx ((b.set a.toNat d).set c.toNat f) a).bind fun l=>(idx ((b.set a.toNat d).set c.toNat f) g).bind fun o=>(idx ((b.set a.toNat d).set c.toNat f) g).bind fun _=>(idx (((b.set a.toNat d).set c.toNat f).set g.toNat l) a).bind fun _=>some (g,true,(((b.set a.toNat d).set c.toNat f).set g.toNat l).set a.toNat o)) ((idx ((b.set a.toNat d).set c.toNat f) g).bind fun m=>(idx ((b.set a.toNat d).set c.toNat f) j).bind fun p=>(idx ((b.set a.toNat d).set c.toNat f) j).bind fun _=>(idx (((b.set a.toNat d).set c.toNat f).set j.toNat m) g).bind fun _=>(loop (q62 a) (w64 (j + 1),w64 (g - 1),(((b.set a.toNat d).set c.toNat f).set j.toNat m).set g.toNat p)).bind fun h=>(idx h.2 a).bind fun n=>(idx h.2 h.1).bind fun q=>(idx h.2 h.1).bind fun _=>(idx (h.2.set h.1.toNat n) a).bind fun _=>some (h.1,false,(h.2.set h.1.toNat n).set a.toNat q))
noncomputable def q13 (a : Int) : Option Int:=
  (U5 (IntKind.wrap .u64 a)).bind fun b=>(shlK .u64 1 b).bind fun c=>some c
noncomputable def q14 (a : Int) : Option Int:=
  some (xorI .u64 (xorI .u64 (xorI .u64 a (IntKind.wrap .u64 (a * (2 ^ 13)))) (Int.fdiv (xorI .u64 a (IntKind.wrap .u64 (a * (2 ^ 13)))) (2 ^ 7))) (IntKind.wrap .u64 ((xorI .u64 (xorI .u64 a (IntKind.wrap .u64 (a * (2 ^ 13)))) (Int.fdiv (xorI .u64 a (IntKind.wrap .u64 (a * (2 ^ 13)))) (2 ^ 7))) * (2 ^ 17))))
noncomputable def q5i (b : Int) (d : Int) (f : Int) (a : Int × List Int × Int) : Option ((Int × List Int × Int) ⊕ (List Int)):=
  cond (decide (a.1≤(w64 ((w64 (b + (w64 ((w64 (Int.tdiv (w64 (d - b)) 4)) * 2)))) + 1)))) ((q14 a.2.2).bind fun c=>(cond (decide ((w64 (andI .u64 c (IntKind.wrap .u64 (f - 1)))) ≥ (w64 (d - b)))) (some (w64 ((w64 (andI .u64 c (IntKind.wrap .u64 (f - 1)))) - (w64 (d - b))))) (some (w64 (andI .u64 c (IntKind.wrap .u64 (f - 1)))))).bind fun g=>(idx a.2.1 (w64 (b + g))).bind fun h=>(idx a.2.1 a.1).bind fun j=>(idx a.2.1 a.1).bind fun _=>(idx (a.2.1.set a.1.toNat h) (w64 (b + g))).bind fun _=>some (.inl (w64 (a.1 + 1),(a.2.1.set a.1.toNat h).set (w64 (b + g)).toNat j,c))) (some (.inr a.2.1))
noncomputable def q5h (c : List Int) (a : Int) (b : Int) : Option (List Int):=
  cond (decide ((w64 (b - a)) ≥ 8)) ((q13 (w64 (b - a))).bind fun d=>(loop (q5i a b d) (w64 ((w64 (a + (w64 ((w64 (Int.tdiv (w64 (b - a)) 4)) * 2)))) - 1),c,IntKind.wrap .u64 (w64 (b - a)))).bind fun f=>some f) (some c)
noncomputable def q3m (rec : List Int→Int→Int→Int→Option (List Int)) (a : Int × Int × Int × Bool × Bool × List Int) : Option ((Int × Int × Int × Bool × Bool × List Int) ⊕ (List Int)):=
  cond (decide ((w64 (a.2.1 - a.1))≤12)) ((q5n a.2.2.2.2.2 a.1 a.2.1).bind fun k=>(Qu k.length a.2.2.2.2.2.length).bind fun _=>some (.inr k)) (cond (a.2.2.1 == 0) ((q5k a.2.2.2.2.2 a.1 a.2.1).bind fun l=>(Qu l.length a.2.2.2.2.2.length).bind fun _=>some (.inr l)) ((cond (!a.2.2.2.1) ((q5h a.2.2.2.2.2 a.1 a.2.1).bind fun m=>(Qu m.length a.2.2.2.2.2.length).bind fun _=>some (w64 (a.2.2.1 - 1),m)) (some (a.2.2.1,a.2.2.2.2.2))).bind fun c=>(q5j c.2 a.1 a.2.1).bind fun g=>(cond (g.2 == 2) ((q69 c.2 a.1 a.2.1).bind fun n=>(Qu n.length c.2.length).bind fun _=>some (w64 ((w64 (a.2.1 - 1)) - (w64 (g.1 - a.1))),1,n)) (some (g.1,g.2,c.2))).bind fun d=>(cond a.2.2.2.1 (some a.2.2.2.2.1) (some false)).bind fun q=>(cond q (some (d.2.1 == 1)) (some false)).bind fun r=>(cond r ((q3k d.2.2 a.1 a.2.1).bind fun h=>(Qu h.2.length d.2.2.length).bind fun _=>cond h.1 (some (.inr h.2)) (some (.inl h.2))) (some (.inl d.2.2)) : Option ((List Int) ⊕ (List Int))).bind fun s=>(match s with | .inl f=>(cond (decide (a.1 > 0)) ((idx f (w64 (a.1 - 1))).bind fun t=>(idx f d.1).bind fun u=>(Yo t u).bind fun v=>some (!v)) (some false)).bind fun w=>cond w ((q5v f a.1 a.2.1 d.1).bind fun j=>(Qu j.2.length f.length).bind fun _=>some (.inl (j.1,a.2.1,c.1,a.2.2.2.1,a.2.2.2.2.1,j.2))) ((q5z f a.1 a.2.1 d.1).bind fun b=>(Qu b.2.2.length f.length).bind fun _=>cond (decide ((w64 (b.1 - a.1)) < (w64 (a.2.1 - b.1)))) ((rec b.2.2 a.1 b.1 c.1).bind fun o=>(Qu o.length b.2.2.length).bind fun _=>some (.inl (w64 (b.1 + 1),a.2.1,c.1,decide ((w64 (b.1 - a.1)) ≥ (w64 (Int.tdiv (w64 (a.2.1 - a.1)) 8))),b.2.1,o))) ((rec b.2.2 (w64 (b.1 + 1)) a.2.1 c.1).bind fun p=>(Qu p.length b.2.2.length).bind fun _=>some (.inl (a.1,b.1,c.1,decide ((w64 (a.2.1 - b.1)) ≥ (w64 (Int.tdiv (w64 (a.2.1 - a.1)) 8))),b.2.1,p)))) | .inr x=>some (.inr x))))
noncomputable def q3n (rec : List Int→Int→Int→Int→Option (List Int)) (a : List Int) (b : Int) (c : Int) (d : Int) : Option (List Int):=
  (loop (q3m rec) (b,c,d,true,true,a)).bind fun f=>some f
noncomputable def q68 : Nat→List Int→Int→Int→Int→Option (List Int)
  | 0,_,_,_,_=>none
  | n + 1,a,b,c,d=>q3n (q68 n)  a b c d
noncomputable def U9 (a : List Int) : Option (List Int):=
  (U5 (IntKind.wrap .u64 (a.length : Int))).bind fun c=>(lim (fun n=>q68 n a 0 (a.length : Int) c)).bind fun b=>(Qu b.length a.length).bind fun _=>some b
noncomputable def q12 (a : Int × (Nat × Nat) × Int × List Int) : Option ((Int × (Nat × Nat) × Int × List Int) ⊕ (Int × List Int)):=
  cond (decide (a.2.2.1 < (a.2.1.2 : Int))) (((idxW a.2.2.2 a.2.1 a.2.2.1).bind fun c=>(idxW a.2.2.2 a.2.1 (w64 (a.2.2.1 - 1))).bind fun d=>cond (c != d) ((idxW a.2.2.2 a.2.1 a.2.2.1).bind fun f=>(idx a.2.2.2 a.1).bind fun _=>some (w64 (a.1 + 1),a.2.1,a.2.2.2.set a.1.toNat f)) (some (a.1,a.2.1,a.2.2.2))).bind fun b=>some (.inl (b.1,b.2.1,w64 (a.2.2.1 + 1),b.2.2))) (some (.inr (a.1,a.2.2.2)))
noncomputable def Zv (a : List Int) (b : Int) : Option ((Int) ⊕ ((Unit) ⊕ ((Nat × Nat) × List Int))):=
  cond (decide (b < (a.length : Int))) ((idx a b).bind fun d=>(idx a (w64 (b - 1))).bind fun f=>cond (d == f) ((sub2 a.length b a.length).bind fun g=>(loop q12 (b,g,1,a)).bind fun c=>(sub2 c.2.length c.1 c.2.length).bind fun h=>(sub2 c.2.length 0 c.1).bind fun j=>some (.inr (.inr (j,clrw c.2 h 0)))) (some (.inl (w64 (b + 1))))) (some (.inr (.inl ())))
noncomputable def q24 (a : List Int) : Option ((Nat × Nat) × List Int):=
  cond (decide ((a.length : Int) < 2)) (some ((0,a.length),a)) ((loop (Zv a) 1 : Option ((Unit) ⊕ ((Nat × Nat) × List Int))).bind fun b=>(match b with | .inl _=>some ((0,a.length),a) | .inr c=>some c))
structure qk where
  X0 : Int
  Y0 : Int
  X1 : Int
  Y1 : Int
  deriving DecidableEq
def qx (x : qk) : List DV:=[.int .i64 x.X0,.int .i64 x.Y0,.int .i64 x.X1,.int .i64 x.Y1]
noncomputable def q3f (b : List qk) (c : qk→Option Bool) (a : Int) : Option ((Int) ⊕ ((Unit) ⊕ (Int))):=
  cond (decide (a < (b.length : Int))) ((idx b a).bind fun d=>(c d).bind fun f=>cond f (some (.inr (.inr a))) (some (.inl (w64 (a + 1))))) (some (.inr (.inl ())))
noncomputable def qbl (a : List qk) (b : qk→Option Bool) : Option Int:=
  (loop (q3f a b) 0 : Option ((Unit) ⊕ (Int))).bind fun c=>(match c with | .inl _=>some (-1) | .inr d=>some d)
noncomputable def q8b (a : List qk) (b : qk→Option Bool) : Option Bool:=
  (qbl a b).bind fun c=>some (decide (c ≥ 0))
noncomputable def q1x (a : Int) : Option Bool:=
  (cond (decide (a ≥ (-1000000))) (some (decide (a≤1000000))) (some false)).bind fun b=>some b
noncomputable def q85 (a : qk) : Option Bool:=
  (cond (decide (a.X0 < a.X1)) (some (decide (a.Y0 < a.Y1))) (some false)).bind fun b=>(cond b ((q1x a.X0).bind fun c=>some c) (some false)).bind fun d=>(cond d ((q1x a.X1).bind fun f=>some f) (some false)).bind fun g=>(cond g ((q1x a.Y0).bind fun h=>some h) (some false)).bind fun j=>(cond j ((q1x a.Y1).bind fun k=>some k) (some false)).bind fun l=>some l
noncomputable def q1w (a : qk) : Option Bool:=
  (q85 a).bind fun b=>some (!b)
def Zf (x : List qk) : List DV:=[.sl 4 (x.map qx)]
structure qm where
  Lo : Int
  Hi : Int
  deriving DecidableEq
def Qh (x : qm) : List DV:=[.int .i64 x.Lo,.int .i64 x.Hi]
noncomputable def q25 (b : List qm) (c : qm→Option Bool) (a : Int) : Option ((Int) ⊕ ((Unit) ⊕ (Int))):=
  cond (decide (a < (b.length : Int))) ((idx b a).bind fun d=>(c d).bind fun f=>cond f (some (.inr (.inr a))) (some (.inl (w64 (a + 1))))) (some (.inr (.inl ())))
noncomputable def q8g (a : List qm) (b : qm→Option Bool) : Option Int:=
  (loop (q25 a b) 0 : Option ((Unit) ⊕ (Int))).bind fun c=>(match c with | .inl _=>some (-1) | .inr d=>some d)
noncomputable def q8d (a : List qm) (b : qm→Option Bool) : Option Bool:=
  (q8g a b).bind fun c=>some (decide (c ≥ 0))
noncomputable def q2a (a : qm) : Option Bool:=
  (cond (decide (a.Lo < a.Hi)) (some (decide (a.Lo ≥ (-1000000)))) (some false)).bind fun b=>(cond b (some (decide (a.Hi≤1000000))) (some false)).bind fun c=>some c
noncomputable def qbq (a : qm) : Option Bool:=
  (q2a a).bind fun b=>some (!b)
def Js (x : List qm) : List DV:=[.sl 2 (x.map Qh)]
structure qj where
  at_ : Int
  list_ : Int
  by_ : Int
  deriving DecidableEq
def Q5 (x : qj) : List DV:=[.int .i64 x.at_,.int .i64 x.list_,.int .i64 x.by_]
noncomputable def q9c (a : qj) (b : qj) : Option Int:=
  some (w64 (a.at_ - b.at_))
noncomputable def q8p (c : Int) (d : qj→qj→Option Int) (a : Int × List qj) : Option ((Int × List qj) ⊕ (List qj)):=
  (cond (decide (a.1 > c)) ((idx a.2 a.1).bind fun f=>(idx a.2 (w64 (a.1 - 1))).bind fun g=>(d f g).bind fun h=>some (decide (h < 0))) (some false)).bind fun j=>cond j ((idx a.2 (w64 (a.1 - 1))).bind fun b=>(idx a.2 a.1).bind fun k=>(idx a.2 a.1).bind fun _=>(idx (a.2.set a.1.toNat b) (w64 (a.1 - 1))).bind fun _=>some (.inl (w64 (a.1 - 1),(a.2.set a.1.toNat b).set (w64 (a.1 - 1)).toNat k))) (some (.inr a.2))
noncomputable def q8o (b : Int) (c : Int) (d : qj→qj→Option Int) (a : Int × List qj) : Option ((Int × List qj) ⊕ (List qj)):=
  cond (decide (a.1 < b)) (((loop (q8p c d) (a.1,a.2)).bind fun f=>some f).bind fun g=>some (.inl (w64 (a.1 + 1),g))) (some (.inr a.2))
noncomputable def q8n (b : qj→qj→Option Int) (c : List qj) (a : Int) (d : Int) : Option (List qj):=
  (loop (q8o d a b) (w64 (a + 1),c)).bind fun f=>some f
noncomputable def q97 (d : Int) (b : Int) (f : qj→qj→Option Int) (a : Int × List qj) : Option ((Int × List qj) ⊕ (List qj)):=
  cond (decide ((w64 ((w64 (2 * a.1)) + 1)) ≥ d)) (some (.inr a.2)) ((cond (decide ((w64 ((w64 ((w64 (2 * a.1)) + 1)) + 1)) < d)) ((idx a.2 (w64 (b + (w64 ((w64 (2 * a.1)) + 1))))).bind fun h=>(idx a.2 (w64 ((w64 (b + (w64 ((w64 (2 * a.1)) + 1)))) + 1))).bind fun j=>(f h j).bind fun k=>some (decide (k < 0))) (some false)).bind fun l=>(cond l (some (w64 ((w64 ((w64 (2 * a.1)) + 1)) + 1))) (some (w64 ((w64 (2 * a.1)) + 1)))).bind fun c=>(idx a.2 (w64 (b + a.1))).bind fun m=>(idx a.2 (w64 (b + c))).bind fun n=>(f m n).bind fun o=>cond (!(decide (o < 0))) (some (.inr a.2)) ((idx a.2 (w64 (b + c))).bind fun g=>(idx a.2 (w64 (b + a.1))).bind fun p=>(idx a.2 (w64 (b + a.1))).bind fun _=>(idx (a.2.set (w64 (b + a.1)).toNat g) (w64 (b + c))).bind fun _=>some (.inl (c,(a.2.set (w64 (b + a.1)).toNat g).set (w64 (b + c)).toNat p))))
noncomputable def q6a (a : qj→qj→Option Int) (b : List qj) (c : Int) (d : Int) (f : Int) : Option (List qj):=
  (loop (q97 d f a) (c,b)).bind fun g=>some g
noncomputable def q8l (d : qj→qj→Option Int) (f : Int) (b : Int) (a : Int × List qj) : Option ((Int × List qj) ⊕ (List qj)):=
  cond (decide (a.1 ≥ 0)) ((q6a d a.2 a.1 (w64 (f - b)) b).bind fun c=>(Qu c.length a.2.length).bind fun _=>some (.inl (w64 (a.1 - 1),c))) (some (.inr a.2))
noncomputable def q8m (b : Int) (g : qj→qj→Option Int) (a : Int × List qj) : Option ((Int × List qj) ⊕ (List qj)):=
  cond (decide (a.1 ≥ 0)) ((idx a.2 (w64 (b + a.1))).bind fun c=>(idx a.2 b).bind fun d=>(idx a.2 b).bind fun _=>(idx (a.2.set b.toNat c) (w64 (b + a.1))).bind fun _=>(q6a g ((a.2.set b.toNat c).set (w64 (b + a.1)).toNat d) 0 a.1 b).bind fun f=>(Qu f.length ((a.2.set b.toNat c).set (w64 (b + a.1)).toNat d).length).bind fun _=>some (.inl (w64 (a.1 - 1),f))) (some (.inr a.2))
noncomputable def q8k (c : qj→qj→Option Int) (d : List qj) (a : Int) (b : Int) : Option (List qj):=
  (loop (q8l c b a) (w64 (Int.tdiv (w64 ((w64 (b - a)) - 1)) 2),d)).bind fun f=>(loop (q8m a c) (w64 ((w64 (b - a)) - 1),f)).bind fun g=>some g
noncomputable def q3j (f : qj→qj→Option Int) (c : List qj) (a : Int) (b : Int) (d : Int) : Option (Int × Int × Int):=
  (idx c b).bind fun g=>(idx c a).bind fun h=>(f g h).bind fun j=>cond (decide (j < 0)) (some (b,a,w64 (d + 1))) (some (a,b,d))
noncomputable def q5q (a : qj→qj→Option Int) (b : List qj) (g : Int) (h : Int) (j : Int) (k : Int) : Option (Int × Int):=
  (q3j a b g h k).bind fun c=>(q3j a b c.2.1 j c.2.2).bind fun d=>(q3j a b c.1 d.1 d.2.2).bind fun f=>some (f.2.1,f.2.2)
noncomputable def q3h (c : qj→qj→Option Int) (d : List qj) (a : Int) (f : Int) : Option (Int × Int):=
  (q5q c d (w64 (a - 1)) a (w64 (a + 1)) f).bind fun b=>some (b.1,b.2)
noncomputable def q8j (d : List qj) (a : Int) (b : Int) (f : qj→qj→Option Int) : Option (Int × Int):=
  (cond (decide ((w64 (b - a)) ≥ 8)) ((cond (decide ((w64 (b - a)) ≥ 50)) ((q3h f d (w64 (a + (w64 ((w64 (Int.tdiv (w64 (b - a)) 4)) * 1)))) 0).bind fun h=>(q3h f d (w64 (a + (w64 ((w64 (Int.tdiv (w64 (b - a)) 4)) * 2)))) h.2).bind fun j=>(q3h f d (w64 (a + (w64 ((w64 (Int.tdiv (w64 (b - a)) 4)) * 3)))) j.2).bind fun k=>some (h.1,j.1,k.1,k.2)) (some (w64 (a + (w64 ((w64 (Int.tdiv (w64 (b - a)) 4)) * 1))),w64 (a + (w64 ((w64 (Int.tdiv (w64 (b - a)) 4)) * 2))),w64 (a + (w64 ((w64 (Int.tdiv (w64 (b - a)) 4)) * 3))),0))).bind fun g=>(q5q f d g.1 g.2.1 g.2.2.1 g.2.2.2).bind fun l=>some (l.1,l.2)) (some (w64 (a + (w64 ((w64 (Int.tdiv (w64 (b - a)) 4)) * 2))),0))).bind fun c=>cond (c.2 == 0) (some (c.1,1)) (cond (c.2 == 12) (some (c.1,2)) (some (c.1,0)))
noncomputable def q95 (a : Int × Int × List qj) : Option ((Int × Int × List qj) ⊕ (List qj)):=
  cond (decide (a.1 < a.2.1)) ((idx a.2.2 a.2.1).bind fun b=>(idx a.2.2 a.1).bind fun c=>(idx a.2.2 a.1).bind fun _=>(idx (a.2.2.set a.1.toNat b) a.2.1).bind fun _=>some (.inl (w64 (a.1 + 1),w64 (a.2.1 - 1),(a.2.2.set a.1.toNat b).set a.2.1.toNat c))) (some (.inr a.2.2))
noncomputable def q94 (f : qj→qj→Option Int) (a : List qj) (b : Int) (c : Int) : Option (List qj):=
  (loop q95 (b,w64 (c - 1),a)).bind fun d=>some d
noncomputable def q8q (c : Int) (b : Int × Int × List qj) (d : qj→qj→Option Int) (a : Int) : Option ((Int) ⊕ (Int)):=
  (cond (decide (a < c)) ((idx b.2.2 a).bind fun f=>(idx b.2.2 (w64 (a - 1))).bind fun g=>(d f g).bind fun h=>some (!(decide (h < 0)))) (some false)).bind fun j=>cond j (some (.inl (w64 (a + 1)))) (some (.inr a))
noncomputable def q8r (c : qj→qj→Option Int) (a : Int × List qj) : Option ((Int × List qj) ⊕ (List qj)):=
  cond (decide (a.1 ≥ 1)) ((idx a.2 a.1).bind fun d=>(idx a.2 (w64 (a.1 - 1))).bind fun f=>(c d f).bind fun g=>cond (!(decide (g < 0))) (some (.inr a.2)) ((idx a.2 (w64 (a.1 - 1))).bind fun b=>(idx a.2 a.1).bind fun h=>(idx a.2 a.1).bind fun _=>(idx (a.2.set a.1.toNat b) (w64 (a.1 - 1))).bind fun _=>some (.inl (w64 (a.1 - 1),(a.2.set a.1.toNat b).set (w64 (a.1 - 1)).toNat h)))) (some (.inr a.2))
noncomputable def q8s (d : Int) (f : qj→qj→Option Int) (b : Int) (a : Int × List qj) : Option ((Int × List qj) ⊕ (Int × List qj)):=
  cond (decide (a.1 < d)) ((idx a.2 a.1).bind fun g=>(idx a.2 (w64 (a.1 - 1))).bind fun h=>(f g h).bind fun j=>cond (!(decide (j < 0))) (some (.inr (b,a.2))) ((idx a.2 (w64 (a.1 - 1))).bind fun c=>(idx a.2 a.1).bind fun k=>(idx a.2 a.1).bind fun _=>(idx (a.2.set a.1.toNat c) (w64 (a.1 - 1))).bind fun _=>some (.inl (w64 (a.1 + 1),(a.2.set a.1.toNat c).set (w64 (a.1 - 1)).toNat k)))) (some (.inr (b,a.2)))
noncomputable def q5s (c : Int) (d : qj→qj→Option Int) (h : Int) (b : Int × Int × List qj) : Option ((Int × Int × List qj) ⊕ ((List qj) ⊕ (Bool × List qj))):=
  cond (decide (b.2.1 < 5)) (((loop (q8q c b d) b.1).bind fun a=>cond (a == c) (some (.inr (true,b.2.2))) (cond (decide ((w64 (c - h)) < 50)) (some (.inr (false,b.2.2))) ((idx b.2.2 (w64 (a - 1))).bind fun f=>(idx b.2.2 a).bind fun j=>(idx b.2.2 a).bind fun _=>(idx (b.2.2.set a.toNat f) (w64 (a - 1))).bind fun _=>(cond (decide ((w64 (a - h)) ≥ 2)) ((loop (q8r d) (w64 (a - 1),(b.2.2.set a.toNat f).set (w64 (a - 1)).toNat j)).bind fun g=>some g) (some ((b.2.2.set a.toNat f).set (w64 (a - 1)).toNat j))).bind fun k=>cond (decide ((w64 (c - a)) ≥ 2)) ((loop (q8s c d a) (w64 (a + 1),k)).bind fun g=>some (.inl g)) (some (.inl (a,k))))) : Option ((Int × List qj) ⊕ (Bool × List qj))).bind fun m=>(match m with | .inl l=>some (.inl (l.1,w64 (b.2.1 + 1),l.2)) | .inr n=>some (.inr (.inr n)))) (some (.inr (.inl b.2.2)))
noncomputable def q5r (b : qj→qj→Option Int) (c : List qj) (a : Int) (d : Int) : Option (Bool × List qj):=
  (loop (q5s d b a) (w64 (a + 1),0,c) : Option ((List qj) ⊕ (Bool × List qj))).bind fun f=>(match f with | .inl g=>some (false,g) | .inr h=>some h)
noncomputable def q92 (b : Int × Int × List qj) (c : Int) (d : qj→qj→Option Int) (a : Int) : Option ((Int) ⊕ (Int)):=
  (cond (decide (a≤b.2.1)) ((idx b.2.2 c).bind fun f=>(idx b.2.2 a).bind fun g=>(d f g).bind fun h=>some (!(decide (h < 0)))) (some false)).bind fun j=>cond j (some (.inl (w64 (a + 1)))) (some (.inr a))
noncomputable def q93 (c : Int) (b : Int × Int × List qj) (d : Int) (f : qj→qj→Option Int) (a : Int) : Option ((Int) ⊕ (Int)):=
  (cond (decide (c≤a)) ((idx b.2.2 d).bind fun g=>(idx b.2.2 a).bind fun h=>(f g h).bind fun j=>some (decide (j < 0))) (some false)).bind fun k=>cond k (some (.inl (w64 (a - 1)))) (some (.inr a))
noncomputable def q91 (d : Int) (f : qj→qj→Option Int) (a : Int × Int × List qj) : Option ((Int × Int × List qj) ⊕ (Int × List qj)):=
  (loop (q92 a d f) a.1).bind fun b=>(loop (q93 b a d f) a.2.1).bind fun c=>cond (decide (b > c)) (some (.inr (b,a.2.2))) ((idx a.2.2 c).bind fun g=>(idx a.2.2 b).bind fun h=>(idx a.2.2 b).bind fun _=>(idx (a.2.2.set b.toNat g) c).bind fun _=>some (.inl (w64 (b + 1),w64 (c - 1),(a.2.2.set b.toNat g).set c.toNat h)))
noncomputable def q90 (g : qj→qj→Option Int) (b : List qj) (a : Int) (h : Int) (c : Int) : Option (Int × List qj):=
  (idx b c).bind fun d=>(idx b a).bind fun j=>(idx b a).bind fun _=>(idx (b.set a.toNat d) c).bind fun _=>(loop (q91 a g) (w64 (a + 1),w64 (h - 1),(b.set a.toNat d).set c.toNat j)).bind fun f=>some (f.1,f.2)
noncomputable def q8v (h : Int) (c : List qj) (b : Int) (d : qj) (f : Int) (g : qj) (j : qj→qj→Option Int) (a : Int) : Option ((Int) ⊕ (Int)):=
  (cond (decide (a≤(w64 (h - 1)))) ((idx ((c.set b.toNat d).set f.toNat g) a).bind fun k=>(idx ((c.set b.toNat d).set f.toNat g) b).bind fun l=>(j k l).bind fun m=>some (decide (m < 0))) (some false)).bind fun n=>cond n (some (.inl (w64 (a + 1)))) (some (.inr a))
noncomputable def q8w (h : Int) (c : List qj) (b : Int) (d : qj) (f : Int) (g : qj) (j : qj→qj→Option Int) (a : Int) : Option ((Int) ⊕ (Int)):=
  (cond (decide (h≤a)) ((idx ((c.set b.toNat d).set f.toNat g) a).bind fun k=>(idx ((c.set b.toNat d).set f.toNat g) b).bind fun l=>(j k l).bind fun m=>some (!(decide (m < 0)))) (some false)).bind fun n=>cond n (some (.inl (w64 (a - 1)))) (some (.inr a))
noncomputable def q8y (b : Int × Int × List qj) (c : Int) (d : qj→qj→Option Int) (a : Int) : Option ((Int) ⊕ (Int)):=
  (cond (decide (a≤b.2.1)) ((idx b.2.2 a).bind fun f=>(idx b.2.2 c).bind fun g=>(d f g).bind fun h=>some (decide (h < 0))) (some false)).bind fun j=>cond j (some (.inl (w64 (a + 1)))) (some (.inr a))
noncomputable def q8z (c : Int) (b : Int × Int × List qj) (d : Int) (f : qj→qj→Option Int) (a : Int) : Option ((Int) ⊕ (Int)):=
  (cond (decide (c≤a)) ((idx b.2.2 a).bind fun g=>(idx b.2.2 d).bind fun h=>(f g h).bind fun j=>some (!(decide (j < 0)))) (some false)).bind fun k=>cond k (some (.inl (w64 (a - 1)))) (some (.inr a))
noncomputable def q8x (d : Int) (f : qj→qj→Option Int) (a : Int × Int × List qj) : Option ((Int × Int × List qj) ⊕ (Int × List qj)):=
  (loop (q8y a d f) a.1).bind fun b=>(loop (q8z b a d f) a.2.1).bind fun c=>cond (decide (b > c)) (some (.inr (c,a.2.2))) ((idx a.2.2 c).bind fun g=>(idx a.2.2 b).bind fun h=>(idx a.2.2 b).bind fun _=>(idx (a.2.2.set b.toNat g) c).bind fun _=>some (.inl (w64 (b + 1),w64 (c - 1),(a.2.2.set b.toNat g).set c.toNat h)))
noncomputable def q8u (k : qj→qj→Option Int) (b : List qj) (a : Int) (l : Int) (c : Int) : Option (Int × Bool × List qj):=
  (idx b c).bind fun d=>(idx b a).bind fun f=>(idx b a).bind fun _=>(idx (b.set a.toNat d) c).bind fun _=>(loop (q8v l b a d c f k) (w64 (a + 1))).bind fun j=>(loop (q8w j b a d c f k) (w64 (l - 1))).bind fun g=>cond (decide (j > g)) ((idx ((b.set a.toNat d).set c.toNat f) a).bind fun m=>(idx ((b.set a.toNat d).set c.toNat f) g).bind fun p=>(idx ((b.set a.toNat d).set c.toNat f) g).bind fun _=>(idx (((b.set a.toNat d).set c.toNat f).set g.toNat m) a).bind fun _=>some (g,true,(((b.set a.toNat d).set c.toNat f).set g.toNat m).set a.toNat p)) ((idx ((b.set a.toNat d).set c.toNat f) g).bind fun n=>(idx ((b.set a.toNat d).set c.toNat f) j).bind fun q=>(idx ((b.set a.toNat d).set c.toNat f) j).bind fun _=>(idx (((b.set a.toNat d).set c.toNat f).set j.toNat n) g).bind fun _=>(loop (q8x a k) (w64 (j + 1),w64 (g - 1),(((b.set a.toNat d).set c.toNat f).set j.toNat n).set g.toNat q)).bind fun h=>(idx h.2 a).bind fun o=>(idx h.2 h.1).bind fun r=>(idx h.2 h.1).bind fun _=>(idx (h.2.set h.1.toNat o) a).bind fun _=>some (h.1,false,(h.2.set h.1.toNat o).set a.toNat r))
noncomputable def q8i (b : Int) (d : Int) (f : Int) (a : Int × List qj × Int) : Option ((Int × List qj × Int) ⊕ (List qj)):=
  cond (decide (a.1≤(w64 ((w64 (b + (w64 ((w64 (Int.tdiv (w64 (d - b)) 4)) * 2)))) + 1)))) ((q14 a.2.2).bind fun c=>(cond (decide ((w64 (andI .u64 c (IntKind.wrap .u64 (f - 1)))) ≥ (w64 (d - b)))) (some (w64 ((w64 (andI .u64 c (IntKind.wrap .u64 (f - 1)))) - (w64 (d - b))))) (some (w64 (andI .u64 c (IntKind.wrap .u64 (f - 1)))))).bind fun g=>(idx a.2.1 (w64 (b + g))).bind fun h=>(idx a.2.1 a.1).bind fun j=>(idx a.2.1 a.1).bind fun _=>(idx (a.2.1.set a.1.toNat h) (w64 (b + g))).bind fun _=>some (.inl (w64 (a.1 + 1),(a.2.1.set a.1.toNat h).set (w64 (b + g)).toNat j,c))) (some (.inr a.2.1))
noncomputable def q8h (g : qj→qj→Option Int) (c : List qj) (a : Int) (b : Int) : Option (List qj):=
  cond (decide ((w64 (b - a)) ≥ 8)) ((q13 (w64 (b - a))).bind fun d=>(loop (q8i a b d) (w64 ((w64 (a + (w64 ((w64 (Int.tdiv (w64 (b - a)) 4)) * 2)))) - 1),c,IntKind.wrap .u64 (w64 (b - a)))).bind fun f=>some f) (some c)
noncomputable def q66 (c : qj→qj→Option Int) (rec : List qj→Int→Int→Int→Option (List qj)) (a : Int × Int × Int × Bool × Bool × List qj) : Option ((Int × Int × Int × Bool × Bool × List qj) ⊕ (List qj)):=
  cond (decide ((w64 (a.2.1 - a.1))≤12)) ((q8n c a.2.2.2.2.2 a.1 a.2.1).bind fun l=>(Qu l.length a.2.2.2.2.2.length).bind fun _=>some (.inr l)) (cond (a.2.2.1 == 0) ((q8k c a.2.2.2.2.2 a.1 a.2.1).bind fun m=>(Qu m.length a.2.2.2.2.2.length).bind fun _=>some (.inr m)) ((cond (!a.2.2.2.1) ((q8h c a.2.2.2.2.2 a.1 a.2.1).bind fun n=>(Qu n.length a.2.2.2.2.2.length).bind fun _=>some (w64 (a.2.2.1 - 1),n)) (some (a.2.2.1,a.2.2.2.2.2))).bind fun d=>(q8j d.2 a.1 a.2.1 c).bind fun h=>(cond (h.2 == 2) ((q94 c d.2 a.1 a.2.1).bind fun o=>(Qu o.length d.2.length).bind fun _=>some (w64 ((w64 (a.2.1 - 1)) - (w64 (h.1 - a.1))),1,o)) (some (h.1,h.2,d.2))).bind fun f=>(cond a.2.2.2.1 (some a.2.2.2.2.1) (some false)).bind fun r=>(cond r (some (f.2.1 == 1)) (some false)).bind fun s=>(cond s ((q5r c f.2.2 a.1 a.2.1).bind fun j=>(Qu j.2.length f.2.2.length).bind fun _=>cond j.1 (some (.inr j.2)) (some (.inl j.2))) (some (.inl f.2.2)) : Option ((List qj) ⊕ (List qj))).bind fun t=>(match t with | .inl g=>(cond (decide (a.1 > 0)) ((idx g (w64 (a.1 - 1))).bind fun u=>(idx g f.1).bind fun v=>(c u v).bind fun w=>some (!(decide (w < 0)))) (some false)).bind fun x=>cond x ((q90 c g a.1 a.2.1 f.1).bind fun k=>(Qu k.2.length g.length).bind fun _=>some (.inl (k.1,a.2.1,d.1,a.2.2.2.1,a.2.2.2.2.1,k.2))) ((q8u c g a.1 a.2.1 f.1).bind fun b=>(Qu b.2.2.length g.length).bind fun _=>cond (decide ((w64 (b.1 - a.1)) < (w64 (a.2.1 - b.1)))) ((rec b.2.2 a.1 b.1 d.1).bind fun p=>(Qu p.length b.2.2.length).bind fun _=>some (.inl (w64 (b.1 + 1),a.2.1,d.1,decide ((w64 (b.1 - a.1)) ≥ (w64 (Int.tdiv (w64 (a.2.1 - a.1)) 8))),b.2.1,p))) ((rec b.2.2 (w64 (b.1 + 1)) a.2.1 d.1).bind fun q=>(Qu q.length b.2.2.length).bind fun _=>some (.inl (a.1,b.1,d.1,decide ((w64 (a.2.1 - b.1)) ≥ (w64 (Int.tdiv (w64 (a.2.1 - a.1)) 8))),b.2.1,q)))) | .inr y=>some (.inr y))))
noncomputable def q67 (rec : List qj→Int→Int→Int→Option (List qj)) (a : qj→qj→Option Int) (b : List qj) (c : Int) (d : Int) (f : Int) : Option (List qj):=
  (loop (q66 a rec) (c,d,f,true,true,b)).bind fun g=>some g
noncomputable def q65 : Nat→(qj→qj→Option Int)→List qj→Int→Int→Int→Option (List qj)
  | 0,_,_,_,_,_=>none
  | n + 1,a,b,c,d,f=>q67 (q65 n a) a b c d f
noncomputable def q5g (c : qj→qj→Option Int) (a : List qj) : Option (List qj):=
  (U5 (IntKind.wrap .u64 (a.length : Int))).bind fun d=>(lim (fun n=>q65 n c a 0 (a.length : Int) d)).bind fun b=>(Qu b.length a.length).bind fun _=>some b
noncomputable def qbn (a : List qj) : Option (List qj):=
  some a
noncomputable def q3t (b : List qm) (c : Int × List qj) (a : Int × List qj) : Option ((Int × List qj) ⊕ (List qj)):=
  cond (decide (a.1 < (b.length : Int))) ((idx b a.1).bind fun d=>(app 24 a.2 [({at_:=d.Lo,list_:=c.1,by_:=1} : qj),({at_:=d.Hi,list_:=c.1,by_:=(-1)} : qj)]).bind fun f=>some (.inl (w64 (a.1 + 1),f))) (some (.inr a.2))
noncomputable def Ua (b : List (List qm)) (a : Int × List qj) : Option ((Int × List qj) ⊕ (List qj)):=
  cond (decide (a.1 < (b.length : Int))) (((idx b a.1).bind fun c=>(loop (q3t c a) (0,a.2)).bind fun d=>some d).bind fun f=>some (.inl (w64 (a.1 + 1),f))) (some (.inr a.2))
noncomputable def q9d (b : List (List qm)) : Option (List (List qm) × List qj):=
  (loop (Ua b) (0,[])).bind fun c=>(q5g (fun f g=>q9c f g) c).bind fun a=>(Qu a.length c.length).bind fun _=>(qbn a).bind fun d=>(Qu d.length a.length).bind fun _=>some (b,d)
noncomputable def q9e (d : Int) (c : Bool) (b : Int) (a : List qm) : Option (Bool × Int × List qm):=
  (cond (!c) (some true) (some (b == d))).bind fun f=>cond f (some (c,b,a)) ((cond (decide ((a.length : Int) > 0)) ((idx a (w64 ((a.length : Int) - 1))).bind fun g=>some (g.Hi == b)) (some false)).bind fun h=>cond h ((idx a (w64 ((a.length : Int) - 1))).bind fun j=>some (c,b,a.set (w64 ((a.length : Int) - 1)).toNat ({Lo:=j.Lo,Hi:=d} : qm))) ((app 16 a [({Lo:=b,Hi:=d} : qm)]).bind fun k=>some (c,b,k)))
noncomputable def q3u (f : List (List qm) × List qj) (g : Bool→Bool→Option Bool) (a : Int × List Int × Int × Bool × List qm) : Option ((Int × List Int × Int × Bool × List qm) ⊕ (List qm)):=
  cond (decide (a.1 < (f.2.length : Int))) ((idx f.2 a.1).bind fun b=>((q9e b.at_ a.2.2.2.1 a.2.2.1 a.2.2.2.2).bind fun h=>(idxA 2 a.2.1 b.list_).bind fun c=>(idxA 2 a.2.1 b.list_).bind fun _=>(idxA 2 (a.2.1.set b.list_.toNat (w64 (c + b.by_))) 0).bind fun j=>(idxA 2 (a.2.1.set b.list_.toNat (w64 (c + b.by_))) 1).bind fun k=>(g (decide (j > 0)) (decide (k > 0))).bind fun l=>some (a.2.1.set b.list_.toNat (w64 (c + b.by_)),l,h.2.2)).bind fun d=>some (.inl (w64 (a.1 + 1),d.1,b.at_,d.2.1,d.2.2))) (some (.inr a.2.2.2.2))
noncomputable def q6j (a : List qm) (b : List qm) (d : Bool→Bool→Option Bool) : Option (List qm):=
  (q9d [a,b]).bind fun c=>(Qu c.1.length [a,b].length).bind fun _=>((loop (q3u c d) (0,[0,0],0,false,[])).bind fun f=>some f).bind fun g=>some g
noncomputable def q9b (a : Bool) (b : Bool) : Option Bool:=
  some a
noncomputable def q6i (a : List qm) : Option (List qm × Int):=
  cond (decide ((a.length : Int) > 400)) (some ([],4)) ((q8d a (fun b=>qbq b)).bind fun c=>cond c (some ([],8)) ((q6j a [] (fun b d=>q9b b d)).bind fun f=>some (f,0)))
noncomputable def qbh (b : List qm) (f : List qm) (a : Int) : Option ((Int) ⊕ ((Unit) ⊕ (Bool))):=
  cond (decide (a < (b.length : Int))) ((idx b a).bind fun c=>(idx f a).bind fun d=>cond (!((c.Lo == d.Lo) && ((c.Hi == d.Hi) && true))) (some (.inr (.inr false))) (some (.inl (w64 (a + 1))))) (some (.inr (.inl ())))
noncomputable def q8f (a : List qm) (b : List qm) : Option Bool:=
  cond ((a.length : Int) != (b.length : Int)) (some false) ((loop (qbh a b) 0 : Option ((Unit) ⊕ (Bool))).bind fun c=>(match c with | .inl _=>some true | .inr d=>some d))
noncomputable def q58 (c : Int) (a : Int × List qk) : Option ((Int × List qk) ⊕ (List qk)):=
  cond (decide (a.1 < (a.2.length : Int))) ((idx a.2 a.1).bind fun b=>some (.inl (w64 (a.1 + 1),a.2.set a.1.toNat ({X0:=b.X0,Y0:=b.Y0,X1:=c,Y1:=b.Y1} : qk)))) (some (.inr a.2))
noncomputable def q59 (b : List qm) (f : Int) (c : Int) (g : List qk) (a : Int × List qk) : Option ((Int × List qk) ⊕ (List qm × Int × Int × List qk)):=
  cond (decide (a.1 < (b.length : Int))) ((idx b a.1).bind fun d=>(app 32 a.2 [({X0:=f,Y0:=d.Lo,X1:=c,Y1:=d.Hi} : qk)]).bind fun h=>some (.inl (w64 (a.1 + 1),h))) (some (.inr (b,(g.length : Int),c,a.2)))
noncomputable def q83 (a : List qk) (d : List qm) (f : Int) (h : Int) (g : Int) (b : Int) (c : List qm) : Option (List qm × Int × Int × List qk):=
  (cond (decide ((c.length : Int) > 0)) (some (h == g)) (some false)).bind fun j=>(cond j ((q8f d c).bind fun k=>some k) (some false)).bind fun l=>cond l ((loop (q58 b) (f,a)).bind fun m=>some (d,f,b,m)) ((loop (q59 c g b a) (0,a)).bind fun n=>some n)
noncomputable def q1y (b : List qk) (a : Int × List Int) : Option ((Int × List Int) ⊕ (List Int)):=
  cond (decide (a.1 < (b.length : Int))) ((idx b a.1).bind fun c=>(app 8 a.2 [c.X0,c.X1]).bind fun d=>some (.inl (w64 (a.1 + 1),d))) (some (.inr a.2))
noncomputable def q3c (c : List qk) (d : Int) (a : Int × List qm) : Option ((Int × List qm) ⊕ (List qm)):=
  cond (decide (a.1 < (c.length : Int))) (((idx c a.1).bind fun b=>(cond (decide (b.X0≤d)) (some (decide (d < b.X1))) (some false)).bind fun f=>cond f ((app 16 a.2 [({Lo:=b.Y0,Hi:=b.Y1} : qm)]).bind fun g=>some g) (some a.2)).bind fun h=>some (.inl (w64 (a.1 + 1),h))) (some (.inr a.2))
noncomputable def q1z (d : List Int) (g : List qk) (a : Int × List qm × Int × Int × List qk) : Option ((Int × List qm × Int × Int × List qk) ⊕ (List qm × Int × Int × List qk)):=
  cond (decide (a.1 < (d.length : Int))) ((idx d (w64 (a.1 - 1))).bind fun f=>(idx d a.1).bind fun h=>((idx [g] 0).bind fun j=>(loop (q3c j f) (0,[])).bind fun k=>some k).bind fun l=>((q6i l).bind fun m=>(q83 a.2.2.2.2 a.2.1 a.2.2.1 a.2.2.2.1 f h m.1).bind fun b=>some (b.1,b.2.1,b.2.2.1,b.2.2.2)).bind fun c=>some (.inl (w64 (a.1 + 1),c.1,c.2.1,c.2.2.1,c.2.2.2))) (some (.inr (a.2.1,a.2.2.1,a.2.2.2.1,a.2.2.2.2)))
noncomputable def q84 (d : List qk) : Option (List qk × Int):=
  (((idx [d] 0).bind fun j=>(loop (q1y j) (0,[])).bind fun b=>some b).bind fun f=>(U9 f).bind fun c=>(Qu c.length f.length).bind fun _=>(q24 c).bind fun a=>(Qu a.2.length c.length).bind fun _=>(q2c a.2.length a.1).bind fun _=>some ((a.2.drop a.1.1).take a.1.2)).bind fun k=>((loop (q1z k d) (1,[],0,0,[])).bind fun b=>some b).bind fun g=>(cond (decide ((g.2.2.2.length : Int) > 400)) (some (4,[])) (some (0,g.2.2.2))).bind fun h=>some (h.2,h.1)
noncomputable def q57 (a : List qk) : Option (List qk × Int):=
  cond (decide ((a.length : Int) > 400)) (some ([],4)) ((q8b a (fun c=>q1w c)).bind fun d=>cond d (some ([],8)) ((q84 a).bind fun b=>some (b.1,b.2)))
noncomputable def qbf (d : List qk) (f : List qk) (a : Int) : Option ((Int) ⊕ ((Unit) ⊕ (Bool))):=
  cond (decide (a < (d.length : Int))) ((idx d a).bind fun b=>(idx f a).bind fun c=>cond (!((b.X0 == c.X0) && ((b.Y0 == c.Y0) && ((b.X1 == c.X1) && ((b.Y1 == c.Y1) && true))))) (some (.inr (.inr false))) (some (.inl (w64 (a + 1))))) (some (.inr (.inl ())))
noncomputable def q8e (a : List qk) (b : List qk) : Option Bool:=
  cond ((a.length : Int) != (b.length : Int)) (some false) ((loop (qbf a b) 0 : Option ((Unit) ⊕ (Bool))).bind fun c=>(match c with | .inl _=>some true | .inr d=>some d))
noncomputable def q6d (c : Int) (a : Int × List qg) : Option ((Int × List qg) ⊕ (List qg)):=
  cond (decide (a.1 < (a.2.length : Int))) ((idx a.2 a.1).bind fun b=>some (.inl (w64 (a.1 + 1),a.2.set a.1.toNat ({Lo:=b.Lo,Hi:=({X:=b.Hi.X,Y:=b.Hi.Y,Z:=c} : qv)} : qg)))) (some (.inr a.2))
noncomputable def q6e (c : List qk) (f : Int) (d : Int) (g : List qg) (a : Int × List qg) : Option ((Int × List qg) ⊕ (List qk × Int × Int × List qg)):=
  cond (decide (a.1 < (c.length : Int))) ((idx c a.1).bind fun b=>(app 48 a.2 [({Lo:=({X:=b.X0,Y:=b.Y0,Z:=f} : qv),Hi:=({X:=b.X1,Y:=b.Y1,Z:=d} : qv)} : qg)]).bind fun h=>some (.inl (w64 (a.1 + 1),h))) (some (.inr (c,(g.length : Int),d,a.2)))
noncomputable def q99 (a : List qg) (d : List qk) (f : Int) (h : Int) (g : Int) (b : Int) (c : List qk) : Option (List qk × Int × Int × List qg):=
  (cond (decide ((c.length : Int) > 0)) (some (h == g)) (some false)).bind fun j=>(cond j ((q8e d c).bind fun k=>some k) (some false)).bind fun l=>cond l ((loop (q6d b) (f,a)).bind fun m=>some (d,f,b,m)) ((loop (q6e c g b a) (0,a)).bind fun n=>some n)
noncomputable def q3p (b : List qg) (a : Int × List Int) : Option ((Int × List Int) ⊕ (List Int)):=
  cond (decide (a.1 < (b.length : Int))) ((idx b a.1).bind fun c=>(app 8 a.2 [c.Lo.Z,c.Hi.Z]).bind fun d=>some (.inl (w64 (a.1 + 1),d))) (some (.inr a.2))
noncomputable def q3r (c : List qg) (d : Int) (a : Int × List qk) : Option ((Int × List qk) ⊕ (List qk)):=
  cond (decide (a.1 < (c.length : Int))) (((idx c a.1).bind fun b=>(cond (decide (b.Lo.Z≤d)) (some (decide (d < b.Hi.Z))) (some false)).bind fun f=>cond f ((app 32 a.2 [({X0:=b.Lo.X,Y0:=b.Lo.Y,X1:=b.Hi.X,Y1:=b.Hi.Y} : qk)]).bind fun g=>some g) (some a.2)).bind fun h=>some (.inl (w64 (a.1 + 1),h))) (some (.inr a.2))
noncomputable def q3q (d : List Int) (h : List qg) (a : Int × List qk × Int × Int × List qg) : Option ((Int × List qk × Int × Int × List qg) ⊕ ((List qk × Int × Int × List qg) ⊕ (List qg × Int))):=
  cond (decide (a.1 < (d.length : Int))) ((idx d (w64 (a.1 - 1))).bind fun g=>(idx d a.1).bind fun j=>((idx [h] 0).bind fun k=>(loop (q3r k g) (0,[])).bind fun l=>some l).bind fun m=>((q57 m).bind fun f=>cond (f.2 != 0) (some (.inr ([],f.2))) ((q99 a.2.2.2.2 a.2.1 a.2.2.1 a.2.2.2.1 g j f.1).bind fun b=>some (.inl (b.1,b.2.1,b.2.2.1,b.2.2.2))) : Option ((List qk × Int × Int × List qg) ⊕ (List qg × Int))).bind fun n=>(match n with | .inl c=>some (.inl (w64 (a.1 + 1),c.1,c.2.1,c.2.2.1,c.2.2.2)) | .inr o=>some (.inr (.inr o)))) (some (.inr (.inl (a.2.1,a.2.2.1,a.2.2.2.1,a.2.2.2.2))))
noncomputable def q6h (f : List qg) : Option (List qg × Int):=
  (((idx [f] 0).bind fun j=>(loop (q3p j) (0,[])).bind fun b=>some b).bind fun g=>(U9 g).bind fun c=>(Qu c.length g.length).bind fun _=>(q24 c).bind fun a=>(Qu a.2.length c.length).bind fun _=>(q2c a.2.length a.1).bind fun _=>some ((a.2.drop a.1.1).take a.1.2)).bind fun k=>((loop (q3q k f) (1,[],0,0,[]) : Option ((List qk × Int × Int × List qg) ⊕ (List qg × Int))).bind fun l=>(match l with | .inl b=>some (.inl b) | .inr d=>some (.inr d)) : Option ((List qk × Int × Int × List qg) ⊕ (List qg × Int))).bind fun m=>(match m with | .inl h=>cond (decide ((h.2.2.2.length : Int) > 400)) (some ([],4)) (some (h.2.2.2,0)) | .inr d=>some d)
noncomputable def qeq (d : List qg) (f : List qg) (c : Int) : Option ((Int) ⊕ ((Unit) ⊕ (Bool))):=
  cond (decide (c < (d.length : Int))) ((idx d c).bind fun a=>(idx f c).bind fun b=>cond (!((a.Lo.X == b.Lo.X) && ((a.Lo.Y == b.Lo.Y) && ((a.Lo.Z == b.Lo.Z) && ((a.Hi.X == b.Hi.X) && ((a.Hi.Y == b.Hi.Y) && ((a.Hi.Z == b.Hi.Z) && true))))))) (some (.inr (.inr false))) (some (.inl (w64 (c + 1))))) (some (.inr (.inl ())))
noncomputable def qbg (a : List qg) (b : List qg) : Option Bool:=
  cond ((a.length : Int) != (b.length : Int)) (some false) ((loop (qeq a b) 0 : Option ((Unit) ⊕ (Bool))).bind fun c=>(match c with | .inl _=>some true | .inr d=>some d))
noncomputable def q6c (a : List qg) : Option Int:=
  cond (decide ((a.length : Int) > 400)) (some 4) ((q8c a (fun c=>q28 c)).bind fun d=>cond d (some 8) ((q6h a).bind fun b=>(cond (b.2 != 0) (some true) ((qbg b.1 a).bind fun f=>some (!f))).bind fun g=>cond g (some 8) (some 0)))
noncomputable def q9m (a : Qv) : Option Bool:=
  some (decide (a.Depth < 0))
noncomputable def q6n (b : List (List qg)) (a : Int) : Option ((Int) ⊕ ((Unit) ⊕ (Int))):=
  cond (decide (a < (b.length : Int))) ((idx b a).bind fun d=>(q6c d).bind fun c=>cond (c != 0) (some (.inr (.inr c))) (some (.inl (w64 (a + 1))))) (some (.inr (.inl ())))
noncomputable def q9l (a : K1) (b : List (List qg)) : Option Int:=
  (q3y a).bind fun c=>cond (c.2 != 0) (some c.2) (cond (decide ((b.length : Int) > 20)) (some 4) ((loop (q6n b) 0 : Option ((Unit) ⊕ (Int))).bind fun d=>(match d with | .inl _=>(cond (decide ((a.Lines.length : Int) > 0)) (some ((b.length : Int) == 0)) (some false)).bind fun f=>cond f (some 6) ((q5d a.Lines (fun g=>q9m g)).bind fun h=>cond h (some 2) (some 0)) | .inr j=>some j)))
noncomputable def q9n (a : qv) : Option Bool:=
  (cond (decide ((min (min a.X a.Y) a.Z) ≥ (-1000000))) (some (decide ((max (max a.X a.Y) a.Z)≤1000000))) (some false)).bind fun b=>some b
noncomputable def q3e (b : List qg) (c : qg→Option Bool) (a : Int) : Option ((Int) ⊕ ((Unit) ⊕ (Int))):=
  cond (decide (a < (b.length : Int))) ((idx b a).bind fun d=>(c d).bind fun f=>cond f (some (.inr (.inr a))) (some (.inl (w64 (a + 1))))) (some (.inr (.inl ())))
noncomputable def qbi (a : List qg) (b : qg→Option Bool) : Option Int:=
  (loop (q3e a b) 0 : Option ((Unit) ⊕ (Int))).bind fun c=>(match c with | .inl _=>some (-1) | .inr d=>some d)
noncomputable def q89 (a : List qg) (b : qg→Option Bool) : Option Bool:=
  (qbi a b).bind fun c=>some (decide (c ≥ 0))
noncomputable def q29 (a : qg) : Option Bool:=
  (q6g a).bind fun b=>some (!b)
noncomputable def q98 (a : List qg) : Option (List qg × Int):=
  cond (decide ((a.length : Int) > 400)) (some ([],4)) ((q89 a (fun c=>q29 c)).bind fun d=>cond d (some ([],8)) ((q6h a).bind fun b=>some (b.1,b.2)))
noncomputable def q3x (d : List qg) (a : Qv) (c : Int × List qg) : Option ((Int × List qg) ⊕ ((List qg) ⊕ (List qg × Int))):=
  cond (decide (c.1 < (d.length : Int))) ((idx d c.1).bind fun b=>(q9n ({X:=w64 (b.Lo.X + (min a.From.X a.To.X)),Y:=w64 (b.Lo.Y + (min a.From.Y a.To.Y)),Z:=w64 (b.Lo.Z + (min a.From.Z a.To.Z))} : qv)).bind fun f=>(cond (!f) (some true) ((q9n ({X:=w64 (b.Hi.X + (max a.From.X a.To.X)),Y:=w64 (b.Hi.Y + (max a.From.Y a.To.Y)),Z:=w64 (b.Hi.Z + (max a.From.Z a.To.Z))} : qv)).bind fun g=>some (!g))).bind fun h=>cond h (some (.inr (.inr ([],16)))) ((app 48 c.2 [({Lo:=({X:=w64 (b.Lo.X + (min a.From.X a.To.X)),Y:=w64 (b.Lo.Y + (min a.From.Y a.To.Y)),Z:=w64 (b.Lo.Z + (min a.From.Z a.To.Z))} : qv),Hi:=({X:=w64 (b.Hi.X + (max a.From.X a.To.X)),Y:=w64 (b.Hi.Y + (max a.From.Y a.To.Y)),Z:=w64 (b.Hi.Z + (max a.From.Z a.To.Z))} : qv)} : qg)]).bind fun j=>some (.inl (w64 (c.1 + 1),j)))) (some (.inr (.inl c.2)))
noncomputable def q6m (b : Qv) (c : List qg) : Option (List qg × Int):=
  (loop (q3x c b) (0,[]) : Option ((List qg) ⊕ (List qg × Int))).bind fun d=>(match d with | .inl f=>(q98 f).bind fun a=>some (a.1,a.2) | .inr g=>some g)
noncomputable def q6l (c : K1) (d : List (List qg)) (a : Int × List (List qg)) : Option ((Int × List (List qg)) ⊕ ((List (List qg)) ⊕ (List (List qg) × Int))):=
  cond (decide (a.1 < (c.Lines.length : Int))) ((idx c.Lines a.1).bind fun f=>(idx d (min f.Depth (w64 ((d.length : Int) - 1)))).bind fun g=>(q6m f g).bind fun b=>(cond (b.2 != 0) (some (.inr ([],b.2))) ((app 24 a.2 [b.1]).bind fun h=>some (.inl h)) : Option ((List (List qg)) ⊕ (List (List qg) × Int))).bind fun j=>(match j with | .inl k=>some (.inl (w64 (a.1 + 1),k)) | .inr l=>some (.inr (.inr l)))) (some (.inr (.inl a.2)))
noncomputable def q9k (b : K1) (c : List (List qg)) : Option (List (List qg) × Int):=
  (q9l b c).bind fun d=>cond (d != 0) (some ([],d)) ((some ()).bind fun _=>((loop (q6l b c) (0,[]) : Option ((List (List qg)) ⊕ (List (List qg) × Int))).bind fun f=>(match f with | .inl g=>some (.inl g) | .inr a=>some (.inr a)) : Option ((List (List qg)) ⊕ (List (List qg) × Int))).bind fun h=>(match h with | .inl j=>some (j,0) | .inr a=>some a))
noncomputable def q4p (a : Ys) : Option Int:=
  (cond (decide (a.Turn ≥ 24)) (some true) ((Zt a.At (-1000000)).bind fun b=>some (!b))).bind fun c=>cond c (some 8) (some 0)
noncomputable def q4q (d : K1) (a : Int) : Option ((Int) ⊕ ((Unit) ⊕ (Int))):=
  cond (decide (a < (d.Lines.length : Int))) ((idx d.Lines a).bind fun b=>(idx d.Lines a).bind fun c=>(cond (b.From.X != c.To.X) (some (w64 (0 + 1))) (some 0)).bind fun f=>(cond (b.From.Y != c.To.Y) (some (w64 (f + 1))) (some f)).bind fun g=>(cond (b.From.Z != c.To.Z) (some (w64 (g + 1))) (some g)).bind fun h=>(cond (decide (h > 1)) (some true) ((Zt b.From (-1000000)).bind fun j=>some (!j))).bind fun k=>(cond k (some true) ((Zt c.To (-1000000)).bind fun l=>some (!l))).bind fun m=>cond m (some (.inr (.inr 8))) (some (.inl (w64 (a + 1))))) (some (.inr (.inl ())))
noncomputable def q4r (b : K1) (a : Int) : Option ((Int) ⊕ ((Unit) ⊕ (Int))):=
  cond (decide (a < (b.Marks.length : Int))) ((idx b.Marks a).bind fun c=>(q4p c.Frame).bind fun d=>cond (d != 0) (some (.inr (.inr 8))) (some (.inl (w64 (a + 1))))) (some (.inr (.inl ())))
noncomputable def q1u (a : K1) : Option Int:=
  (cond (decide ((a.Lines.length : Int) > 2000)) (some true) (some (decide ((a.Marks.length : Int) > 2000)))).bind fun c=>(cond c (some true) ((q4p a.End.Frame).bind fun d=>some (d != 0))).bind fun f=>cond f (some 8) ((loop (q4q a) 0 : Option ((Unit) ⊕ (Int))).bind fun g=>(match g with | .inl _=>(loop (q4r a) 0 : Option ((Unit) ⊕ (Int))).bind fun h=>(match h with | .inl _=>some 0 | .inr b=>some b) | .inr b=>some b))
noncomputable def q37 (a : qg) : Option Bool:=
  (Zt a.Lo (-1000000)).bind fun b=>(cond b ((Zt a.Hi (-1000000)).bind fun c=>some c) (some false)).bind fun d=>(cond d (some (decide (a.Lo.X < a.Hi.X))) (some false)).bind fun f=>(cond f (some (decide (a.Lo.Y < a.Hi.Y))) (some false)).bind fun g=>(cond g (some (decide (a.Lo.Z < a.Hi.Z))) (some false)).bind fun h=>some h
noncomputable def q2v (b : Int × List Int) (c : List Int) (a : Int) : Option ((Int) ⊕ (Int)):=
  (cond (decide (a > 0)) ((idx b.2 (w64 (a - 1))).bind fun d=>(idx c b.1).bind fun f=>some (decide (d > f))) (some false)).bind fun g=>cond g (some (.inl (w64 (a - 1)))) (some (.inr a))
noncomputable def q2u (d : List Int) (a : Int × List Int) : Option ((Int × List Int) ⊕ (List Int)):=
  cond (decide (a.1 < (d.length : Int))) (((loop (q2v a d) (a.2.length : Int)).bind fun c=>(cond (decide (c > 0)) ((idx a.2 (w64 (c - 1))).bind fun h=>(idx d a.1).bind fun j=>some (h == j)) (some false)).bind fun k=>cond k (some a.2) ((app 8 a.2 [0]).bind fun b=>(sub2 b.length (w64 (c + 1)) b.length).bind fun g=>(sub2 b.length c b.length).bind fun f=>(idx d a.1).bind fun l=>(idx (cpyw b g ((b.drop f.1).take f.2)) c).bind fun _=>some ((cpyw b g ((b.drop f.1).take f.2)).set c.toNat l))).bind fun m=>some (.inl (w64 (a.1 + 1),m))) (some (.inr a.2))
noncomputable def Ja (a : List Int) : Option (List Int):=
  (loop (q2u a) (0,[])).bind fun b=>some b
noncomputable def q34 (b : List qg) (a : Int × List Int) : Option ((Int × List Int) ⊕ (List Int)):=
  cond (decide (a.1 < (b.length : Int))) ((idx b a.1).bind fun c=>(idx b a.1).bind fun d=>(app 8 a.2 [c.Lo.Z,d.Hi.Z]).bind fun f=>some (.inl (w64 (a.1 + 1),f))) (some (.inr a.2))
noncomputable def q35 (b : List qg) (a : Int × List Int) : Option ((Int × List Int) ⊕ (List Int)):=
  cond (decide (a.1 < (b.length : Int))) ((idx b a.1).bind fun c=>(idx b a.1).bind fun d=>(app 8 a.2 [c.Lo.Z,d.Hi.Z]).bind fun f=>some (.inl (w64 (a.1 + 1),f))) (some (.inr a.2))
noncomputable def q7x (a : List qg) (b : List qg) : Option (List Int):=
  (loop (q34 a) (0,[])).bind fun c=>(loop (q35 b) (0,c)).bind fun d=>(Ja d).bind fun f=>some f
noncomputable def q4s (b : List qg) (c : Int) (a : Int × List qk) : Option ((Int × List qk) ⊕ (List qk)):=
  cond (decide (a.1 < (b.length : Int))) (((idx b a.1).bind fun d=>(cond (decide (d.Lo.Z≤c)) ((idx b a.1).bind fun f=>some (decide (c < f.Hi.Z))) (some false)).bind fun g=>cond g ((idx b a.1).bind fun h=>(idx b a.1).bind fun j=>(idx b a.1).bind fun k=>(idx b a.1).bind fun l=>(app 32 a.2 [({X0:=h.Lo.X,Y0:=j.Lo.Y,X1:=k.Hi.X,Y1:=l.Hi.Y} : qk)]).bind fun m=>some m) (some a.2)).bind fun n=>some (.inl (w64 (a.1 + 1),n))) (some (.inr a.2))
noncomputable def Jb (a : List qg) (b : Int) : Option (List qk):=
  (loop (q4s a b) (0,[])).bind fun c=>some c
noncomputable def q2y (b : List qk) (a : Int × List Int) : Option ((Int × List Int) ⊕ (List Int)):=
  cond (decide (a.1 < (b.length : Int))) ((idx b a.1).bind fun c=>(idx b a.1).bind fun d=>(app 8 a.2 [c.X0,d.X1]).bind fun f=>some (.inl (w64 (a.1 + 1),f))) (some (.inr a.2))
noncomputable def q2z (b : List qk) (a : Int × List Int) : Option ((Int × List Int) ⊕ (List Int)):=
  cond (decide (a.1 < (b.length : Int))) ((idx b a.1).bind fun c=>(idx b a.1).bind fun d=>(app 8 a.2 [c.X0,d.X1]).bind fun f=>some (.inl (w64 (a.1 + 1),f))) (some (.inr a.2))
noncomputable def q7v (a : List qk) (b : List qk) : Option (List Int):=
  (loop (q2y a) (0,[])).bind fun c=>(loop (q2z b) (0,c)).bind fun d=>(Ja d).bind fun f=>some f
noncomputable def q30 (b : List qk) (a : Int × List Int) : Option ((Int × List Int) ⊕ (List Int)):=
  cond (decide (a.1 < (b.length : Int))) ((idx b a.1).bind fun c=>(idx b a.1).bind fun d=>(app 8 a.2 [c.Y0,d.Y1]).bind fun f=>some (.inl (w64 (a.1 + 1),f))) (some (.inr a.2))
noncomputable def q31 (b : List qk) (a : Int × List Int) : Option ((Int × List Int) ⊕ (List Int)):=
  cond (decide (a.1 < (b.length : Int))) ((idx b a.1).bind fun c=>(idx b a.1).bind fun d=>(app 8 a.2 [c.Y0,d.Y1]).bind fun f=>some (.inl (w64 (a.1 + 1),f))) (some (.inr a.2))
noncomputable def q7w (a : List qk) (b : List qk) : Option (List Int):=
  (loop (q30 a) (0,[])).bind fun c=>(loop (q31 b) (0,c)).bind fun d=>(Ja d).bind fun f=>some f
noncomputable def q1s (b : List qk) (c : Int) (d : Int) (a : Int) : Option ((Int) ⊕ ((Unit) ⊕ (Bool))):=
  cond (decide (a < (b.length : Int))) ((idx b a).bind fun f=>(cond (decide (f.X0≤c)) ((idx b a).bind fun g=>some (decide (c < g.X1))) (some false)).bind fun h=>(cond h ((idx b a).bind fun j=>some (decide (j.Y0≤d))) (some false)).bind fun k=>(cond k ((idx b a).bind fun l=>some (decide (d < l.Y1))) (some false)).bind fun m=>cond m (some (.inr (.inr true))) (some (.inl (w64 (a + 1))))) (some (.inr (.inl ())))
noncomputable def q4l (a : List qk) (b : Int) (c : Int) : Option Bool:=
  (loop (q1s a b c) 0 : Option ((Unit) ⊕ (Bool))).bind fun d=>(match d with | .inl _=>some false | .inr f=>some f)
noncomputable def q4j (c : Int) (a : Bool) (b : Bool) : Option Bool:=
  cond (c == 1) ((cond a (some b) (some false)).bind fun d=>some d) (cond (c == 2) ((cond a (some true) (some b)).bind fun f=>some f) ((cond a (some (!b)) (some false)).bind fun g=>some g))
noncomputable def q2t (b : List Int) (c : List Bool) (a : Int × List qm) : Option ((Int × List qm) ⊕ (List qm)):=
  cond (decide ((w64 (a.1 + 1)) < (b.length : Int))) (((idx c a.1).bind fun d=>cond (!d) (some a.2) ((cond (decide ((a.2.length : Int) > 0)) ((idx a.2 (w64 ((a.2.length : Int) - 1))).bind fun f=>(idx b a.1).bind fun g=>some (f.Hi == g)) (some false)).bind fun h=>cond h ((idx b (w64 (a.1 + 1))).bind fun j=>(idx a.2 (w64 ((a.2.length : Int) - 1))).bind fun k=>some (a.2.set (w64 ((a.2.length : Int) - 1)).toNat ({Lo:=k.Lo,Hi:=j} : qm))) ((idx b a.1).bind fun l=>(idx b (w64 (a.1 + 1))).bind fun m=>(app 16 a.2 [({Lo:=l,Hi:=m} : qm)]).bind fun n=>some n))).bind fun o=>some (.inl (w64 (a.1 + 1),o))) (some (.inr a.2))
noncomputable def q2s (a : List Int) (b : List Bool) : Option (List qm):=
  (loop (q2t a b) (0,[])).bind fun c=>some c
noncomputable def qay (b : List qm) (f : List qm) (a : Int) : Option ((Int) ⊕ ((Unit) ⊕ (Bool))):=
  cond (decide (a < (b.length : Int))) ((idx b a).bind fun c=>(idx f a).bind fun d=>cond (!((c.Lo == d.Lo) && ((c.Hi == d.Hi) && true))) (some (.inr (.inr false))) (some (.inl (w64 (a + 1))))) (some (.inr (.inl ())))
noncomputable def q4k (a : List qm) (b : List qm) : Option Bool:=
  cond ((a.length : Int) != (b.length : Int)) (some false) ((loop (qay a b) 0 : Option ((Unit) ⊕ (Bool))).bind fun c=>(match c with | .inl _=>some true | .inr d=>some d))
noncomputable def q2w (b : List Int) (c : List Int) (d : List qm × Int × Int × List qk) (f : List qk) (g : List qk) (h : Int) (a : Int × List Bool) : Option ((Int × List Bool) ⊕ (List Bool)):=
  cond (decide (a.1 < (b.length : Int))) ((idx c d.2.2.1).bind fun j=>(idx b a.1).bind fun k=>(q4l f j k).bind fun l=>(idx c d.2.2.1).bind fun m=>(idx b a.1).bind fun n=>(q4l g m n).bind fun o=>(q4j h l o).bind fun p=>(app 1 a.2 [p]).bind fun q=>some (.inl (w64 (a.1 + 1),q))) (some (.inr a.2))
noncomputable def q2x (c : List Int) (d : List qm × Int × Int × List qk) (a : Int × List qk) : Option ((Int × List qk) ⊕ (List qk)):=
  cond (decide (a.1 < (a.2.length : Int))) ((idx c (w64 (d.2.2.1 + 1))).bind fun f=>(idx a.2 a.1).bind fun b=>some (.inl (w64 (a.1 + 1),a.2.set a.1.toNat ({X0:=b.X0,Y0:=b.Y0,X1:=f,Y1:=b.Y1} : qk)))) (some (.inr a.2))
noncomputable def q4m (b : List qm) (d : List Int) (c : List qm × Int × Int × List qk) (a : Int × List qk) : Option ((Int × List qk) ⊕ (List qm × Int × List qk)):=
  cond (decide (a.1 < (b.length : Int))) ((idx d c.2.2.1).bind fun f=>(idx b a.1).bind fun g=>(idx d (w64 (c.2.2.1 + 1))).bind fun h=>(idx b a.1).bind fun j=>(app 32 a.2 [({X0:=f,Y0:=g.Lo,X1:=h,Y1:=j.Hi} : qk)]).bind fun k=>some (.inl (w64 (a.1 + 1),k))) (some (.inr (b,(c.2.2.2.length : Int),a.2)))
noncomputable def q1t (b : List Int) (d : List Int) (g : List qk) (h : List qk) (j : Int) (a : List qm × Int × Int × List qk) : Option ((List qm × Int × Int × List qk) ⊕ (List qk)):=
  cond (decide ((w64 (a.2.2.1 + 1)) < (b.length : Int))) (((loop (q2w d b a g h j) (0,[])).bind fun k=>(q2s d k).bind fun f=>(cond (decide (a.2.2.1 > 0)) ((q4k f a.1).bind fun l=>some l) (some false)).bind fun m=>cond m ((loop (q2x b a) (a.2.1,a.2.2.2)).bind fun n=>some (a.1,a.2.1,n)) ((loop (q4m f b a) (0,a.2.2.2)).bind fun o=>some o)).bind fun c=>some (.inl (c.1,c.2.1,w64 (a.2.2.1 + 1),c.2.2))) (some (.inr a.2.2.2))
noncomputable def Zs (c : Int) (a : List qk) (b : List qk) : Option (List qk):=
  (q7v a b).bind fun d=>(q7w a b).bind fun f=>(loop (q1t d f a b c) ([],0,0,[])).bind fun g=>some g
noncomputable def qaz (d : List qk) (f : List qk) (a : Int) : Option ((Int) ⊕ ((Unit) ⊕ (Bool))):=
  cond (decide (a < (d.length : Int))) ((idx d a).bind fun b=>(idx f a).bind fun c=>cond (!((b.X0 == c.X0) && ((b.Y0 == c.Y0) && ((b.X1 == c.X1) && ((b.Y1 == c.Y1) && true))))) (some (.inr (.inr false))) (some (.inl (w64 (a + 1))))) (some (.inr (.inl ())))
noncomputable def q4o (a : List qk) (b : List qk) : Option Bool:=
  cond ((a.length : Int) != (b.length : Int)) (some false) ((loop (qaz a b) 0 : Option ((Unit) ⊕ (Bool))).bind fun c=>(match c with | .inl _=>some true | .inr d=>some d))
noncomputable def q36 (c : List Int) (d : List qk × Int × Int × List qg) (a : Int × List qg) : Option ((Int × List qg) ⊕ (List qg)):=
  cond (decide (a.1 < (a.2.length : Int))) ((idx c (w64 (d.2.2.1 + 1))).bind fun f=>(idx a.2 a.1).bind fun b=>some (.inl (w64 (a.1 + 1),a.2.set a.1.toNat ({Lo:=b.Lo,Hi:=({X:=b.Hi.X,Y:=b.Hi.Y,Z:=f} : qv)} : qg)))) (some (.inr a.2))
noncomputable def q4u (b : List qk) (d : List Int) (c : List qk × Int × Int × List qg) (a : Int × List qg) : Option ((Int × List qg) ⊕ (List qk × Int × List qg)):=
  cond (decide (a.1 < (b.length : Int))) ((idx b a.1).bind fun f=>(idx b a.1).bind fun g=>(idx d c.2.2.1).bind fun h=>(idx b a.1).bind fun j=>(idx b a.1).bind fun k=>(idx d (w64 (c.2.2.1 + 1))).bind fun l=>(app 48 a.2 [({Lo:=({X:=f.X0,Y:=g.Y0,Z:=h} : qv),Hi:=({X:=j.X1,Y:=k.Y1,Z:=l} : qv)} : qg)]).bind fun m=>some (.inl (w64 (a.1 + 1),m))) (some (.inr (b,(c.2.2.2.length : Int),a.2)))
noncomputable def Jc (b : List Int) (f : List qg) (g : List qg) (h : Int) (a : List qk × Int × Int × List qg) : Option ((List qk × Int × Int × List qg) ⊕ ((List qg) ⊕ (List qg × Bool))):=
  cond (decide ((w64 (a.2.2.1 + 1)) < (b.length : Int))) (((idx b a.2.2.1).bind fun j=>(Jb f j).bind fun k=>(idx b a.2.2.1).bind fun l=>(Jb g l).bind fun m=>(Zs h k m).bind fun c=>(cond (decide ((c.length : Int) > 400)) (some true) ((idx b a.2.2.1).bind fun n=>(Jb f n).bind fun o=>(Zs 2 o []).bind fun p=>some (decide ((p.length : Int) > 400)))).bind fun q=>(cond q (some true) ((idx b a.2.2.1).bind fun r=>(Jb g r).bind fun s=>(Zs 2 s []).bind fun t=>some (decide ((t.length : Int) > 400)))).bind fun u=>cond u (some (.inr ([],false))) ((cond (decide (a.2.2.1 > 0)) ((q4o c a.1).bind fun v=>some v) (some false)).bind fun w=>cond w ((loop (q36 b a) (a.2.1,a.2.2.2)).bind fun x=>some (.inl (a.1,a.2.1,x))) ((loop (q4u c b a) (0,a.2.2.2)).bind fun y=>some (.inl y))) : Option ((List qk × Int × List qg) ⊕ (List qg × Bool))).bind fun z=>(match z with | .inl d=>some (.inl (d.1,d.2.1,w64 (a.2.2.1 + 1),d.2.2)) | .inr x1=>some (.inr (.inr x1)))) (some (.inr (.inl a.2.2.2)))
noncomputable def Jn (d : Int) (a : List qg) (b : List qg) : Option (List qg × Bool):=
  (q7x a b).bind fun f=>(loop (Jc f a b d) ([],0,0,[]) : Option ((List qg) ⊕ (List qg × Bool))).bind fun g=>(match g with | .inl c=>some (c,decide ((c.length : Int)≤400)) | .inr h=>some h)
noncomputable def qb4 (d : List qg) (f : List qg) (c : Int) : Option ((Int) ⊕ ((Unit) ⊕ (Bool))):=
  cond (decide (c < (d.length : Int))) ((idx d c).bind fun a=>(idx f c).bind fun b=>cond (!((a.Lo.X == b.Lo.X) && ((a.Lo.Y == b.Lo.Y) && ((a.Lo.Z == b.Lo.Z) && ((a.Hi.X == b.Hi.X) && ((a.Hi.Y == b.Hi.Y) && ((a.Hi.Z == b.Hi.Z) && true))))))) (some (.inr (.inr false))) (some (.inl (w64 (c + 1))))) (some (.inr (.inl ())))
noncomputable def q4v (a : List qg) (b : List qg) : Option Bool:=
  cond ((a.length : Int) != (b.length : Int)) (some false) ((loop (qb4 a b) 0 : Option ((Unit) ⊕ (Bool))).bind fun c=>(match c with | .inl _=>some true | .inr d=>some d))
noncomputable def q4t (b : List qg) (a : Int) : Option ((Int) ⊕ ((Unit) ⊕ (Int))):=
  cond (decide (a < (b.length : Int))) ((idx b a).bind fun c=>(q37 c).bind fun d=>cond (!d) (some (.inr (.inr 8))) (some (.inl (w64 (a + 1))))) (some (.inr (.inl ())))
noncomputable def q1v (a : List qg) : Option Int:=
  cond (decide ((a.length : Int) > 400)) (some 4) ((loop (q4t a) 0 : Option ((Unit) ⊕ (Int))).bind fun c=>(match c with | .inl _=>(Jn 2 a []).bind fun b=>(cond (!b.2) (some true) ((q4v b.1 a).bind fun d=>some (!d))).bind fun f=>cond f (some 8) (some 0) | .inr g=>some g))
noncomputable def qb5 (b : Qv) (a : List (List qg)) : Option (List qg):=
  (idx a (min b.Depth (w64 ((a.length : Int) - 1)))).bind fun c=>some c
noncomputable def q33 (a : qv) (b : qv) : Option qv:=
  some ({X:=w64 (a.X + b.X),Y:=w64 (a.Y + b.Y),Z:=w64 (a.Z + b.Z)} : qv)
noncomputable def q38 (a : qg) (b : qv) : Option qg:=
  (q33 a.Lo b).bind fun c=>(q33 a.Hi b).bind fun d=>some ({Lo:=c,Hi:=d} : qg)
noncomputable def q3b (a : Int) : Option Int:=
  cond (decide (a < 0)) (some (-1)) (cond (decide (a > 0)) (some 1) (some 0))
def Jg (x : qv) : List DV:=[.int .i64 x.X,.int .i64 x.Y,.int .i64 x.Z]
noncomputable def q52 (c : Qv) (d : Int) (f : Int) (g : Int) (a : List qv × Int × Int × Int) : Option ((List qv × Int × Int × Int) ⊕ (List qv)):=
  cond (!((a.2.1 == c.To.X) && ((a.2.2.1 == c.To.Y) && ((a.2.2.2 == c.To.Z) && true)))) ((q33 ({X:=a.2.1,Y:=a.2.2.1,Z:=a.2.2.2} : qv) ({X:=d,Y:=f,Z:=g} : qv)).bind fun b=>(app 24 a.1 [b]).bind fun h=>some (.inl (h,b.X,b.Y,b.Z))) (some (.inr a.1))
noncomputable def q81 (a : Qv) : Option (List qv):=
  (q3b (w64 (a.To.X - a.From.X))).bind fun b=>(q3b (w64 (a.To.Y - a.From.Y))).bind fun c=>(q3b (w64 (a.To.Z - a.From.Z))).bind fun d=>(loop (q52 a b c d) ([a.From],a.From.X,a.From.Y,a.From.Z)).bind fun f=>some f
noncomputable def q55 (b : List qg) (c : Qv) (a : Int) : Option ((Int) ⊕ ((Unit) ⊕ (List qg × Int))):=
  cond (decide (a < (b.length : Int))) ((idx b a).bind fun d=>(q38 d c.From).bind fun f=>(q37 f).bind fun g=>(cond (!g) (some true) ((idx b a).bind fun h=>(q38 h c.To).bind fun j=>(q37 j).bind fun k=>some (!k))).bind fun l=>cond l (some (.inr (.inr ([],16)))) (some (.inl (w64 (a + 1))))) (some (.inr (.inl ())))
noncomputable def q3a (b : List qg) (c : List qv) (d : List qg × Int) (a : Int × List qg) : Option ((Int × List qg) ⊕ (List qg)):=
  cond (decide (a.1 < (b.length : Int))) ((idx b a.1).bind fun f=>(idx c d.2).bind fun g=>(q38 f g).bind fun h=>(app 48 a.2 [h]).bind fun j=>some (.inl (w64 (a.1 + 1),j))) (some (.inr a.2))
noncomputable def q39 (b : List qv) (c : List qg) (a : List qg × Int) : Option ((List qg × Int) ⊕ (List qg)):=
  cond (decide (a.2 < (b.length : Int))) ((loop (q3a c b a) (0,[])).bind fun d=>(Jn 2 a.1 d).bind fun f=>some (.inl (f.1,w64 (a.2 + 1)))) (some (.inr a.1))
noncomputable def q54 (a : Qv) (b : List qg) : Option (List qg × Int):=
  (loop (q55 b a) 0 : Option ((Unit) ⊕ (List qg × Int))).bind fun d=>(match d with | .inl _=>(q81 a).bind fun f=>(loop (q39 f b) ([],0)).bind fun c=>cond (decide ((c.length : Int) > 400)) (some ([],4)) (some (c,0)) | .inr g=>some g)
noncomputable def q4w (b : List (List qg)) (a : Int) : Option ((Int) ⊕ ((Unit) ⊕ (List (List qg) × Int))):=
  cond (decide (a < (b.length : Int))) ((idx b a).bind fun c=>(q1v c).bind fun d=>cond (d != 0) ((idx b a).bind fun f=>(q1v f).bind fun g=>some (.inr (.inr ([],g)))) (some (.inl (w64 (a + 1))))) (some (.inr (.inl ())))
noncomputable def q4x (b : K1) (a : Int) : Option ((Int) ⊕ ((Unit) ⊕ (List (List qg) × Int))):=
  cond (decide (a < (b.Lines.length : Int))) ((idx b.Lines a).bind fun c=>cond (decide (c.Depth < 0)) (some (.inr (.inr ([],2)))) (some (.inl (w64 (a + 1))))) (some (.inr (.inl ())))
noncomputable def q4y (b : K1) (d : List (List qg)) (a : Int × List (List qg)) : Option ((Int × List (List qg)) ⊕ ((List (List qg)) ⊕ (List (List qg) × Int))):=
  cond (decide (a.1 < (b.Lines.length : Int))) ((idx b.Lines a.1).bind fun f=>(idx b.Lines a.1).bind fun g=>(qb5 g d).bind fun h=>(q54 f h).bind fun c=>cond (c.2 != 0) (some (.inr (.inr ([],c.2)))) ((app 24 a.2 [c.1]).bind fun j=>some (.inl (w64 (a.1 + 1),j)))) (some (.inr (.inl a.2)))
noncomputable def q7z (a : K1) (c : List (List qg)) : Option (List (List qg) × Int):=
  (q1u a).bind fun d=>cond (d != 0) ((q1u a).bind fun f=>some ([],f)) (cond (decide ((c.length : Int) > 20)) (some ([],4)) ((loop (q4w c) 0 : Option ((Unit) ⊕ (List (List qg) × Int))).bind fun g=>(match g with | .inl _=>(cond (decide ((a.Lines.length : Int) > 0)) (some ((c.length : Int) == 0)) (some false)).bind fun h=>cond h (some ([],6)) ((loop (q4x a) 0 : Option ((Unit) ⊕ (List (List qg) × Int))).bind fun j=>(match j with | .inl _=>(loop (q4y a c) (0,[]) : Option ((List (List qg)) ⊕ (List (List qg) × Int))).bind fun k=>(match k with | .inl l=>some (l,0) | .inr b=>some b) | .inr b=>some b)) | .inr b=>some b)))
noncomputable def q53 (b : List (List qg)) (c : List (List qg)) (a : Int) : Option ((Int) ⊕ ((Unit) ⊕ (Bool))):=
  cond (decide (a < (b.length : Int))) ((idx b a).bind fun d=>(idx c a).bind fun f=>(q4v d f).bind fun g=>cond (!g) (some (.inr (.inr false))) (some (.inl (w64 (a + 1))))) (some (.inr (.inl ())))
noncomputable def q82 (a : List (List qg)) (b : List (List qg)) : Option Bool:=
  cond ((a.length : Int) != (b.length : Int)) (some false) ((loop (q53 a b) 0 : Option ((Unit) ⊕ (Bool))).bind fun c=>(match c with | .inl _=>some true | .inr d=>some d))
noncomputable def q9j (a : Qv) (b : List qg) : Option (List qg × Int):=
  (q3y ({Lines:=[a],Marks:=[],End:=({Frame:=({Turn:=0,At:=({X:=0,Y:=0,Z:=0} : qv)} : Ys),Drawn:=0} : q42)} : K1)).bind fun c=>cond (c.2 != 0) (some ([],c.2)) ((q6c b).bind fun d=>cond (d != 0) (some ([],d)) ((q6m a b).bind fun f=>some (f.1,f.2)))
noncomputable def q80 (a : Qv) : Option K1:=
  some ({Lines:=[a],Marks:=[],End:=({Frame:=({Turn:=0,At:=({X:=0,Y:=0,Z:=0} : qv)} : Ys),Drawn:=0} : q42)} : K1)
noncomputable def q7y (a : Qv) (b : List qg) : Option (List qg × Int):=
  (q80 a).bind fun d=>(q1u d).bind fun f=>cond (f != 0) ((q80 a).bind fun g=>(q1u g).bind fun h=>some ([],h)) ((q1v b).bind fun j=>cond (j != 0) ((q1v b).bind fun k=>some ([],k)) ((q54 a b).bind fun c=>some (c.1,c.2)))
noncomputable def qak (a : K1) (b : List (List qg)) : Option Bool:=
  (q4z a b).bind fun h=>cond h (some true) ((q9k a b).bind fun c=>(q7z a b).bind fun d=>(q82 c.1 d.1).bind fun j=>(cond (!j) (some true) (some (c.2 != d.2))).bind fun k=>cond k (some false) ((cond ((a.Lines.length : Int) == 0) (some true) (some ((b.length : Int) == 0))).bind fun l=>cond l (some true) ((idx a.Lines 0).bind fun m=>(idx b 0).bind fun n=>(q9j m n).bind fun f=>(idx a.Lines 0).bind fun o=>(idx b 0).bind fun p=>(q7y o p).bind fun g=>(q4v f.1 g.1).bind fun q=>(cond q (some (f.2 == g.2)) (some false)).bind fun r=>some r)))
noncomputable def q3s (b : List qm) (a : Int) : Option ((Int) ⊕ ((Unit) ⊕ (Int))):=
  cond (decide (a < (b.length : Int))) ((idx b a).bind fun c=>(q2a c).bind fun d=>(cond (!d) (some true) ((cond (decide (a > 0)) ((idx b (w64 (a - 1))).bind fun f=>some (decide (f.Hi ≥ c.Lo))) (some false)).bind fun g=>some g)).bind fun h=>cond h (some (.inr (.inr 8))) (some (.inl (w64 (a + 1))))) (some (.inr (.inl ())))
noncomputable def qbp (a : List qm) : Option Int:=
  cond (decide ((a.length : Int) > 400)) (some 4) ((loop (q3s a) 0 : Option ((Unit) ⊕ (Int))).bind fun b=>(match b with | .inl _=>some 0 | .inr c=>some c))
noncomputable def qh8 (a : Int) : Option qv:=
  cond ((IntKind.wrap .u8 (Int.tdiv a 2)) == 0) (some ({X:=w64 (1 - (w64 (2 * (w64 (Int.tmod a 2))))),Y:=0,Z:=0} : qv)) (cond ((IntKind.wrap .u8 (Int.tdiv a 2)) == 1) (some ({X:=0,Y:=w64 (1 - (w64 (2 * (w64 (Int.tmod a 2))))),Z:=0} : qv)) (some ({X:=0,Y:=0,Z:=w64 (1 - (w64 (2 * (w64 (Int.tmod a 2)))))} : qv)))
noncomputable def qof (a : qv) (b : qv) : Option qv:=
  some ({X:=w64 ((w64 (a.Y * b.Z)) - (w64 (a.Z * b.Y))),Y:=w64 ((w64 (a.Z * b.X)) - (w64 (a.X * b.Z))),Z:=w64 ((w64 (a.X * b.Y)) - (w64 (a.Y * b.X)))} : qv)
noncomputable def qoe (a : Int) : Option (qv × qv × qv):=
  (cond (decide ((Int.tmod a 4) ≥ (IntKind.wrap .u8 ((IntKind.wrap .u8 (Int.tdiv (IntKind.wrap .u8 (Int.tdiv a 4)) 2)) * 2)))) (some (IntKind.wrap .u8 ((Int.tmod a 4) + 2))) (some (Int.tmod a 4))).bind fun d=>(qh8 (IntKind.wrap .u8 (Int.tdiv a 4))).bind fun b=>(qh8 d).bind fun c=>(qof b c).bind fun f=>some (b,c,f)
noncomputable def qj9 (a : qm) : Option Bool:=
  (cond (decide (a.Lo < a.Hi)) (some (decide (a.Lo ≥ (-1000000)))) (some false)).bind fun b=>(cond b (some (decide (a.Hi≤1000000))) (some false)).bind fun c=>some c
noncomputable def qe9 (b : List qm) (a : Int) : Option ((Int) ⊕ ((Unit) ⊕ (Int))):=
  cond (decide (a < (b.length : Int))) ((idx b a).bind fun c=>(qj9 c).bind fun d=>(cond (!d) (some true) ((cond (decide (a > 0)) ((idx b (w64 (a - 1))).bind fun f=>(idx b a).bind fun g=>some (decide (f.Hi ≥ g.Lo))) (some false)).bind fun h=>some h)).bind fun j=>cond j (some (.inr (.inr 8))) (some (.inl (w64 (a + 1))))) (some (.inr (.inl ())))
noncomputable def qav (a : List qm) : Option Int:=
  cond (decide ((a.length : Int) > 400)) (some 4) ((loop (qe9 a) 0 : Option ((Unit) ⊕ (Int))).bind fun b=>(match b with | .inl _=>some 0 | .inr c=>some c))
noncomputable def q7r (b : List qm) (a : Int × List Int) : Option ((Int × List Int) ⊕ (List Int)):=
  cond (decide (a.1 < (b.length : Int))) ((idx b a.1).bind fun c=>(idx b a.1).bind fun d=>(app 8 a.2 [c.Lo,d.Hi]).bind fun f=>some (.inl (w64 (a.1 + 1),f))) (some (.inr a.2))
noncomputable def qj6 (b : List qm) (a : Int × List Int) : Option ((Int × List Int) ⊕ (List Int)):=
  cond (decide (a.1 < (b.length : Int))) ((idx b a.1).bind fun c=>(idx b a.1).bind fun d=>(app 8 a.2 [c.Lo,d.Hi]).bind fun f=>some (.inl (w64 (a.1 + 1),f))) (some (.inr a.2))
noncomputable def qea (a : List qm) (b : List qm) : Option (List Int):=
  (loop (q7r a) (0,[])).bind fun c=>(loop (qj6 b) (0,c)).bind fun d=>(Ja d).bind fun f=>some f
noncomputable def q7s (b : List qm) (c : Int) (a : Int) : Option ((Int) ⊕ ((Unit) ⊕ (Bool))):=
  cond (decide (a < (b.length : Int))) ((idx b a).bind fun d=>(cond (decide (d.Lo≤c)) ((idx b a).bind fun f=>some (decide (c < f.Hi))) (some false)).bind fun g=>cond g (some (.inr (.inr true))) (some (.inl (w64 (a + 1))))) (some (.inr (.inl ())))
noncomputable def qaw (a : List qm) (b : Int) : Option Bool:=
  (loop (q7s a b) 0 : Option ((Unit) ⊕ (Bool))).bind fun c=>(match c with | .inl _=>some false | .inr d=>some d)
noncomputable def q7t (b : List Int) (c : List qm) (d : List qm) (f : Int) (a : Int × List Bool) : Option ((Int × List Bool) ⊕ (List Bool)):=
  cond (decide (a.1 < (b.length : Int))) ((idx b a.1).bind fun g=>(qaw c g).bind fun h=>(idx b a.1).bind fun j=>(qaw d j).bind fun k=>(q4j f h k).bind fun l=>(app 1 a.2 [l]).bind fun m=>some (.inl (w64 (a.1 + 1),m))) (some (.inr a.2))
noncomputable def qax (d : Int) (a : List qm) (b : List qm) : Option (List qm):=
  (qea a b).bind fun c=>(loop (q7t c a b d) (0,[])).bind fun f=>(q2s c f).bind fun g=>some g
noncomputable def q9a (b : List qm) (a : Int × Int) : Option ((Int × Int) ⊕ (Int)):=
  cond (decide (a.2 < (b.length : Int))) ((idx b a.2).bind fun c=>some (.inl (w64 (a.1 + (w64 (c.Hi - c.Lo))),w64 (a.2 + 1)))) (some (.inr a.1))
noncomputable def qkw (a : List qm) : Option (Int × Int):=
  (qbp a).bind fun b=>cond (b != 0) (some (0,b)) ((loop (q9a a) (0,0)).bind fun c=>some (c,0))
noncomputable def q7u (b : List qm) (a : Int × Int) : Option ((Int × Int) ⊕ (Int)):=
  cond (decide (a.2 < (b.length : Int))) ((idx b a.2).bind fun c=>(idx b a.2).bind fun d=>some (.inl (w64 ((w64 (a.1 + c.Hi)) - d.Lo),w64 (a.2 + 1)))) (some (.inr a.1))
noncomputable def qj8 (a : List qm) : Option (Int × Int):=
  (qav a).bind fun b=>cond (b != 0) ((qav a).bind fun c=>some (0,c)) ((loop (q7u a) (0,0)).bind fun d=>some (d,0))
structure qfg where
  Frame : Ys
  Size : qv
  deriving DecidableEq
structure qze where
  t_ : Int
  at_ : qv
  flat_ : qv
  deriving DecidableEq
end Go.Sh
