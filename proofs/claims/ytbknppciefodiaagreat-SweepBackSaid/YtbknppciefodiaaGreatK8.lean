/- PX -/
import Derived.Test.YtbknppciefodiaaGreatK7
namespace Go.Sh
open Go Go.Am
structure Qa where
  X : Int
  Y : Int
  Z : Int
  deriving DecidableEq
structure Qy where
  From : Qa
  To : Qa
  Depth : Int
  deriving DecidableEq
structure Kl where
  Turn : Int
  At : Qa
  deriving DecidableEq
structure Z2 where
  Name : Int
  Frame : Kl
  deriving DecidableEq
structure Yi where
  Frame : Kl
  Drawn : Int
  deriving DecidableEq
structure Qp where
  Lines : List Qy
  Marks : List Z2
  End : Yi
  deriving DecidableEq
def Kb (x : Qy) : List DV:=[.int .i64 x.From.X,.int .i64 x.From.Y,.int .i64 x.From.Z,.int .i64 x.To.X,.int .i64 x.To.Y,.int .i64 x.To.Z,.int .i64 x.Depth]
def Km (x : Z2) : List DV:=[.int .u8 x.Name,.int .u8 x.Frame.Turn,.int .i64 x.Frame.At.X,.int .i64 x.Frame.At.Y,.int .i64 x.Frame.At.Z]
structure qg where
  Lo : Qa
  Hi : Qa
  deriving DecidableEq
def Qg (x : qg) : List DV:=[.int .i64 x.Lo.X,.int .i64 x.Lo.Y,.int .i64 x.Lo.Z,.int .i64 x.Hi.X,.int .i64 x.Hi.Y,.int .i64 x.Hi.Z]
def Qq (x : List qg) : List DV:=[.sl 6 (x.map Qg)]
noncomputable def J7 (a : Qa) (b : Int) : Option Bool:=
  (cond (decide (a.X ≥ b)) (some (decide (a.Y ≥ b))) (some false)).bind fun c=>(cond c (some (decide (a.Z ≥ b))) (some false)).bind fun d=>(cond d (some (decide (a.X≤1000000))) (some false)).bind fun f=>(cond f (some (decide (a.Y≤1000000))) (some false)).bind fun g=>(cond g (some (decide (a.Z≤1000000))) (some false)).bind fun h=>some h
noncomputable def q6a (d : Qp) (c : Int) : Option ((Int) ⊕ ((Unit) ⊕ (Bool))):=
  cond (decide (c < (d.Lines.length : Int))) ((idx d.Lines c).bind fun a=>(idx d.Lines c).bind fun b=>(J7 a.From (-2000000)).bind fun f=>(cond (!f) (some true) ((J7 b.To (-2000000)).bind fun g=>some (!g))).bind fun h=>(cond h (some true) (some (decide ((max (max (max (max (max (w64 (a.From.X - b.To.X)) (w64 (b.To.X - a.From.X))) (w64 (a.From.Y - b.To.Y))) (w64 (b.To.Y - a.From.Y))) (w64 (a.From.Z - b.To.Z))) (w64 (b.To.Z - a.From.Z))) > 30)))).bind fun j=>cond j (some (.inr (.inr true))) (some (.inl (w64 (c + 1))))) (some (.inr (.inl ())))
noncomputable def q6b (b : List (List qg)) (a : Int) : Option ((Int) ⊕ ((Unit) ⊕ (Bool))):=
  cond (decide (a < (b.length : Int))) ((idx b a).bind fun c=>cond (decide ((c.length : Int) > 5)) (some (.inr (.inr true))) (some (.inl (w64 (a + 1))))) (some (.inr (.inl ())))
noncomputable def q69 (a : Qp) (c : List (List qg)) : Option Bool:=
  (cond (decide ((a.Lines.length : Int) > 12)) (some true) (some (decide ((a.Marks.length : Int) > 50)))).bind fun d=>(cond d (some true) (some (decide ((c.length : Int) > 25)))).bind fun f=>cond f (some true) ((loop (q6a a) 0 : Option ((Unit) ⊕ (Bool))).bind fun g=>(match g with | .inl _=>(loop (q6b c) 0 : Option ((Unit) ⊕ (Bool))).bind fun h=>(match h with | .inl _=>some false | .inr b=>some b) | .inr b=>some b))
noncomputable def q6u (b : List Qy) (c : Qy→Option Bool) (a : Int) : Option ((Int) ⊕ ((Unit) ⊕ (Int))):=
  cond (decide (a < (b.length : Int))) ((idx b a).bind fun d=>(c d).bind fun f=>cond f (some (.inr (.inr a))) (some (.inl (w64 (a + 1))))) (some (.inr (.inl ())))
noncomputable def qd8 (a : List Qy) (b : Qy→Option Bool) : Option Int:=
  (loop (q6u a b) 0 : Option ((Unit) ⊕ (Int))).bind fun c=>(match c with | .inl _=>some (-1) | .inr d=>some d)
noncomputable def q6s (a : List Qy) (b : Qy→Option Bool) : Option Bool:=
  (qd8 a b).bind fun c=>some (decide (c ≥ 0))
noncomputable def qbe (a : Qa) : Option Bool:=
  (cond (decide ((min (min a.X a.Y) a.Z) ≥ (-1000000))) (some (decide ((max (max a.X a.Y) a.Z)≤1000000))) (some false)).bind fun b=>some b
noncomputable def q1a (a : Qy) (b : Int × Int) : Option ((Int × Int) ⊕ (Int)):=
  cond (decide (b.2 < 3)) (((idxA 3 [w64 (a.To.X - a.From.X),w64 (a.To.Y - a.From.Y),w64 (a.To.Z - a.From.Z)] b.2).bind fun c=>cond (c == 0) (some (w64 (b.1 + 1))) (some b.1)).bind fun d=>some (.inl (d,w64 (b.2 + 1)))) (some (.inr b.1))
noncomputable def q8a (a : Qy) : Option Bool:=
  (loop (q1a a) (0,0)).bind fun b=>(qbe a.From).bind fun c=>(cond (!c) (some true) ((qbe a.To).bind fun d=>some (!d))).bind fun f=>(cond f (some true) (some (decide (b < 2)))).bind fun g=>some g
noncomputable def q6v (b : List Z2) (c : Z2→Option Bool) (a : Int) : Option ((Int) ⊕ ((Unit) ⊕ (Int))):=
  cond (decide (a < (b.length : Int))) ((idx b a).bind fun d=>(c d).bind fun f=>cond f (some (.inr (.inr a))) (some (.inl (w64 (a + 1))))) (some (.inr (.inl ())))
noncomputable def qd9 (a : List Z2) (b : Z2→Option Bool) : Option Int:=
  (loop (q6v a b) 0 : Option ((Unit) ⊕ (Int))).bind fun c=>(match c with | .inl _=>some (-1) | .inr d=>some d)
noncomputable def q9q (a : List Z2) (b : Z2→Option Bool) : Option Bool:=
  (qd9 a b).bind fun c=>some (decide (c ≥ 0))
noncomputable def q8y (a : Qa) (b : Int) : Option Bool:=
  (cond (decide ((min (min a.X a.Y) a.Z) ≥ b)) (some (decide ((max (max a.X a.Y) a.Z)≤1000000))) (some false)).bind fun c=>some c
noncomputable def q5f (a : Kl) : Option Int:=
  (cond (decide (a.Turn ≥ 24)) (some true) ((q8y a.At (-1000000)).bind fun b=>some (!b))).bind fun c=>cond c (some 8) (some 0)
noncomputable def q8b (a : Z2) : Option Bool:=
  (q5f a.Frame).bind fun b=>some (b != 0)
noncomputable def qbd (a : Qp) : Option Int:=
  (q6s a.Lines (fun b=>q8a b)).bind fun c=>(q9q a.Marks (fun b=>q8b b)).bind fun d=>(cond c (some true) (some d)).bind fun f=>(cond f (some true) ((q5f a.End.Frame).bind fun g=>some (g != 0))).bind fun h=>(cond h (some true) (some (decide ((max (a.Lines.length : Int) (a.Marks.length : Int)) > 2000)))).bind fun j=>cond j (some 8) (some 0)
noncomputable def q8c (a : Int) : Option Int:=
  some (max a (w64 (0 - a)))
noncomputable def q89 (c : Qp) (b : Int × Int) : Option ((Int × Int) ⊕ (Int)):=
  cond (decide (b.2 < (c.Lines.length : Int))) ((idx c.Lines b.2).bind fun a=>(q8c (w64 (a.To.X - a.From.X))).bind fun d=>(q8c (w64 (a.To.Y - a.From.Y))).bind fun f=>(q8c (w64 (a.To.Z - a.From.Z))).bind fun g=>some (.inl (w64 (b.1 + (w64 ((w64 (d + f)) + g))),w64 (b.2 + 1)))) (some (.inr b.1))
noncomputable def q54 (a : Qp) : Option (Int × Int):=
  (qbd a).bind fun b=>cond (b != 0) (some (0,b)) ((loop (q89 a) (0,0)).bind fun c=>some (c,0))
noncomputable def q17 (b : List qg) (c : qg→Option Bool) (a : Int) : Option ((Int) ⊕ ((Unit) ⊕ (Int))):=
  cond (decide (a < (b.length : Int))) ((idx b a).bind fun d=>(c d).bind fun f=>cond f (some (.inr (.inr a))) (some (.inl (w64 (a + 1))))) (some (.inr (.inl ())))
noncomputable def q9v (a : List qg) (b : qg→Option Bool) : Option Int:=
  (loop (q17 a b) 0 : Option ((Unit) ⊕ (Int))).bind fun c=>(match c with | .inl _=>some (-1) | .inr d=>some d)
noncomputable def q20 (a : List qg) (b : qg→Option Bool) : Option Bool:=
  (q9v a b).bind fun c=>some (decide (c ≥ 0))
noncomputable def q7x (a : Qa) : Option Bool:=
  (cond (decide ((min (min a.X a.Y) a.Z) ≥ (-1000000))) (some (decide ((max (max a.X a.Y) a.Z)≤1000000))) (some false)).bind fun b=>some b
noncomputable def q7y (a : qg) : Option Bool:=
  (cond (decide (a.Lo.X < a.Hi.X)) (some (decide (a.Lo.Y < a.Hi.Y))) (some false)).bind fun b=>(cond b (some (decide (a.Lo.Z < a.Hi.Z))) (some false)).bind fun c=>(cond c ((q7x a.Lo).bind fun d=>some d) (some false)).bind fun f=>(cond f ((q7x a.Hi).bind fun g=>some g) (some false)).bind fun h=>some h
noncomputable def q3d (a : qg) : Option Bool:=
  (q7y a).bind fun b=>some (!b)
def qdn : ByteArray:=⟨#[0,1,2,2,3,3,3,3,4,4,4,4,4,4,4,4,5,5,5,5,5,5,5,5,5,5,5,5,5,5,5,5,6,6,6,6,6,6,6,6,6,6,6,6,6,6,6,6,6,6,6,6,6,6,6,6,6,6,6,6,6,6,6,6,7,7,7,7,7,7,7,7,7,7,7,7,7,7,7,7,7,7,7,7,7,7,7,7,7,7,7,7,7,7,7,7,7,7,7,7,7,7,7,7,7,7,7,7,7,7,7,7,7,7,7,7,7,7,7,7,7,7,7,7,7,7,7,7,8,8,8,8,8,8,8,8,8,8,8,8,8,8,8,8,8,8,8,8,8,8,8,8,8,8,8,8,8,8,8,8,8,8,8,8,8,8,8,8,8,8,8,8,8,8,8,8,8,8,8,8,8,8,8,8,8,8,8,8,8,8,8,8,8,8,8,8,8,8,8,8,8,8,8,8,8,8,8,8,8,8,8,8,8,8,8,8,8,8,8,8,8,8,8,8,8,8,8,8,8,8,8,8,8,8,8,8,8,8,8,8,8,8,8,8,8,8,8,8,8,8,8,8,8,8,8,8]⟩
noncomputable def q2v (c : Int) : Option Int:=
  (cond (decide (c ≥ 4294967296)) (some (Int.fdiv c (2 ^ 32),32)) (some (c,0))).bind fun a=>(cond (decide (a.1 ≥ 65536)) (some (Int.fdiv a.1 (2 ^ 16),w64 (a.2 + 16))) (some (a.1,a.2))).bind fun b=>(cond (decide (b.1 ≥ 256)) (some (Int.fdiv b.1 (2 ^ 8),w64 (b.2 + 8))) (some (b.1,b.2))).bind fun d=>(q4x qdn (IntKind.wrap .u8 d.1)).bind fun f=>some (w64 (d.2 + (w64 f)))
noncomputable def q14 (a : Int) : Option Int:=
  (q2v a).bind fun b=>some b
noncomputable def q8m (a : Int) : Option Bool:=
  some (a != a)
noncomputable def Zc (a : Int) (b : Int) : Option Bool:=
  (q8m a).bind fun c=>(cond c ((q8m b).bind fun d=>some (!d)) (some false)).bind fun f=>(cond f (some true) (some (decide (a < b)))).bind fun g=>some g
noncomputable def q75 (c : Int) (a : Int × List Int) : Option ((Int × List Int) ⊕ (List Int)):=
  (cond (decide (a.1 > c)) ((idx a.2 a.1).bind fun d=>(idx a.2 (w64 (a.1 - 1))).bind fun f=>(Zc d f).bind fun g=>some g) (some false)).bind fun h=>cond h ((idx a.2 (w64 (a.1 - 1))).bind fun b=>(idx a.2 a.1).bind fun j=>(idx a.2 a.1).bind fun _=>(idx (a.2.set a.1.toNat b) (w64 (a.1 - 1))).bind fun _=>some (.inl (w64 (a.1 - 1),(a.2.set a.1.toNat b).set (w64 (a.1 - 1)).toNat j))) (some (.inr a.2))
noncomputable def q74 (b : Int) (c : Int) (a : Int × List Int) : Option ((Int × List Int) ⊕ (List Int)):=
  cond (decide (a.1 < b)) (((loop (q75 c) (a.1,a.2)).bind fun d=>some d).bind fun f=>some (.inl (w64 (a.1 + 1),f))) (some (.inr a.2))
noncomputable def q73 (b : List Int) (a : Int) (c : Int) : Option (List Int):=
  (loop (q74 c a) (w64 (a + 1),b)).bind fun d=>some d
noncomputable def q7r (d : Int) (b : Int) (a : Int × List Int) : Option ((Int × List Int) ⊕ (List Int)):=
  cond (decide ((w64 ((w64 (2 * a.1)) + 1)) ≥ d)) (some (.inr a.2)) ((cond (decide ((w64 ((w64 ((w64 (2 * a.1)) + 1)) + 1)) < d)) ((idx a.2 (w64 (b + (w64 ((w64 (2 * a.1)) + 1))))).bind fun g=>(idx a.2 (w64 ((w64 (b + (w64 ((w64 (2 * a.1)) + 1)))) + 1))).bind fun h=>(Zc g h).bind fun j=>some j) (some false)).bind fun k=>(cond k (some (w64 ((w64 ((w64 (2 * a.1)) + 1)) + 1))) (some (w64 ((w64 (2 * a.1)) + 1)))).bind fun c=>(idx a.2 (w64 (b + a.1))).bind fun l=>(idx a.2 (w64 (b + c))).bind fun m=>(Zc l m).bind fun n=>cond (!n) (some (.inr a.2)) ((idx a.2 (w64 (b + c))).bind fun f=>(idx a.2 (w64 (b + a.1))).bind fun o=>(idx a.2 (w64 (b + a.1))).bind fun _=>(idx (a.2.set (w64 (b + a.1)).toNat f) (w64 (b + c))).bind fun _=>some (.inl (c,(a.2.set (w64 (b + a.1)).toNat f).set (w64 (b + c)).toNat o))))
noncomputable def q4s (a : List Int) (b : Int) (c : Int) (d : Int) : Option (List Int):=
  (loop (q7r c d) (b,a)).bind fun f=>some f
noncomputable def q71 (d : Int) (b : Int) (a : Int × List Int) : Option ((Int × List Int) ⊕ (List Int)):=
  cond (decide (a.1 ≥ 0)) ((q4s a.2 a.1 (w64 (d - b)) b).bind fun c=>(K3 c.length a.2.length).bind fun _=>some (.inl (w64 (a.1 - 1),c))) (some (.inr a.2))
noncomputable def q72 (b : Int) (a : Int × List Int) : Option ((Int × List Int) ⊕ (List Int)):=
  cond (decide (a.1 ≥ 0)) ((idx a.2 (w64 (b + a.1))).bind fun c=>(idx a.2 b).bind fun d=>(idx a.2 b).bind fun _=>(idx (a.2.set b.toNat c) (w64 (b + a.1))).bind fun _=>(q4s ((a.2.set b.toNat c).set (w64 (b + a.1)).toNat d) 0 a.1 b).bind fun f=>(K3 f.length ((a.2.set b.toNat c).set (w64 (b + a.1)).toNat d).length).bind fun _=>some (.inl (w64 (a.1 - 1),f))) (some (.inr a.2))
noncomputable def q70 (c : List Int) (a : Int) (b : Int) : Option (List Int):=
  (loop (q71 b a) (w64 (Int.tdiv (w64 ((w64 (b - a)) - 1)) 2),c)).bind fun d=>(loop (q72 a) (w64 ((w64 (b - a)) - 1),d)).bind fun f=>some f
noncomputable def q3c (c : List Int) (a : Int) (b : Int) (d : Int) : Option (Int × Int × Int):=
  (idx c b).bind fun f=>(idx c a).bind fun g=>(Zc f g).bind fun h=>cond h (some (b,a,w64 (d + 1))) (some (a,b,d))
noncomputable def q4m (a : List Int) (f : Int) (g : Int) (h : Int) (j : Int) : Option (Int × Int):=
  (q3c a f g j).bind fun b=>(q3c a b.2.1 h b.2.2).bind fun c=>(q3c a b.1 c.1 c.2.2).bind fun d=>some (d.2.1,d.2.2)
noncomputable def q3b (c : List Int) (a : Int) (d : Int) : Option (Int × Int):=
  (q4m c (w64 (a - 1)) a (w64 (a + 1)) d).bind fun b=>some (b.1,b.2)
noncomputable def q6z (d : List Int) (a : Int) (b : Int) : Option (Int × Int):=
  (cond (decide ((w64 (b - a)) ≥ 8)) ((cond (decide ((w64 (b - a)) ≥ 50)) ((q3b d (w64 (a + (w64 ((w64 (Int.tdiv (w64 (b - a)) 4)) * 1)))) 0).bind fun g=>(q3b d (w64 (a + (w64 ((w64 (Int.tdiv (w64 (b - a)) 4)) * 2)))) g.2).bind fun h=>(q3b d (w64 (a + (w64 ((w64 (Int.tdiv (w64 (b - a)) 4)) * 3)))) h.2).bind fun j=>some (g.1,h.1,j.1,j.2)) (some (w64 (a + (w64 ((w64 (Int.tdiv (w64 (b - a)) 4)) * 1))),w64 (a + (w64 ((w64 (Int.tdiv (w64 (b - a)) 4)) * 2))),w64 (a + (w64 ((w64 (Int.tdiv (w64 (b - a)) 4)) * 3))),0))).bind fun f=>(q4m d f.1 f.2.1 f.2.2.1 f.2.2.2).bind fun k=>some (k.1,k.2)) (some (w64 (a + (w64 ((w64 (Int.tdiv (w64 (b - a)) 4)) * 2))),0))).bind fun c=>cond (c.2 == 0) (some (c.1,1)) (cond (c.2 == 12) (some (c.1,2)) (some (c.1,0)))
noncomputable def qam (a : Int × Int × List Int) : Option ((Int × Int × List Int) ⊕ (List Int)):=
  cond (decide (a.1 < a.2.1)) ((idx a.2.2 a.2.1).bind fun b=>(idx a.2.2 a.1).bind fun c=>(idx a.2.2 a.1).bind fun _=>(idx (a.2.2.set a.1.toNat b) a.2.1).bind fun _=>some (.inl (w64 (a.1 + 1),w64 (a.2.1 - 1),(a.2.2.set a.1.toNat b).set a.2.1.toNat c))) (some (.inr a.2.2))
noncomputable def q7p (a : List Int) (b : Int) (c : Int) : Option (List Int):=
  (loop qam (b,w64 (c - 1),a)).bind fun d=>some d
noncomputable def q79 (c : Int) (b : Int × Int × List Int) (a : Int) : Option ((Int) ⊕ (Int)):=
  (cond (decide (a < c)) ((idx b.2.2 a).bind fun d=>(idx b.2.2 (w64 (a - 1))).bind fun f=>(Zc d f).bind fun g=>some (!g)) (some false)).bind fun h=>cond h (some (.inl (w64 (a + 1)))) (some (.inr a))
noncomputable def qa9 (a : Int × List Int) : Option ((Int × List Int) ⊕ (List Int)):=
  cond (decide (a.1 ≥ 1)) ((idx a.2 a.1).bind fun c=>(idx a.2 (w64 (a.1 - 1))).bind fun d=>(Zc c d).bind fun f=>cond (!f) (some (.inr a.2)) ((idx a.2 (w64 (a.1 - 1))).bind fun b=>(idx a.2 a.1).bind fun g=>(idx a.2 a.1).bind fun _=>(idx (a.2.set a.1.toNat b) (w64 (a.1 - 1))).bind fun _=>some (.inl (w64 (a.1 - 1),(a.2.set a.1.toNat b).set (w64 (a.1 - 1)).toNat g)))) (some (.inr a.2))
noncomputable def q7a (d : Int) (b : Int) (a : Int × List Int) : Option ((Int × List Int) ⊕ (Int × List Int)):=
  cond (decide (a.1 < d)) ((idx a.2 a.1).bind fun f=>(idx a.2 (w64 (a.1 - 1))).bind fun g=>(Zc f g).bind fun h=>cond (!h) (some (.inr (b,a.2))) ((idx a.2 (w64 (a.1 - 1))).bind fun c=>(idx a.2 a.1).bind fun j=>(idx a.2 a.1).bind fun _=>(idx (a.2.set a.1.toNat c) (w64 (a.1 - 1))).bind fun _=>some (.inl (w64 (a.1 + 1),(a.2.set a.1.toNat c).set (w64 (a.1 - 1)).toNat j)))) (some (.inr (b,a.2)))
noncomputable def q4p (c : Int) (g : Int) (b : Int × Int × List Int) : Option ((Int × Int × List Int) ⊕ ((List Int) ⊕ (Bool × List Int))):=
  cond (decide (b.2.1 < 5)) (((loop (q79 c b) b.1).bind fun a=>cond (a == c) (some (.inr (true,b.2.2))) (cond (decide ((w64 (c - g)) < 50)) (some (.inr (false,b.2.2))) ((idx b.2.2 (w64 (a - 1))).bind fun d=>(idx b.2.2 a).bind fun h=>(idx b.2.2 a).bind fun _=>(idx (b.2.2.set a.toNat d) (w64 (a - 1))).bind fun _=>(cond (decide ((w64 (a - g)) ≥ 2)) ((loop qa9 (w64 (a - 1),(b.2.2.set a.toNat d).set (w64 (a - 1)).toNat h)).bind fun f=>some f) (some ((b.2.2.set a.toNat d).set (w64 (a - 1)).toNat h))).bind fun j=>cond (decide ((w64 (c - a)) ≥ 2)) ((loop (q7a c a) (w64 (a + 1),j)).bind fun f=>some (.inl f)) (some (.inl (a,j))))) : Option ((Int × List Int) ⊕ (Bool × List Int))).bind fun l=>(match l with | .inl k=>some (.inl (k.1,w64 (b.2.1 + 1),k.2)) | .inr m=>some (.inr (.inr m)))) (some (.inr (.inl b.2.2)))
noncomputable def q4o (b : List Int) (a : Int) (c : Int) : Option (Bool × List Int):=
  (loop (q4p c a) (w64 (a + 1),0,b) : Option ((List Int) ⊕ (Bool × List Int))).bind fun d=>(match d with | .inl f=>some (false,f) | .inr g=>some g)
noncomputable def q7d (b : Int × Int × List Int) (c : Int) (a : Int) : Option ((Int) ⊕ (Int)):=
  (cond (decide (a≤b.2.1)) ((idx b.2.2 c).bind fun d=>(idx b.2.2 a).bind fun f=>(Zc d f).bind fun g=>some (!g)) (some false)).bind fun h=>cond h (some (.inl (w64 (a + 1)))) (some (.inr a))
noncomputable def q7e (c : Int) (b : Int × Int × List Int) (d : Int) (a : Int) : Option ((Int) ⊕ (Int)):=
  (cond (decide (c≤a)) ((idx b.2.2 d).bind fun f=>(idx b.2.2 a).bind fun g=>(Zc f g).bind fun h=>some h) (some false)).bind fun j=>cond j (some (.inl (w64 (a - 1)))) (some (.inr a))
noncomputable def q7c (d : Int) (a : Int × Int × List Int) : Option ((Int × Int × List Int) ⊕ (Int × List Int)):=
  (loop (q7d a d) a.1).bind fun b=>(loop (q7e b a d) a.2.1).bind fun c=>cond (decide (b > c)) (some (.inr (b,a.2.2))) ((idx a.2.2 c).bind fun f=>(idx a.2.2 b).bind fun g=>(idx a.2.2 b).bind fun _=>(idx (a.2.2.set b.toNat f) c).bind fun _=>some (.inl (w64 (b + 1),w64 (c - 1),(a.2.2.set b.toNat f).set c.toNat g)))
noncomputable def q7b (b : List Int) (a : Int) (g : Int) (c : Int) : Option (Int × List Int):=
  (idx b c).bind fun d=>(idx b a).bind fun h=>(idx b a).bind fun _=>(idx (b.set a.toNat d) c).bind fun _=>(loop (q7c a) (w64 (a + 1),w64 (g - 1),(b.set a.toNat d).set c.toNat h)).bind fun f=>some (f.1,f.2)
noncomputable def q7g (h : Int) (c : List Int) (b : Int) (d : Int) (f : Int) (g : Int) (a : Int) : Option ((Int) ⊕ (Int)):=
  (cond (decide (a≤(w64 (h - 1)))) ((idx ((c.set b.toNat d).set f.toNat g) a).bind fun j=>(idx ((c.set b.toNat d).set f.toNat g) b).bind fun k=>(Zc j k).bind fun l=>some l) (some false)).bind fun m=>cond m (some (.inl (w64 (a + 1)))) (some (.inr a))
noncomputable def q7h (h : Int) (c : List Int) (b : Int) (d : Int) (f : Int) (g : Int) (a : Int) : Option ((Int) ⊕ (Int)):=
  (cond (decide (h≤a)) ((idx ((c.set b.toNat d).set f.toNat g) a).bind fun j=>(idx ((c.set b.toNat d).set f.toNat g) b).bind fun k=>(Zc j k).bind fun l=>some (!l)) (some false)).bind fun m=>cond m (some (.inl (w64 (a - 1)))) (some (.inr a))
noncomputable def q7j (b : Int × Int × List Int) (c : Int) (a : Int) : Option ((Int) ⊕ (Int)):=
  (cond (decide (a≤b.2.1)) ((idx b.2.2 a).bind fun d=>(idx b.2.2 c).bind fun f=>(Zc d f).bind fun g=>some g) (some false)).bind fun h=>cond h (some (.inl (w64 (a + 1)))) (some (.inr a))
noncomputable def q7k (c : Int) (b : Int × Int × List Int) (d : Int) (a : Int) : Option ((Int) ⊕ (Int)):=
  (cond (decide (c≤a)) ((idx b.2.2 a).bind fun f=>(idx b.2.2 d).bind fun g=>(Zc f g).bind fun h=>some (!h)) (some false)).bind fun j=>cond j (some (.inl (w64 (a - 1)))) (some (.inr a))
noncomputable def q7i (d : Int) (a : Int × Int × List Int) : Option ((Int × Int × List Int) ⊕ (Int × List Int)):=
  (loop (q7j a d) a.1).bind fun b=>(loop (q7k b a d) a.2.1).bind fun c=>cond (decide (b > c)) (some (.inr (c,a.2.2))) ((idx a.2.2 c).bind fun f=>(idx a.2.2 b).bind fun g=>(idx a.2.2 b).bind fun _=>(idx (a.2.2.set b.toNat f) c).bind fun _=>some (.inl (w64 (b + 1),w64 (c - 1),(a.2.2.set b.toNat f).set c.toNat g)))
noncomputable def q7f (b : List Int) (a : Int) (k : Int) (c : Int) : Option (Int × Bool × List Int):=
  (idx b c).bind fun d=>(idx b a).bind fun f=>(idx b a).bind fun _=>(idx (b.set a.toNat d) c).bind fun _=>(loop (q7g k b a d c f) (w64 (a + 1))).bind fun j=>(loop (q7h j b a d c f) (w64 (k - 1))).bind fun g=>cond (decide (j > g)) ((idx ((b.set a.toNat d).set c.toNat f) a).bind fun l=>(idx ((b.set a.toNat d).set c.toNat f) g).bind fun o=>(idx ((b.set a.toNat d).set c.toNat f) g).bind fun _=>(idx (((b.set a.toNat d).set c.toNat f).set g.toNat l) a).bind fun _=>some (g,true,(((b.set a.toNat d).set c.toNat f).set g.toNat l).set a.toNat o)) ((idx ((b.set a.toNat d).set c.toNat f) g).bind fun m=>(idx ((b.set a.toNat d).set c.toNat f) j).bind fun p=>(idx ((b.set a.toNat d).set c.toNat f) j).bind fun _=>(idx (((b.set a.toNat d).set c.toNat f).set j.toNat m) g).bind fun _=>(loop (q7i a) (w64 (j + 1),w64 (g - 1),(((b.set a.toNat d).set c.toNat f).set j.toNat m).set g.toNat p)).bind fun h=>(idx h.2 a).bind fun n=>(idx h.2 h.1).bind fun q=>(idx h.2 h.1).bind fun _=>(idx (h.2.set h.1.toNat n) a).bind fun _=>some (h.1,false,(h.2.set h.1.toNat n).set a.toNat q))
noncomputable def q21 (a : Int) : Option Int:=
  (q14 (IntKind.wrap .u64 a)).bind fun b=>(shlK .u64 1 b).bind fun c=>some c
noncomputable def q22 (a : Int) : Option Int:=
  some (xorI .u64 (xorI .u64 (xorI .u64 a (IntKind.wrap .u64 (a * (2 ^ 13)))) (Int.fdiv (xorI .u64 a (IntKind.wrap .u64 (a * (2 ^ 13)))) (2 ^ 7))) (IntKind.wrap .u64 ((xorI .u64 (xorI .u64 a (IntKind.wrap .u64 (a * (2 ^ 13)))) (Int.fdiv (xorI .u64 a (IntKind.wrap .u64 (a * (2 ^ 13)))) (2 ^ 7))) * (2 ^ 17))))
noncomputable def q6y (b : Int) (d : Int) (f : Int) (a : Int × List Int × Int) : Option ((Int × List Int × Int) ⊕ (List Int)):=
  cond (decide (a.1≤(w64 ((w64 (b + (w64 ((w64 (Int.tdiv (w64 (d - b)) 4)) * 2)))) + 1)))) ((q22 a.2.2).bind fun c=>(cond (decide ((w64 (andI .u64 c (IntKind.wrap .u64 (f - 1)))) ≥ (w64 (d - b)))) (some (w64 ((w64 (andI .u64 c (IntKind.wrap .u64 (f - 1)))) - (w64 (d - b))))) (some (w64 (andI .u64 c (IntKind.wrap .u64 (f - 1)))))).bind fun g=>(idx a.2.1 (w64 (b + g))).bind fun h=>(idx a.2.1 a.1).bind fun j=>(idx a.2.1 a.1).bind fun _=>(idx (a.2.1.set a.1.toNat h) (w64 (b + g))).bind fun _=>some (.inl (w64 (a.1 + 1),(a.2.1.set a.1.toNat h).set (w64 (b + g)).toNat j,c))) (some (.inr a.2.1))
noncomputable def q6x (c : List Int) (a : Int) (b : Int) : Option (List Int):=
  cond (decide ((w64 (b - a)) ≥ 8)) ((q21 (w64 (b - a))).bind fun d=>(loop (q6y a b d) (w64 ((w64 (a + (w64 ((w64 (Int.tdiv (w64 (b - a)) 4)) * 2)))) - 1),c,IntKind.wrap .u64 (w64 (b - a)))).bind fun f=>some f) (some c)
noncomputable def q4q (rec : List Int→Int→Int→Int→Option (List Int)) (a : Int × Int × Int × Bool × Bool × List Int) : Option ((Int × Int × Int × Bool × Bool × List Int) ⊕ (List Int)):=
  cond (decide ((w64 (a.2.1 - a.1))≤12)) ((q73 a.2.2.2.2.2 a.1 a.2.1).bind fun k=>(K3 k.length a.2.2.2.2.2.length).bind fun _=>some (.inr k)) (cond (a.2.2.1 == 0) ((q70 a.2.2.2.2.2 a.1 a.2.1).bind fun l=>(K3 l.length a.2.2.2.2.2.length).bind fun _=>some (.inr l)) ((cond (!a.2.2.2.1) ((q6x a.2.2.2.2.2 a.1 a.2.1).bind fun m=>(K3 m.length a.2.2.2.2.2.length).bind fun _=>some (w64 (a.2.2.1 - 1),m)) (some (a.2.2.1,a.2.2.2.2.2))).bind fun c=>(q6z c.2 a.1 a.2.1).bind fun g=>(cond (g.2 == 2) ((q7p c.2 a.1 a.2.1).bind fun n=>(K3 n.length c.2.length).bind fun _=>some (w64 ((w64 (a.2.1 - 1)) - (w64 (g.1 - a.1))),1,n)) (some (g.1,g.2,c.2))).bind fun d=>(cond a.2.2.2.1 (some a.2.2.2.2.1) (some false)).bind fun q=>(cond q (some (d.2.1 == 1)) (some false)).bind fun r=>(cond r ((q4o d.2.2 a.1 a.2.1).bind fun h=>(K3 h.2.length d.2.2.length).bind fun _=>cond h.1 (some (.inr h.2)) (some (.inl h.2))) (some (.inl d.2.2)) : Option ((List Int) ⊕ (List Int))).bind fun s=>(match s with | .inl f=>(cond (decide (a.1 > 0)) ((idx f (w64 (a.1 - 1))).bind fun t=>(idx f d.1).bind fun u=>(Zc t u).bind fun v=>some (!v)) (some false)).bind fun w=>cond w ((q7b f a.1 a.2.1 d.1).bind fun j=>(K3 j.2.length f.length).bind fun _=>some (.inl (j.1,a.2.1,c.1,a.2.2.2.1,a.2.2.2.2.1,j.2))) ((q7f f a.1 a.2.1 d.1).bind fun b=>(K3 b.2.2.length f.length).bind fun _=>cond (decide ((w64 (b.1 - a.1)) < (w64 (a.2.1 - b.1)))) ((rec b.2.2 a.1 b.1 c.1).bind fun o=>(K3 o.length b.2.2.length).bind fun _=>some (.inl (w64 (b.1 + 1),a.2.1,c.1,decide ((w64 (b.1 - a.1)) ≥ (w64 (Int.tdiv (w64 (a.2.1 - a.1)) 8))),b.2.1,o))) ((rec b.2.2 (w64 (b.1 + 1)) a.2.1 c.1).bind fun p=>(K3 p.length b.2.2.length).bind fun _=>some (.inl (a.1,b.1,c.1,decide ((w64 (a.2.1 - b.1)) ≥ (w64 (Int.tdiv (w64 (a.2.1 - a.1)) 8))),b.2.1,p)))) | .inr x=>some (.inr x))))
noncomputable def q4r (rec : List Int→Int→Int→Int→Option (List Int)) (a : List Int) (b : Int) (c : Int) (d : Int) : Option (List Int):=
  (loop (q4q rec) (b,c,d,true,true,a)).bind fun f=>some f
noncomputable def q7o : Nat→List Int→Int→Int→Int→Option (List Int)
  | 0,_,_,_,_=>none
  | n + 1,a,b,c,d=>q4r (q7o n)  a b c d
noncomputable def U4 (a : List Int) : Option (List Int):=
  (q14 (IntKind.wrap .u64 (a.length : Int))).bind fun c=>(lim (fun n=>q7o n a 0 (a.length : Int) c)).bind fun b=>(K3 b.length a.length).bind fun _=>some b
noncomputable def q1z (a : Int × (Nat × Nat) × Int × List Int) : Option ((Int × (Nat × Nat) × Int × List Int) ⊕ (Int × List Int)):=
  cond (decide (a.2.2.1 < (a.2.1.2 : Int))) (((idxW a.2.2.2 a.2.1 a.2.2.1).bind fun c=>(idxW a.2.2.2 a.2.1 (w64 (a.2.2.1 - 1))).bind fun d=>cond (c != d) ((idxW a.2.2.2 a.2.1 a.2.2.1).bind fun f=>(idx a.2.2.2 a.1).bind fun _=>some (w64 (a.1 + 1),a.2.1,a.2.2.2.set a.1.toNat f)) (some (a.1,a.2.1,a.2.2.2))).bind fun b=>some (.inl (b.1,b.2.1,w64 (a.2.2.1 + 1),b.2.2))) (some (.inr (a.1,a.2.2.2)))
noncomputable def Jk (a : List Int) (b : Int) : Option ((Int) ⊕ ((Unit) ⊕ ((Nat × Nat) × List Int))):=
  cond (decide (b < (a.length : Int))) ((idx a b).bind fun d=>(idx a (w64 (b - 1))).bind fun f=>cond (d == f) ((sub2 a.length b a.length).bind fun g=>(loop q1z (b,g,1,a)).bind fun c=>(sub2 c.2.length c.1 c.2.length).bind fun h=>(sub2 c.2.length 0 c.1).bind fun j=>some (.inr (.inr (j,clrw c.2 h 0)))) (some (.inl (w64 (b + 1))))) (some (.inr (.inl ())))
noncomputable def q16 (a : List Int) : Option ((Nat × Nat) × List Int):=
  cond (decide ((a.length : Int) < 2)) (some ((0,a.length),a)) ((loop (Jk a) 1 : Option ((Unit) ⊕ ((Nat × Nat) × List Int))).bind fun b=>(match b with | .inl _=>some ((0,a.length),a) | .inr c=>some c))
structure qi where
  X0 : Int
  Y0 : Int
  X1 : Int
  Y1 : Int
  deriving DecidableEq
def Q2 (x : qi) : List DV:=[.int .i64 x.X0,.int .i64 x.Y0,.int .i64 x.X1,.int .i64 x.Y1]
noncomputable def q4j (b : List qi) (c : qi→Option Bool) (a : Int) : Option ((Int) ⊕ ((Unit) ⊕ (Int))):=
  cond (decide (a < (b.length : Int))) ((idx b a).bind fun d=>(c d).bind fun f=>cond f (some (.inr (.inr a))) (some (.inl (w64 (a + 1))))) (some (.inr (.inl ())))
noncomputable def qda (a : List qi) (b : qi→Option Bool) : Option Int:=
  (loop (q4j a b) 0 : Option ((Unit) ⊕ (Int))).bind fun c=>(match c with | .inl _=>some (-1) | .inr d=>some d)
noncomputable def q9r (a : List qi) (b : qi→Option Bool) : Option Bool:=
  (qda a b).bind fun c=>some (decide (c ≥ 0))
noncomputable def q35 (a : Int) : Option Bool:=
  (cond (decide (a ≥ (-1000000))) (some (decide (a≤1000000))) (some false)).bind fun b=>some b
noncomputable def q6m (a : qi) : Option Bool:=
  (cond (decide (a.X0 < a.X1)) (some (decide (a.Y0 < a.Y1))) (some false)).bind fun b=>(cond b ((q35 a.X0).bind fun c=>some c) (some false)).bind fun d=>(cond d ((q35 a.X1).bind fun f=>some f) (some false)).bind fun g=>(cond g ((q35 a.Y0).bind fun h=>some h) (some false)).bind fun j=>(cond j ((q35 a.Y1).bind fun k=>some k) (some false)).bind fun l=>some l
noncomputable def q34 (a : qi) : Option Bool:=
  (q6m a).bind fun b=>some (!b)
def Kp (x : List qi) : List DV:=[.sl 4 (x.map Q2)]
structure qk where
  Lo : Int
  Hi : Int
  deriving DecidableEq
def Qh (x : qk) : List DV:=[.int .i64 x.Lo,.int .i64 x.Hi]
noncomputable def q3a (b : List qk) (c : qk→Option Bool) (a : Int) : Option ((Int) ⊕ ((Unit) ⊕ (Int))):=
  cond (decide (a < (b.length : Int))) ((idx b a).bind fun d=>(c d).bind fun f=>cond f (some (.inr (.inr a))) (some (.inl (w64 (a + 1))))) (some (.inr (.inl ())))
noncomputable def q9w (a : List qk) (b : qk→Option Bool) : Option Int:=
  (loop (q3a a b) 0 : Option ((Unit) ⊕ (Int))).bind fun c=>(match c with | .inl _=>some (-1) | .inr d=>some d)
noncomputable def q9t (a : List qk) (b : qk→Option Bool) : Option Bool:=
  (q9w a b).bind fun c=>some (decide (c ≥ 0))
noncomputable def q3h (a : qk) : Option Bool:=
  (cond (decide (a.Lo < a.Hi)) (some (decide (a.Lo ≥ (-1000000)))) (some false)).bind fun b=>(cond b (some (decide (a.Hi≤1000000))) (some false)).bind fun c=>some c
noncomputable def qdl (a : qk) : Option Bool:=
  (q3h a).bind fun b=>some (!b)
def q1e (x : List qk) : List DV:=[.sl 2 (x.map Qh)]
structure qn where
  at_ : Int
  list_ : Int
  by_ : Int
  deriving DecidableEq
def Qr (x : qn) : List DV:=[.int .i64 x.at_,.int .i64 x.list_,.int .i64 x.by_]
noncomputable def qaw (a : qn) (b : qn) : Option Int:=
  some (w64 (a.at_ - b.at_))
noncomputable def qa5 (c : Int) (d : qn→qn→Option Int) (a : Int × List qn) : Option ((Int × List qn) ⊕ (List qn)):=
  (cond (decide (a.1 > c)) ((idx a.2 a.1).bind fun f=>(idx a.2 (w64 (a.1 - 1))).bind fun g=>(d f g).bind fun h=>some (decide (h < 0))) (some false)).bind fun j=>cond j ((idx a.2 (w64 (a.1 - 1))).bind fun b=>(idx a.2 a.1).bind fun k=>(idx a.2 a.1).bind fun _=>(idx (a.2.set a.1.toNat b) (w64 (a.1 - 1))).bind fun _=>some (.inl (w64 (a.1 - 1),(a.2.set a.1.toNat b).set (w64 (a.1 - 1)).toNat k))) (some (.inr a.2))
noncomputable def qa4 (b : Int) (c : Int) (d : qn→qn→Option Int) (a : Int × List qn) : Option ((Int × List qn) ⊕ (List qn)):=
  cond (decide (a.1 < b)) (((loop (qa5 c d) (a.1,a.2)).bind fun f=>some f).bind fun g=>some (.inl (w64 (a.1 + 1),g))) (some (.inr a.2))
noncomputable def qa3 (b : qn→qn→Option Int) (c : List qn) (a : Int) (d : Int) : Option (List qn):=
  (loop (qa4 d a b) (w64 (a + 1),c)).bind fun f=>some f
noncomputable def qan (d : Int) (b : Int) (f : qn→qn→Option Int) (a : Int × List qn) : Option ((Int × List qn) ⊕ (List qn)):=
  cond (decide ((w64 ((w64 (2 * a.1)) + 1)) ≥ d)) (some (.inr a.2)) ((cond (decide ((w64 ((w64 ((w64 (2 * a.1)) + 1)) + 1)) < d)) ((idx a.2 (w64 (b + (w64 ((w64 (2 * a.1)) + 1))))).bind fun h=>(idx a.2 (w64 ((w64 (b + (w64 ((w64 (2 * a.1)) + 1)))) + 1))).bind fun j=>(f h j).bind fun k=>some (decide (k < 0))) (some false)).bind fun l=>(cond l (some (w64 ((w64 ((w64 (2 * a.1)) + 1)) + 1))) (some (w64 ((w64 (2 * a.1)) + 1)))).bind fun c=>(idx a.2 (w64 (b + a.1))).bind fun m=>(idx a.2 (w64 (b + c))).bind fun n=>(f m n).bind fun o=>cond (!(decide (o < 0))) (some (.inr a.2)) ((idx a.2 (w64 (b + c))).bind fun g=>(idx a.2 (w64 (b + a.1))).bind fun p=>(idx a.2 (w64 (b + a.1))).bind fun _=>(idx (a.2.set (w64 (b + a.1)).toNat g) (w64 (b + c))).bind fun _=>some (.inl (c,(a.2.set (w64 (b + a.1)).toNat g).set (w64 (b + c)).toNat p))))
noncomputable def q7q (a : qn→qn→Option Int) (b : List qn) (c : Int) (d : Int) (f : Int) : Option (List qn):=
  (loop (qan d f a) (c,b)).bind fun g=>some g
noncomputable def qa1 (d : qn→qn→Option Int) (f : Int) (b : Int) (a : Int × List qn) : Option ((Int × List qn) ⊕ (List qn)):=
  cond (decide (a.1 ≥ 0)) ((q7q d a.2 a.1 (w64 (f - b)) b).bind fun c=>(K3 c.length a.2.length).bind fun _=>some (.inl (w64 (a.1 - 1),c))) (some (.inr a.2))
noncomputable def qa2 (b : Int) (g : qn→qn→Option Int) (a : Int × List qn) : Option ((Int × List qn) ⊕ (List qn)):=
  cond (decide (a.1 ≥ 0)) ((idx a.2 (w64 (b + a.1))).bind fun c=>(idx a.2 b).bind fun d=>(idx a.2 b).bind fun _=>(idx (a.2.set b.toNat c) (w64 (b + a.1))).bind fun _=>(q7q g ((a.2.set b.toNat c).set (w64 (b + a.1)).toNat d) 0 a.1 b).bind fun f=>(K3 f.length ((a.2.set b.toNat c).set (w64 (b + a.1)).toNat d).length).bind fun _=>some (.inl (w64 (a.1 - 1),f))) (some (.inr a.2))
noncomputable def qa0 (c : qn→qn→Option Int) (d : List qn) (a : Int) (b : Int) : Option (List qn):=
  (loop (qa1 c b a) (w64 (Int.tdiv (w64 ((w64 (b - a)) - 1)) 2),d)).bind fun f=>(loop (qa2 a c) (w64 ((w64 (b - a)) - 1),f)).bind fun g=>some g
noncomputable def q4n (f : qn→qn→Option Int) (c : List qn) (a : Int) (b : Int) (d : Int) : Option (Int × Int × Int):=
  (idx c b).bind fun g=>(idx c a).bind fun h=>(f g h).bind fun j=>cond (decide (j < 0)) (some (b,a,w64 (d + 1))) (some (a,b,d))
noncomputable def q76 (a : qn→qn→Option Int) (b : List qn) (g : Int) (h : Int) (j : Int) (k : Int) : Option (Int × Int):=
  (q4n a b g h k).bind fun c=>(q4n a b c.2.1 j c.2.2).bind fun d=>(q4n a b c.1 d.1 d.2.2).bind fun f=>some (f.2.1,f.2.2)
noncomputable def q4l (c : qn→qn→Option Int) (d : List qn) (a : Int) (f : Int) : Option (Int × Int):=
  (q76 c d (w64 (a - 1)) a (w64 (a + 1)) f).bind fun b=>some (b.1,b.2)
noncomputable def q9z (d : List qn) (a : Int) (b : Int) (f : qn→qn→Option Int) : Option (Int × Int):=
  (cond (decide ((w64 (b - a)) ≥ 8)) ((cond (decide ((w64 (b - a)) ≥ 50)) ((q4l f d (w64 (a + (w64 ((w64 (Int.tdiv (w64 (b - a)) 4)) * 1)))) 0).bind fun h=>(q4l f d (w64 (a + (w64 ((w64 (Int.tdiv (w64 (b - a)) 4)) * 2)))) h.2).bind fun j=>(q4l f d (w64 (a + (w64 ((w64 (Int.tdiv (w64 (b - a)) 4)) * 3)))) j.2).bind fun k=>some (h.1,j.1,k.1,k.2)) (some (w64 (a + (w64 ((w64 (Int.tdiv (w64 (b - a)) 4)) * 1))),w64 (a + (w64 ((w64 (Int.tdiv (w64 (b - a)) 4)) * 2))),w64 (a + (w64 ((w64 (Int.tdiv (w64 (b - a)) 4)) * 3))),0))).bind fun g=>(q76 f d g.1 g.2.1 g.2.2.1 g.2.2.2).bind fun l=>some (l.1,l.2)) (some (w64 (a + (w64 ((w64 (Int.tdiv (w64 (b - a)) 4)) * 2))),0))).bind fun c=>cond (c.2 == 0) (some (c.1,1)) (cond (c.2 == 12) (some (c.1,2)) (some (c.1,0)))
noncomputable def qal (a : Int × Int × List qn) : Option ((Int × Int × List qn) ⊕ (List qn)):=
  cond (decide (a.1 < a.2.1)) ((idx a.2.2 a.2.1).bind fun b=>(idx a.2.2 a.1).bind fun c=>(idx a.2.2 a.1).bind fun _=>(idx (a.2.2.set a.1.toNat b) a.2.1).bind fun _=>some (.inl (w64 (a.1 + 1),w64 (a.2.1 - 1),(a.2.2.set a.1.toNat b).set a.2.1.toNat c))) (some (.inr a.2.2))
noncomputable def qak (f : qn→qn→Option Int) (a : List qn) (b : Int) (c : Int) : Option (List qn):=
  (loop qal (b,w64 (c - 1),a)).bind fun d=>some d
noncomputable def qa6 (c : Int) (b : Int × Int × List qn) (d : qn→qn→Option Int) (a : Int) : Option ((Int) ⊕ (Int)):=
  (cond (decide (a < c)) ((idx b.2.2 a).bind fun f=>(idx b.2.2 (w64 (a - 1))).bind fun g=>(d f g).bind fun h=>some (!(decide (h < 0)))) (some false)).bind fun j=>cond j (some (.inl (w64 (a + 1)))) (some (.inr a))
noncomputable def qa7 (c : qn→qn→Option Int) (a : Int × List qn) : Option ((Int × List qn) ⊕ (List qn)):=
  cond (decide (a.1 ≥ 1)) ((idx a.2 a.1).bind fun d=>(idx a.2 (w64 (a.1 - 1))).bind fun f=>(c d f).bind fun g=>cond (!(decide (g < 0))) (some (.inr a.2)) ((idx a.2 (w64 (a.1 - 1))).bind fun b=>(idx a.2 a.1).bind fun h=>(idx a.2 a.1).bind fun _=>(idx (a.2.set a.1.toNat b) (w64 (a.1 - 1))).bind fun _=>some (.inl (w64 (a.1 - 1),(a.2.set a.1.toNat b).set (w64 (a.1 - 1)).toNat h)))) (some (.inr a.2))
noncomputable def qa8 (d : Int) (f : qn→qn→Option Int) (b : Int) (a : Int × List qn) : Option ((Int × List qn) ⊕ (Int × List qn)):=
  cond (decide (a.1 < d)) ((idx a.2 a.1).bind fun g=>(idx a.2 (w64 (a.1 - 1))).bind fun h=>(f g h).bind fun j=>cond (!(decide (j < 0))) (some (.inr (b,a.2))) ((idx a.2 (w64 (a.1 - 1))).bind fun c=>(idx a.2 a.1).bind fun k=>(idx a.2 a.1).bind fun _=>(idx (a.2.set a.1.toNat c) (w64 (a.1 - 1))).bind fun _=>some (.inl (w64 (a.1 + 1),(a.2.set a.1.toNat c).set (w64 (a.1 - 1)).toNat k)))) (some (.inr (b,a.2)))
noncomputable def q78 (c : Int) (d : qn→qn→Option Int) (h : Int) (b : Int × Int × List qn) : Option ((Int × Int × List qn) ⊕ ((List qn) ⊕ (Bool × List qn))):=
  cond (decide (b.2.1 < 5)) (((loop (qa6 c b d) b.1).bind fun a=>cond (a == c) (some (.inr (true,b.2.2))) (cond (decide ((w64 (c - h)) < 50)) (some (.inr (false,b.2.2))) ((idx b.2.2 (w64 (a - 1))).bind fun f=>(idx b.2.2 a).bind fun j=>(idx b.2.2 a).bind fun _=>(idx (b.2.2.set a.toNat f) (w64 (a - 1))).bind fun _=>(cond (decide ((w64 (a - h)) ≥ 2)) ((loop (qa7 d) (w64 (a - 1),(b.2.2.set a.toNat f).set (w64 (a - 1)).toNat j)).bind fun g=>some g) (some ((b.2.2.set a.toNat f).set (w64 (a - 1)).toNat j))).bind fun k=>cond (decide ((w64 (c - a)) ≥ 2)) ((loop (qa8 c d a) (w64 (a + 1),k)).bind fun g=>some (.inl g)) (some (.inl (a,k))))) : Option ((Int × List qn) ⊕ (Bool × List qn))).bind fun m=>(match m with | .inl l=>some (.inl (l.1,w64 (b.2.1 + 1),l.2)) | .inr n=>some (.inr (.inr n)))) (some (.inr (.inl b.2.2)))
noncomputable def q77 (b : qn→qn→Option Int) (c : List qn) (a : Int) (d : Int) : Option (Bool × List qn):=
  (loop (q78 d b a) (w64 (a + 1),0,c) : Option ((List qn) ⊕ (Bool × List qn))).bind fun f=>(match f with | .inl g=>some (false,g) | .inr h=>some h)
noncomputable def qai (b : Int × Int × List qn) (c : Int) (d : qn→qn→Option Int) (a : Int) : Option ((Int) ⊕ (Int)):=
  (cond (decide (a≤b.2.1)) ((idx b.2.2 c).bind fun f=>(idx b.2.2 a).bind fun g=>(d f g).bind fun h=>some (!(decide (h < 0)))) (some false)).bind fun j=>cond j (some (.inl (w64 (a + 1)))) (some (.inr a))
noncomputable def qaj (c : Int) (b : Int × Int × List qn) (d : Int) (f : qn→qn→Option Int) (a : Int) : Option ((Int) ⊕ (Int)):=
  (cond (decide (c≤a)) ((idx b.2.2 d).bind fun g=>(idx b.2.2 a).bind fun h=>(f g h).bind fun j=>some (decide (j < 0))) (some false)).bind fun k=>cond k (some (.inl (w64 (a - 1)))) (some (.inr a))
noncomputable def qah (d : Int) (f : qn→qn→Option Int) (a : Int × Int × List qn) : Option ((Int × Int × List qn) ⊕ (Int × List qn)):=
  (loop (qai a d f) a.1).bind fun b=>(loop (qaj b a d f) a.2.1).bind fun c=>cond (decide (b > c)) (some (.inr (b,a.2.2))) ((idx a.2.2 c).bind fun g=>(idx a.2.2 b).bind fun h=>(idx a.2.2 b).bind fun _=>(idx (a.2.2.set b.toNat g) c).bind fun _=>some (.inl (w64 (b + 1),w64 (c - 1),(a.2.2.set b.toNat g).set c.toNat h)))
noncomputable def qag (g : qn→qn→Option Int) (b : List qn) (a : Int) (h : Int) (c : Int) : Option (Int × List qn):=
  (idx b c).bind fun d=>(idx b a).bind fun j=>(idx b a).bind fun _=>(idx (b.set a.toNat d) c).bind fun _=>(loop (qah a g) (w64 (a + 1),w64 (h - 1),(b.set a.toNat d).set c.toNat j)).bind fun f=>some (f.1,f.2)
noncomputable def qab (h : Int) (c : List qn) (b : Int) (d : qn) (f : Int) (g : qn) (j : qn→qn→Option Int) (a : Int) : Option ((Int) ⊕ (Int)):=
  (cond (decide (a≤(w64 (h - 1)))) ((idx ((c.set b.toNat d).set f.toNat g) a).bind fun k=>(idx ((c.set b.toNat d).set f.toNat g) b).bind fun l=>(j k l).bind fun m=>some (decide (m < 0))) (some false)).bind fun n=>cond n (some (.inl (w64 (a + 1)))) (some (.inr a))
noncomputable def qac (h : Int) (c : List qn) (b : Int) (d : qn) (f : Int) (g : qn) (j : qn→qn→Option Int) (a : Int) : Option ((Int) ⊕ (Int)):=
  (cond (decide (h≤a)) ((idx ((c.set b.toNat d).set f.toNat g) a).bind fun k=>(idx ((c.set b.toNat d).set f.toNat g) b).bind fun l=>(j k l).bind fun m=>some (!(decide (m < 0)))) (some false)).bind fun n=>cond n (some (.inl (w64 (a - 1)))) (some (.inr a))
noncomputable def qae (b : Int × Int × List qn) (c : Int) (d : qn→qn→Option Int) (a : Int) : Option ((Int) ⊕ (Int)):=
  (cond (decide (a≤b.2.1)) ((idx b.2.2 a).bind fun f=>(idx b.2.2 c).bind fun g=>(d f g).bind fun h=>some (decide (h < 0))) (some false)).bind fun j=>cond j (some (.inl (w64 (a + 1)))) (some (.inr a))
noncomputable def qaf (c : Int) (b : Int × Int × List qn) (d : Int) (f : qn→qn→Option Int) (a : Int) : Option ((Int) ⊕ (Int)):=
  (cond (decide (c≤a)) ((idx b.2.2 a).bind fun g=>(idx b.2.2 d).bind fun h=>(f g h).bind fun j=>some (!(decide (j < 0)))) (some false)).bind fun k=>cond k (some (.inl (w64 (a - 1)))) (some (.inr a))
noncomputable def qad (d : Int) (f : qn→qn→Option Int) (a : Int × Int × List qn) : Option ((Int × Int × List qn) ⊕ (Int × List qn)):=
  (loop (qae a d f) a.1).bind fun b=>(loop (qaf b a d f) a.2.1).bind fun c=>cond (decide (b > c)) (some (.inr (c,a.2.2))) ((idx a.2.2 c).bind fun g=>(idx a.2.2 b).bind fun h=>(idx a.2.2 b).bind fun _=>(idx (a.2.2.set b.toNat g) c).bind fun _=>some (.inl (w64 (b + 1),w64 (c - 1),(a.2.2.set b.toNat g).set c.toNat h)))
noncomputable def qaa (k : qn→qn→Option Int) (b : List qn) (a : Int) (l : Int) (c : Int) : Option (Int × Bool × List qn):=
  (idx b c).bind fun d=>(idx b a).bind fun f=>(idx b a).bind fun _=>(idx (b.set a.toNat d) c).bind fun _=>(loop (qab l b a d c f k) (w64 (a + 1))).bind fun j=>(loop (qac j b a d c f k) (w64 (l - 1))).bind fun g=>cond (decide (j > g)) ((idx ((b.set a.toNat d).set c.toNat f) a).bind fun m=>(idx ((b.set a.toNat d).set c.toNat f) g).bind fun p=>(idx ((b.set a.toNat d).set c.toNat f) g).bind fun _=>(idx (((b.set a.toNat d).set c.toNat f).set g.toNat m) a).bind fun _=>some (g,true,(((b.set a.toNat d).set c.toNat f).set g.toNat m).set a.toNat p)) ((idx ((b.set a.toNat d).set c.toNat f) g).bind fun n=>(idx ((b.set a.toNat d).set c.toNat f) j).bind fun q=>(idx ((b.set a.toNat d).set c.toNat f) j).bind fun _=>(idx (((b.set a.toNat d).set c.toNat f).set j.toNat n) g).bind fun _=>(loop (qad a k) (w64 (j + 1),w64 (g - 1),(((b.set a.toNat d).set c.toNat f).set j.toNat n).set g.toNat q)).bind fun h=>(idx h.2 a).bind fun o=>(idx h.2 h.1).bind fun r=>(idx h.2 h.1).bind fun _=>(idx (h.2.set h.1.toNat o) a).bind fun _=>some (h.1,false,(h.2.set h.1.toNat o).set a.toNat r))
noncomputable def q9y (b : Int) (d : Int) (f : Int) (a : Int × List qn × Int) : Option ((Int × List qn × Int) ⊕ (List qn)):=
  cond (decide (a.1≤(w64 ((w64 (b + (w64 ((w64 (Int.tdiv (w64 (d - b)) 4)) * 2)))) + 1)))) ((q22 a.2.2).bind fun c=>(cond (decide ((w64 (andI .u64 c (IntKind.wrap .u64 (f - 1)))) ≥ (w64 (d - b)))) (some (w64 ((w64 (andI .u64 c (IntKind.wrap .u64 (f - 1)))) - (w64 (d - b))))) (some (w64 (andI .u64 c (IntKind.wrap .u64 (f - 1)))))).bind fun g=>(idx a.2.1 (w64 (b + g))).bind fun h=>(idx a.2.1 a.1).bind fun j=>(idx a.2.1 a.1).bind fun _=>(idx (a.2.1.set a.1.toNat h) (w64 (b + g))).bind fun _=>some (.inl (w64 (a.1 + 1),(a.2.1.set a.1.toNat h).set (w64 (b + g)).toNat j,c))) (some (.inr a.2.1))
noncomputable def q9x (g : qn→qn→Option Int) (c : List qn) (a : Int) (b : Int) : Option (List qn):=
  cond (decide ((w64 (b - a)) ≥ 8)) ((q21 (w64 (b - a))).bind fun d=>(loop (q9y a b d) (w64 ((w64 (a + (w64 ((w64 (Int.tdiv (w64 (b - a)) 4)) * 2)))) - 1),c,IntKind.wrap .u64 (w64 (b - a)))).bind fun f=>some f) (some c)
noncomputable def q7m (c : qn→qn→Option Int) (rec : List qn→Int→Int→Int→Option (List qn)) (a : Int × Int × Int × Bool × Bool × List qn) : Option ((Int × Int × Int × Bool × Bool × List qn) ⊕ (List qn)):=
  cond (decide ((w64 (a.2.1 - a.1))≤12)) ((qa3 c a.2.2.2.2.2 a.1 a.2.1).bind fun l=>(K3 l.length a.2.2.2.2.2.length).bind fun _=>some (.inr l)) (cond (a.2.2.1 == 0) ((qa0 c a.2.2.2.2.2 a.1 a.2.1).bind fun m=>(K3 m.length a.2.2.2.2.2.length).bind fun _=>some (.inr m)) ((cond (!a.2.2.2.1) ((q9x c a.2.2.2.2.2 a.1 a.2.1).bind fun n=>(K3 n.length a.2.2.2.2.2.length).bind fun _=>some (w64 (a.2.2.1 - 1),n)) (some (a.2.2.1,a.2.2.2.2.2))).bind fun d=>(q9z d.2 a.1 a.2.1 c).bind fun h=>(cond (h.2 == 2) ((qak c d.2 a.1 a.2.1).bind fun o=>(K3 o.length d.2.length).bind fun _=>some (w64 ((w64 (a.2.1 - 1)) - (w64 (h.1 - a.1))),1,o)) (some (h.1,h.2,d.2))).bind fun f=>(cond a.2.2.2.1 (some a.2.2.2.2.1) (some false)).bind fun r=>(cond r (some (f.2.1 == 1)) (some false)).bind fun s=>(cond s ((q77 c f.2.2 a.1 a.2.1).bind fun j=>(K3 j.2.length f.2.2.length).bind fun _=>cond j.1 (some (.inr j.2)) (some (.inl j.2))) (some (.inl f.2.2)) : Option ((List qn) ⊕ (List qn))).bind fun t=>(match t with | .inl g=>(cond (decide (a.1 > 0)) ((idx g (w64 (a.1 - 1))).bind fun u=>(idx g f.1).bind fun v=>(c u v).bind fun w=>some (!(decide (w < 0)))) (some false)).bind fun x=>cond x ((qag c g a.1 a.2.1 f.1).bind fun k=>(K3 k.2.length g.length).bind fun _=>some (.inl (k.1,a.2.1,d.1,a.2.2.2.1,a.2.2.2.2.1,k.2))) ((qaa c g a.1 a.2.1 f.1).bind fun b=>(K3 b.2.2.length g.length).bind fun _=>cond (decide ((w64 (b.1 - a.1)) < (w64 (a.2.1 - b.1)))) ((rec b.2.2 a.1 b.1 d.1).bind fun p=>(K3 p.length b.2.2.length).bind fun _=>some (.inl (w64 (b.1 + 1),a.2.1,d.1,decide ((w64 (b.1 - a.1)) ≥ (w64 (Int.tdiv (w64 (a.2.1 - a.1)) 8))),b.2.1,p))) ((rec b.2.2 (w64 (b.1 + 1)) a.2.1 d.1).bind fun q=>(K3 q.length b.2.2.length).bind fun _=>some (.inl (a.1,b.1,d.1,decide ((w64 (a.2.1 - b.1)) ≥ (w64 (Int.tdiv (w64 (a.2.1 - a.1)) 8))),b.2.1,q)))) | .inr y=>some (.inr y))))
noncomputable def q7n (rec : List qn→Int→Int→Int→Option (List qn)) (a : qn→qn→Option Int) (b : List qn) (c : Int) (d : Int) (f : Int) : Option (List qn):=
  (loop (q7m a rec) (c,d,f,true,true,b)).bind fun g=>some g
noncomputable def q7l : Nat→(qn→qn→Option Int)→List qn→Int→Int→Int→Option (List qn)
  | 0,_,_,_,_,_=>none
  | n + 1,a,b,c,d,f=>q7n (q7l n a) a b c d f
noncomputable def q6w (c : qn→qn→Option Int) (a : List qn) : Option (List qn):=
  (q14 (IntKind.wrap .u64 (a.length : Int))).bind fun d=>(lim (fun n=>q7l n c a 0 (a.length : Int) d)).bind fun b=>(K3 b.length a.length).bind fun _=>some b
noncomputable def qdd (a : List qn) : Option (List qn):=
  some a
noncomputable def q4v (b : List qk) (c : Int × List qn) (a : Int × List qn) : Option ((Int × List qn) ⊕ (List qn)):=
  cond (decide (a.1 < (b.length : Int))) ((idx b a.1).bind fun d=>(app 24 a.2 [({at_:=d.Lo,list_:=c.1,by_:=1} : qn),({at_:=d.Hi,list_:=c.1,by_:=(-1)} : qn)]).bind fun f=>some (.inl (w64 (a.1 + 1),f))) (some (.inr a.2))
noncomputable def q18 (b : List (List qk)) (a : Int × List qn) : Option ((Int × List qn) ⊕ (List qn)):=
  cond (decide (a.1 < (b.length : Int))) (((idx b a.1).bind fun c=>(loop (q4v c a) (0,a.2)).bind fun d=>some d).bind fun f=>some (.inl (w64 (a.1 + 1),f))) (some (.inr a.2))
noncomputable def qax (b : List (List qk)) : Option (List (List qk) × List qn):=
  (loop (q18 b) (0,[])).bind fun c=>(q6w (fun f g=>qaw f g) c).bind fun a=>(K3 a.length c.length).bind fun _=>(qdd a).bind fun d=>(K3 d.length a.length).bind fun _=>some (b,d)
noncomputable def qay (d : Int) (c : Bool) (b : Int) (a : List qk) : Option (Bool × Int × List qk):=
  (cond (!c) (some true) (some (b == d))).bind fun f=>cond f (some (c,b,a)) ((cond (decide ((a.length : Int) > 0)) ((idx a (w64 ((a.length : Int) - 1))).bind fun g=>some (g.Hi == b)) (some false)).bind fun h=>cond h ((idx a (w64 ((a.length : Int) - 1))).bind fun j=>some (c,b,a.set (w64 ((a.length : Int) - 1)).toNat ({Lo:=j.Lo,Hi:=d} : qk))) ((app 16 a [({Lo:=b,Hi:=d} : qk)]).bind fun k=>some (c,b,k)))
noncomputable def q4w (f : List (List qk) × List qn) (g : Bool→Bool→Option Bool) (a : Int × List Int × Int × Bool × List qk) : Option ((Int × List Int × Int × Bool × List qk) ⊕ (List qk)):=
  cond (decide (a.1 < (f.2.length : Int))) ((idx f.2 a.1).bind fun b=>((qay b.at_ a.2.2.2.1 a.2.2.1 a.2.2.2.2).bind fun h=>(idxA 2 a.2.1 b.list_).bind fun c=>(idxA 2 a.2.1 b.list_).bind fun _=>(idxA 2 (a.2.1.set b.list_.toNat (w64 (c + b.by_))) 0).bind fun j=>(idxA 2 (a.2.1.set b.list_.toNat (w64 (c + b.by_))) 1).bind fun k=>(g (decide (j > 0)) (decide (k > 0))).bind fun l=>some (a.2.1.set b.list_.toNat (w64 (c + b.by_)),l,h.2.2)).bind fun d=>some (.inl (w64 (a.1 + 1),d.1,b.at_,d.2.1,d.2.2))) (some (.inr a.2.2.2.2))
noncomputable def q3g (a : List qk) (b : List qk) (d : Bool→Bool→Option Bool) : Option (List qk):=
  (qax [a,b]).bind fun c=>(K3 c.1.length [a,b].length).bind fun _=>((loop (q4w c d) (0,[0,0],0,false,[])).bind fun f=>some f).bind fun g=>some g
noncomputable def qau (a : Bool) (b : Bool) : Option Bool:=
  some a
noncomputable def q80 (a : List qk) : Option (List qk × Int):=
  cond (decide ((a.length : Int) > 400)) (some ([],4)) ((q9t a (fun b=>qdl b)).bind fun c=>cond c (some ([],8)) ((q3g a [] (fun b d=>qau b d)).bind fun f=>some (f,0)))
noncomputable def qd6 (b : List qk) (f : List qk) (a : Int) : Option ((Int) ⊕ ((Unit) ⊕ (Bool))):=
  cond (decide (a < (b.length : Int))) ((idx b a).bind fun c=>(idx f a).bind fun d=>cond (!((c.Lo == d.Lo) && ((c.Hi == d.Hi) && true))) (some (.inr (.inr false))) (some (.inl (w64 (a + 1))))) (some (.inr (.inl ())))
noncomputable def q9u (a : List qk) (b : List qk) : Option Bool:=
  cond ((a.length : Int) != (b.length : Int)) (some false) ((loop (qd6 a b) 0 : Option ((Unit) ⊕ (Bool))).bind fun c=>(match c with | .inl _=>some true | .inr d=>some d))
noncomputable def q6j (c : Int) (a : Int × List qi) : Option ((Int × List qi) ⊕ (List qi)):=
  cond (decide (a.1 < (a.2.length : Int))) ((idx a.2 a.1).bind fun b=>some (.inl (w64 (a.1 + 1),a.2.set a.1.toNat ({X0:=b.X0,Y0:=b.Y0,X1:=c,Y1:=b.Y1} : qi)))) (some (.inr a.2))
noncomputable def q6k (b : List qk) (f : Int) (c : Int) (g : List qi) (a : Int × List qi) : Option ((Int × List qi) ⊕ (List qk × Int × Int × List qi)):=
  cond (decide (a.1 < (b.length : Int))) ((idx b a.1).bind fun d=>(app 32 a.2 [({X0:=f,Y0:=d.Lo,X1:=c,Y1:=d.Hi} : qi)]).bind fun h=>some (.inl (w64 (a.1 + 1),h))) (some (.inr (b,(g.length : Int),c,a.2)))
noncomputable def q6i (a : List qi) (d : List qk) (f : Int) (h : Int) (g : Int) (b : Int) (c : List qk) : Option (List qk × Int × Int × List qi):=
  (cond (decide ((c.length : Int) > 0)) (some (h == g)) (some false)).bind fun j=>(cond j ((q9u d c).bind fun k=>some k) (some false)).bind fun l=>cond l ((loop (q6j b) (f,a)).bind fun m=>some (d,f,b,m)) ((loop (q6k c g b a) (0,a)).bind fun n=>some n)
noncomputable def J8 (b : List qi) (a : Int × List Int) : Option ((Int × List Int) ⊕ (List Int)):=
  cond (decide (a.1 < (b.length : Int))) ((idx b a.1).bind fun c=>(app 8 a.2 [c.X0,c.X1]).bind fun d=>some (.inl (w64 (a.1 + 1),d))) (some (.inr a.2))
noncomputable def Uo (c : List qi) (d : Int) (a : Int × List qk) : Option ((Int × List qk) ⊕ (List qk)):=
  cond (decide (a.1 < (c.length : Int))) (((idx c a.1).bind fun b=>(cond (decide (b.X0≤d)) (some (decide (d < b.X1))) (some false)).bind fun f=>cond f ((app 16 a.2 [({Lo:=b.Y0,Hi:=b.Y1} : qk)]).bind fun g=>some g) (some a.2)).bind fun h=>some (.inl (w64 (a.1 + 1),h))) (some (.inr a.2))
noncomputable def q36 (d : List Int) (g : List qi) (a : Int × List qk × Int × Int × List qi) : Option ((Int × List qk × Int × Int × List qi) ⊕ (List qk × Int × Int × List qi)):=
  cond (decide (a.1 < (d.length : Int))) ((idx d (w64 (a.1 - 1))).bind fun f=>(idx d a.1).bind fun h=>((idx [g] 0).bind fun j=>(loop (Uo j f) (0,[])).bind fun k=>some k).bind fun l=>((q80 l).bind fun m=>(q6i a.2.2.2.2 a.2.1 a.2.2.1 a.2.2.2.1 f h m.1).bind fun b=>some (b.1,b.2.1,b.2.2.1,b.2.2.2)).bind fun c=>some (.inl (w64 (a.1 + 1),c.1,c.2.1,c.2.2.1,c.2.2.2))) (some (.inr (a.2.1,a.2.2.1,a.2.2.2.1,a.2.2.2.2)))
noncomputable def q6l (d : List qi) : Option (List qi × Int):=
  (((idx [d] 0).bind fun j=>(loop (J8 j) (0,[])).bind fun b=>some b).bind fun f=>(U4 f).bind fun c=>(K3 c.length f.length).bind fun _=>(q16 c).bind fun a=>(K3 a.2.length c.length).bind fun _=>(q1b a.2.length a.1).bind fun _=>some ((a.2.drop a.1.1).take a.1.2)).bind fun k=>((loop (q36 k d) (1,[],0,0,[])).bind fun b=>some b).bind fun g=>(cond (decide ((g.2.2.2.length : Int) > 400)) (some (4,[])) (some (0,g.2.2.2))).bind fun h=>some (h.2,h.1)
noncomputable def q1x (a : List qi) : Option (List qi × Int):=
  cond (decide ((a.length : Int) > 400)) (some ([],4)) ((q9r a (fun c=>q34 c)).bind fun d=>cond d (some ([],8)) ((q6l a).bind fun b=>some (b.1,b.2)))
noncomputable def qd4 (d : List qi) (f : List qi) (a : Int) : Option ((Int) ⊕ ((Unit) ⊕ (Bool))):=
  cond (decide (a < (d.length : Int))) ((idx d a).bind fun b=>(idx f a).bind fun c=>cond (!((b.X0 == c.X0) && ((b.Y0 == c.Y0) && ((b.X1 == c.X1) && ((b.Y1 == c.Y1) && true))))) (some (.inr (.inr false))) (some (.inl (w64 (a + 1))))) (some (.inr (.inl ())))
noncomputable def q6t (a : List qi) (b : List qi) : Option Bool:=
  cond ((a.length : Int) != (b.length : Int)) (some false) ((loop (qd4 a b) 0 : Option ((Unit) ⊕ (Bool))).bind fun c=>(match c with | .inl _=>some true | .inr d=>some d))
noncomputable def q7v (c : Int) (a : Int × List qg) : Option ((Int × List qg) ⊕ (List qg)):=
  cond (decide (a.1 < (a.2.length : Int))) ((idx a.2 a.1).bind fun b=>some (.inl (w64 (a.1 + 1),a.2.set a.1.toNat ({Lo:=b.Lo,Hi:=({X:=b.Hi.X,Y:=b.Hi.Y,Z:=c} : Qa)} : qg)))) (some (.inr a.2))
noncomputable def q7w (c : List qi) (f : Int) (d : Int) (g : List qg) (a : Int × List qg) : Option ((Int × List qg) ⊕ (List qi × Int × Int × List qg)):=
  cond (decide (a.1 < (c.length : Int))) ((idx c a.1).bind fun b=>(app 48 a.2 [({Lo:=({X:=b.X0,Y:=b.Y0,Z:=f} : Qa),Hi:=({X:=b.X1,Y:=b.Y1,Z:=d} : Qa)} : qg)]).bind fun h=>some (.inl (w64 (a.1 + 1),h))) (some (.inr (c,(g.length : Int),d,a.2)))
noncomputable def q7u (a : List qg) (d : List qi) (f : Int) (h : Int) (g : Int) (b : Int) (c : List qi) : Option (List qi × Int × Int × List qg):=
  (cond (decide ((c.length : Int) > 0)) (some (h == g)) (some false)).bind fun j=>(cond j ((q6t d c).bind fun k=>some k) (some false)).bind fun l=>cond l ((loop (q7v b) (f,a)).bind fun m=>some (d,f,b,m)) ((loop (q7w c g b a) (0,a)).bind fun n=>some n)
noncomputable def q24 (b : List qg) (a : Int × List Int) : Option ((Int × List Int) ⊕ (List Int)):=
  cond (decide (a.1 < (b.length : Int))) ((idx b a.1).bind fun c=>(app 8 a.2 [c.Lo.Z,c.Hi.Z]).bind fun d=>some (.inl (w64 (a.1 + 1),d))) (some (.inr a.2))
noncomputable def q25 (c : List qg) (d : Int) (a : Int × List qi) : Option ((Int × List qi) ⊕ (List qi)):=
  cond (decide (a.1 < (c.length : Int))) (((idx c a.1).bind fun b=>(cond (decide (b.Lo.Z≤d)) (some (decide (d < b.Hi.Z))) (some false)).bind fun f=>cond f ((app 32 a.2 [({X0:=b.Lo.X,Y0:=b.Lo.Y,X1:=b.Hi.X,Y1:=b.Hi.Y} : qi)]).bind fun g=>some g) (some a.2)).bind fun h=>some (.inl (w64 (a.1 + 1),h))) (some (.inr a.2))
noncomputable def q4u (d : List Int) (h : List qg) (a : Int × List qi × Int × Int × List qg) : Option ((Int × List qi × Int × Int × List qg) ⊕ ((List qi × Int × Int × List qg) ⊕ (List qg × Int))):=
  cond (decide (a.1 < (d.length : Int))) ((idx d (w64 (a.1 - 1))).bind fun g=>(idx d a.1).bind fun j=>((idx [h] 0).bind fun k=>(loop (q25 k g) (0,[])).bind fun l=>some l).bind fun m=>((q1x m).bind fun f=>cond (f.2 != 0) (some (.inr ([],f.2))) ((q7u a.2.2.2.2 a.2.1 a.2.2.1 a.2.2.2.1 g j f.1).bind fun b=>some (.inl (b.1,b.2.1,b.2.2.1,b.2.2.2))) : Option ((List qi × Int × Int × List qg) ⊕ (List qg × Int))).bind fun n=>(match n with | .inl c=>some (.inl (w64 (a.1 + 1),c.1,c.2.1,c.2.2.1,c.2.2.2)) | .inr o=>some (.inr (.inr o)))) (some (.inr (.inl (a.2.1,a.2.2.1,a.2.2.2.1,a.2.2.2.2))))
noncomputable def q7z (f : List qg) : Option (List qg × Int):=
  (((idx [f] 0).bind fun j=>(loop (q24 j) (0,[])).bind fun b=>some b).bind fun g=>(U4 g).bind fun c=>(K3 c.length g.length).bind fun _=>(q16 c).bind fun a=>(K3 a.2.length c.length).bind fun _=>(q1b a.2.length a.1).bind fun _=>some ((a.2.drop a.1.1).take a.1.2)).bind fun k=>((loop (q4u k f) (1,[],0,0,[]) : Option ((List qi × Int × Int × List qg) ⊕ (List qg × Int))).bind fun l=>(match l with | .inl b=>some (.inl b) | .inr d=>some (.inr d)) : Option ((List qi × Int × Int × List qg) ⊕ (List qg × Int))).bind fun m=>(match m with | .inl h=>cond (decide ((h.2.2.2.length : Int) > 400)) (some ([],4)) (some (h.2.2.2,0)) | .inr d=>some d)
noncomputable def qgv (d : List qg) (f : List qg) (c : Int) : Option ((Int) ⊕ ((Unit) ⊕ (Bool))):=
  cond (decide (c < (d.length : Int))) ((idx d c).bind fun a=>(idx f c).bind fun b=>cond (!((a.Lo.X == b.Lo.X) && ((a.Lo.Y == b.Lo.Y) && ((a.Lo.Z == b.Lo.Z) && ((a.Hi.X == b.Hi.X) && ((a.Hi.Y == b.Hi.Y) && ((a.Hi.Z == b.Hi.Z) && true))))))) (some (.inr (.inr false))) (some (.inl (w64 (c + 1))))) (some (.inr (.inl ())))
noncomputable def qd5 (a : List qg) (b : List qg) : Option Bool:=
  cond ((a.length : Int) != (b.length : Int)) (some false) ((loop (qgv a b) 0 : Option ((Unit) ⊕ (Bool))).bind fun c=>(match c with | .inl _=>some true | .inr d=>some d))
noncomputable def q23 (a : List qg) : Option Int:=
  cond (decide ((a.length : Int) > 400)) (some 4) ((q20 a (fun c=>q3d c)).bind fun d=>cond d (some 8) ((q7z a).bind fun b=>(cond (b.2 != 0) (some true) ((qd5 b.1 a).bind fun f=>some (!f))).bind fun g=>cond g (some 8) (some 0)))
noncomputable def qb6 (a : Qy) : Option Bool:=
  some (decide (a.Depth < 0))
noncomputable def q87 (b : List (List qg)) (a : Int) : Option ((Int) ⊕ ((Unit) ⊕ (Int))):=
  cond (decide (a < (b.length : Int))) ((idx b a).bind fun d=>(q23 d).bind fun c=>cond (c != 0) (some (.inr (.inr c))) (some (.inl (w64 (a + 1))))) (some (.inr (.inl ())))
noncomputable def qb5 (a : Qp) (b : List (List qg)) : Option Int:=
  (q54 a).bind fun c=>cond (c.2 != 0) (some c.2) (cond (decide ((b.length : Int) > 20)) (some 4) ((loop (q87 b) 0 : Option ((Unit) ⊕ (Int))).bind fun d=>(match d with | .inl _=>(cond (decide ((a.Lines.length : Int) > 0)) (some ((b.length : Int) == 0)) (some false)).bind fun f=>cond f (some 6) ((q6s a.Lines (fun g=>qb6 g)).bind fun h=>cond h (some 2) (some 0)) | .inr j=>some j)))
noncomputable def qb7 (a : Qa) : Option Bool:=
  (cond (decide ((min (min a.X a.Y) a.Z) ≥ (-1000000))) (some (decide ((max (max a.X a.Y) a.Z)≤1000000))) (some false)).bind fun b=>some b
noncomputable def q4i (b : List qg) (c : qg→Option Bool) (a : Int) : Option ((Int) ⊕ ((Unit) ⊕ (Int))):=
  cond (decide (a < (b.length : Int))) ((idx b a).bind fun d=>(c d).bind fun f=>cond f (some (.inr (.inr a))) (some (.inl (w64 (a + 1))))) (some (.inr (.inl ())))
noncomputable def qd7 (a : List qg) (b : qg→Option Bool) : Option Int:=
  (loop (q4i a b) 0 : Option ((Unit) ⊕ (Int))).bind fun c=>(match c with | .inl _=>some (-1) | .inr d=>some d)
noncomputable def q9p (a : List qg) (b : qg→Option Bool) : Option Bool:=
  (qd7 a b).bind fun c=>some (decide (c ≥ 0))
noncomputable def q3e (a : qg) : Option Bool:=
  (q7y a).bind fun b=>some (!b)
noncomputable def qap (a : List qg) : Option (List qg × Int):=
  cond (decide ((a.length : Int) > 400)) (some ([],4)) ((q9p a (fun c=>q3e c)).bind fun d=>cond d (some ([],8)) ((q7z a).bind fun b=>some (b.1,b.2)))
noncomputable def q52 (d : List qg) (a : Qy) (c : Int × List qg) : Option ((Int × List qg) ⊕ ((List qg) ⊕ (List qg × Int))):=
  cond (decide (c.1 < (d.length : Int))) ((idx d c.1).bind fun b=>(qb7 ({X:=w64 (b.Lo.X + (min a.From.X a.To.X)),Y:=w64 (b.Lo.Y + (min a.From.Y a.To.Y)),Z:=w64 (b.Lo.Z + (min a.From.Z a.To.Z))} : Qa)).bind fun f=>(cond (!f) (some true) ((qb7 ({X:=w64 (b.Hi.X + (max a.From.X a.To.X)),Y:=w64 (b.Hi.Y + (max a.From.Y a.To.Y)),Z:=w64 (b.Hi.Z + (max a.From.Z a.To.Z))} : Qa)).bind fun g=>some (!g))).bind fun h=>cond h (some (.inr (.inr ([],16)))) ((app 48 c.2 [({Lo:=({X:=w64 (b.Lo.X + (min a.From.X a.To.X)),Y:=w64 (b.Lo.Y + (min a.From.Y a.To.Y)),Z:=w64 (b.Lo.Z + (min a.From.Z a.To.Z))} : Qa),Hi:=({X:=w64 (b.Hi.X + (max a.From.X a.To.X)),Y:=w64 (b.Hi.Y + (max a.From.Y a.To.Y)),Z:=w64 (b.Hi.Z + (max a.From.Z a.To.Z))} : Qa)} : qg)]).bind fun j=>some (.inl (w64 (c.1 + 1),j)))) (some (.inr (.inl c.2)))
noncomputable def q86 (b : Qy) (c : List qg) : Option (List qg × Int):=
  (loop (q52 c b) (0,[]) : Option ((List qg) ⊕ (List qg × Int))).bind fun d=>(match d with | .inl f=>(qap f).bind fun a=>some (a.1,a.2) | .inr g=>some g)
noncomputable def q84 (c : Qp) (d : List (List qg)) (a : Int × List (List qg)) : Option ((Int × List (List qg)) ⊕ ((List (List qg)) ⊕ (List (List qg) × Int))):=
  cond (decide (a.1 < (c.Lines.length : Int))) ((idx c.Lines a.1).bind fun f=>(idx d (min f.Depth (w64 ((d.length : Int) - 1)))).bind fun g=>(q86 f g).bind fun b=>(cond (b.2 != 0) (some (.inr ([],b.2))) ((app 24 a.2 [b.1]).bind fun h=>some (.inl h)) : Option ((List (List qg)) ⊕ (List (List qg) × Int))).bind fun j=>(match j with | .inl k=>some (.inl (w64 (a.1 + 1),k)) | .inr l=>some (.inr (.inr l)))) (some (.inr (.inl a.2)))
noncomputable def q28 (b : Qp) (c : List (List qg)) : Option (List (List qg) × Int):=
  (qb5 b c).bind fun d=>cond (d != 0) (some ([],d)) ((some ()).bind fun _=>((loop (q84 b c) (0,[]) : Option ((List (List qg)) ⊕ (List (List qg) × Int))).bind fun f=>(match f with | .inl g=>some (.inl g) | .inr a=>some (.inr a)) : Option ((List (List qg)) ⊕ (List (List qg) × Int))).bind fun h=>(match h with | .inl j=>some (j,0) | .inr a=>some a))
noncomputable def q63 (a : Kl) : Option Int:=
  (cond (decide (a.Turn ≥ 24)) (some true) ((J7 a.At (-1000000)).bind fun b=>some (!b))).bind fun c=>cond c (some 8) (some 0)
noncomputable def q64 (d : Qp) (a : Int) : Option ((Int) ⊕ ((Unit) ⊕ (Int))):=
  cond (decide (a < (d.Lines.length : Int))) ((idx d.Lines a).bind fun b=>(idx d.Lines a).bind fun c=>(cond (b.From.X != c.To.X) (some (w64 (0 + 1))) (some 0)).bind fun f=>(cond (b.From.Y != c.To.Y) (some (w64 (f + 1))) (some f)).bind fun g=>(cond (b.From.Z != c.To.Z) (some (w64 (g + 1))) (some g)).bind fun h=>(cond (decide (h > 1)) (some true) ((J7 b.From (-1000000)).bind fun j=>some (!j))).bind fun k=>(cond k (some true) ((J7 c.To (-1000000)).bind fun l=>some (!l))).bind fun m=>cond m (some (.inr (.inr 8))) (some (.inl (w64 (a + 1))))) (some (.inr (.inl ())))
noncomputable def q65 (b : Qp) (a : Int) : Option ((Int) ⊕ ((Unit) ⊕ (Int))):=
  cond (decide (a < (b.Marks.length : Int))) ((idx b.Marks a).bind fun c=>(q63 c.Frame).bind fun d=>cond (d != 0) (some (.inr (.inr 8))) (some (.inl (w64 (a + 1))))) (some (.inr (.inl ())))
noncomputable def q9e (a : Qp) : Option Int:=
  (cond (decide ((a.Lines.length : Int) > 2000)) (some true) (some (decide ((a.Marks.length : Int) > 2000)))).bind fun c=>(cond c (some true) ((q63 a.End.Frame).bind fun d=>some (d != 0))).bind fun f=>cond f (some 8) ((loop (q64 a) 0 : Option ((Unit) ⊕ (Int))).bind fun g=>(match g with | .inl _=>(loop (q65 a) 0 : Option ((Unit) ⊕ (Int))).bind fun h=>(match h with | .inl _=>some 0 | .inr b=>some b) | .inr b=>some b))
noncomputable def q9h (a : qg) : Option Bool:=
  (J7 a.Lo (-1000000)).bind fun b=>(cond b ((J7 a.Hi (-1000000)).bind fun c=>some c) (some false)).bind fun d=>(cond d (some (decide (a.Lo.X < a.Hi.X))) (some false)).bind fun f=>(cond f (some (decide (a.Lo.Y < a.Hi.Y))) (some false)).bind fun g=>(cond g (some (decide (a.Lo.Z < a.Hi.Z))) (some false)).bind fun h=>some h
noncomputable def q45 (b : Int × List Int) (c : List Int) (a : Int) : Option ((Int) ⊕ (Int)):=
  (cond (decide (a > 0)) ((idx b.2 (w64 (a - 1))).bind fun d=>(idx c b.1).bind fun f=>some (decide (d > f))) (some false)).bind fun g=>cond g (some (.inl (w64 (a - 1)))) (some (.inr a))
noncomputable def q44 (d : List Int) (a : Int × List Int) : Option ((Int × List Int) ⊕ (List Int)):=
  cond (decide (a.1 < (d.length : Int))) (((loop (q45 a d) (a.2.length : Int)).bind fun c=>(cond (decide (c > 0)) ((idx a.2 (w64 (c - 1))).bind fun h=>(idx d a.1).bind fun j=>some (h == j)) (some false)).bind fun k=>cond k (some a.2) ((app 8 a.2 [0]).bind fun b=>(sub2 b.length (w64 (c + 1)) b.length).bind fun g=>(sub2 b.length c b.length).bind fun f=>(idx d a.1).bind fun l=>(idx (cpyw b g ((b.drop f.1).take f.2)) c).bind fun _=>some ((cpyw b g ((b.drop f.1).take f.2)).set c.toNat l))).bind fun m=>some (.inl (w64 (a.1 + 1),m))) (some (.inr a.2))
noncomputable def U2 (a : List Int) : Option (List Int):=
  (loop (q44 a) (0,[])).bind fun b=>some b
noncomputable def q4c (b : List qg) (a : Int × List Int) : Option ((Int × List Int) ⊕ (List Int)):=
  cond (decide (a.1 < (b.length : Int))) ((idx b a.1).bind fun c=>(idx b a.1).bind fun d=>(app 8 a.2 [c.Lo.Z,d.Hi.Z]).bind fun f=>some (.inl (w64 (a.1 + 1),f))) (some (.inr a.2))
noncomputable def q4d (b : List qg) (a : Int × List Int) : Option ((Int × List Int) ⊕ (List Int)):=
  cond (decide (a.1 < (b.length : Int))) ((idx b a.1).bind fun c=>(idx b a.1).bind fun d=>(app 8 a.2 [c.Lo.Z,d.Hi.Z]).bind fun f=>some (.inl (w64 (a.1 + 1),f))) (some (.inr a.2))
noncomputable def q9g (a : List qg) (b : List qg) : Option (List Int):=
  (loop (q4c a) (0,[])).bind fun c=>(loop (q4d b) (0,c)).bind fun d=>(U2 d).bind fun f=>some f
noncomputable def q66 (b : List qg) (c : Int) (a : Int × List qi) : Option ((Int × List qi) ⊕ (List qi)):=
  cond (decide (a.1 < (b.length : Int))) (((idx b a.1).bind fun d=>(cond (decide (d.Lo.Z≤c)) ((idx b a.1).bind fun f=>some (decide (c < f.Hi.Z))) (some false)).bind fun g=>cond g ((idx b a.1).bind fun h=>(idx b a.1).bind fun j=>(idx b a.1).bind fun k=>(idx b a.1).bind fun l=>(app 32 a.2 [({X0:=h.Lo.X,Y0:=j.Lo.Y,X1:=k.Hi.X,Y1:=l.Hi.Y} : qi)]).bind fun m=>some m) (some a.2)).bind fun n=>some (.inl (w64 (a.1 + 1),n))) (some (.inr a.2))
noncomputable def U3 (a : List qg) (b : Int) : Option (List qi):=
  (loop (q66 a b) (0,[])).bind fun c=>some c
noncomputable def q48 (b : List qi) (a : Int × List Int) : Option ((Int × List Int) ⊕ (List Int)):=
  cond (decide (a.1 < (b.length : Int))) ((idx b a.1).bind fun c=>(idx b a.1).bind fun d=>(app 8 a.2 [c.X0,d.X1]).bind fun f=>some (.inl (w64 (a.1 + 1),f))) (some (.inr a.2))
noncomputable def q49 (b : List qi) (a : Int × List Int) : Option ((Int × List Int) ⊕ (List Int)):=
  cond (decide (a.1 < (b.length : Int))) ((idx b a.1).bind fun c=>(idx b a.1).bind fun d=>(app 8 a.2 [c.X0,d.X1]).bind fun f=>some (.inl (w64 (a.1 + 1),f))) (some (.inr a.2))
noncomputable def q9c (a : List qi) (b : List qi) : Option (List Int):=
  (loop (q48 a) (0,[])).bind fun c=>(loop (q49 b) (0,c)).bind fun d=>(U2 d).bind fun f=>some f
noncomputable def q4a (b : List qi) (a : Int × List Int) : Option ((Int × List Int) ⊕ (List Int)):=
  cond (decide (a.1 < (b.length : Int))) ((idx b a.1).bind fun c=>(idx b a.1).bind fun d=>(app 8 a.2 [c.Y0,d.Y1]).bind fun f=>some (.inl (w64 (a.1 + 1),f))) (some (.inr a.2))
noncomputable def q4b (b : List qi) (a : Int × List Int) : Option ((Int × List Int) ⊕ (List Int)):=
  cond (decide (a.1 < (b.length : Int))) ((idx b a.1).bind fun c=>(idx b a.1).bind fun d=>(app 8 a.2 [c.Y0,d.Y1]).bind fun f=>some (.inl (w64 (a.1 + 1),f))) (some (.inr a.2))
noncomputable def q9d (a : List qi) (b : List qi) : Option (List Int):=
  (loop (q4a a) (0,[])).bind fun c=>(loop (q4b b) (0,c)).bind fun d=>(U2 d).bind fun f=>some f
noncomputable def q30 (b : List qi) (c : Int) (d : Int) (a : Int) : Option ((Int) ⊕ ((Unit) ⊕ (Bool))):=
  cond (decide (a < (b.length : Int))) ((idx b a).bind fun f=>(cond (decide (f.X0≤c)) ((idx b a).bind fun g=>some (decide (c < g.X1))) (some false)).bind fun h=>(cond h ((idx b a).bind fun j=>some (decide (j.Y0≤d))) (some false)).bind fun k=>(cond k ((idx b a).bind fun l=>some (decide (d < l.Y1))) (some false)).bind fun m=>cond m (some (.inr (.inr true))) (some (.inl (w64 (a + 1))))) (some (.inr (.inl ())))
noncomputable def q5z (a : List qi) (b : Int) (c : Int) : Option Bool:=
  (loop (q30 a b c) 0 : Option ((Unit) ⊕ (Bool))).bind fun d=>(match d with | .inl _=>some false | .inr f=>some f)
noncomputable def q5x (c : Int) (a : Bool) (b : Bool) : Option Bool:=
  cond (c == 1) ((cond a (some b) (some false)).bind fun d=>some d) (cond (c == 2) ((cond a (some true) (some b)).bind fun f=>some f) ((cond a (some (!b)) (some false)).bind fun g=>some g))
noncomputable def q43 (b : List Int) (c : List Bool) (a : Int × List qk) : Option ((Int × List qk) ⊕ (List qk)):=
  cond (decide ((w64 (a.1 + 1)) < (b.length : Int))) (((idx c a.1).bind fun d=>cond (!d) (some a.2) ((cond (decide ((a.2.length : Int) > 0)) ((idx a.2 (w64 ((a.2.length : Int) - 1))).bind fun f=>(idx b a.1).bind fun g=>some (f.Hi == g)) (some false)).bind fun h=>cond h ((idx b (w64 (a.1 + 1))).bind fun j=>(idx a.2 (w64 ((a.2.length : Int) - 1))).bind fun k=>some (a.2.set (w64 ((a.2.length : Int) - 1)).toNat ({Lo:=k.Lo,Hi:=j} : qk))) ((idx b a.1).bind fun l=>(idx b (w64 (a.1 + 1))).bind fun m=>(app 16 a.2 [({Lo:=l,Hi:=m} : qk)]).bind fun n=>some n))).bind fun o=>some (.inl (w64 (a.1 + 1),o))) (some (.inr a.2))
noncomputable def q42 (a : List Int) (b : List Bool) : Option (List qk):=
  (loop (q43 a b) (0,[])).bind fun c=>some c
noncomputable def qcp (b : List qk) (f : List qk) (a : Int) : Option ((Int) ⊕ ((Unit) ⊕ (Bool))):=
  cond (decide (a < (b.length : Int))) ((idx b a).bind fun c=>(idx f a).bind fun d=>cond (!((c.Lo == d.Lo) && ((c.Hi == d.Hi) && true))) (some (.inr (.inr false))) (some (.inl (w64 (a + 1))))) (some (.inr (.inl ())))
noncomputable def q5y (a : List qk) (b : List qk) : Option Bool:=
  cond ((a.length : Int) != (b.length : Int)) (some false) ((loop (qcp a b) 0 : Option ((Unit) ⊕ (Bool))).bind fun c=>(match c with | .inl _=>some true | .inr d=>some d))
noncomputable def q46 (b : List Int) (c : List Int) (d : List qk × Int × Int × List qi) (f : List qi) (g : List qi) (h : Int) (a : Int × List Bool) : Option ((Int × List Bool) ⊕ (List Bool)):=
  cond (decide (a.1 < (b.length : Int))) ((idx c d.2.2.1).bind fun j=>(idx b a.1).bind fun k=>(q5z f j k).bind fun l=>(idx c d.2.2.1).bind fun m=>(idx b a.1).bind fun n=>(q5z g m n).bind fun o=>(q5x h l o).bind fun p=>(app 1 a.2 [p]).bind fun q=>some (.inl (w64 (a.1 + 1),q))) (some (.inr a.2))
noncomputable def q47 (c : List Int) (d : List qk × Int × Int × List qi) (a : Int × List qi) : Option ((Int × List qi) ⊕ (List qi)):=
  cond (decide (a.1 < (a.2.length : Int))) ((idx c (w64 (d.2.2.1 + 1))).bind fun f=>(idx a.2 a.1).bind fun b=>some (.inl (w64 (a.1 + 1),a.2.set a.1.toNat ({X0:=b.X0,Y0:=b.Y0,X1:=f,Y1:=b.Y1} : qi)))) (some (.inr a.2))
noncomputable def q60 (b : List qk) (d : List Int) (c : List qk × Int × Int × List qi) (a : Int × List qi) : Option ((Int × List qi) ⊕ (List qk × Int × List qi)):=
  cond (decide (a.1 < (b.length : Int))) ((idx d c.2.2.1).bind fun f=>(idx b a.1).bind fun g=>(idx d (w64 (c.2.2.1 + 1))).bind fun h=>(idx b a.1).bind fun j=>(app 32 a.2 [({X0:=f,Y0:=g.Lo,X1:=h,Y1:=j.Hi} : qi)]).bind fun k=>some (.inl (w64 (a.1 + 1),k))) (some (.inr (b,(c.2.2.2.length : Int),a.2)))
noncomputable def q31 (b : List Int) (d : List Int) (g : List qi) (h : List qi) (j : Int) (a : List qk × Int × Int × List qi) : Option ((List qk × Int × Int × List qi) ⊕ (List qi)):=
  cond (decide ((w64 (a.2.2.1 + 1)) < (b.length : Int))) (((loop (q46 d b a g h j) (0,[])).bind fun k=>(q42 d k).bind fun f=>(cond (decide (a.2.2.1 > 0)) ((q5y f a.1).bind fun l=>some l) (some false)).bind fun m=>cond m ((loop (q47 b a) (a.2.1,a.2.2.2)).bind fun n=>some (a.1,a.2.1,n)) ((loop (q60 f b a) (0,a.2.2.2)).bind fun o=>some o)).bind fun c=>some (.inl (c.1,c.2.1,w64 (a.2.2.1 + 1),c.2.2))) (some (.inr a.2.2.2))
noncomputable def Ji (c : Int) (a : List qi) (b : List qi) : Option (List qi):=
  (q9c a b).bind fun d=>(q9d a b).bind fun f=>(loop (q31 d f a b c) ([],0,0,[])).bind fun g=>some g
noncomputable def qcq (d : List qi) (f : List qi) (a : Int) : Option ((Int) ⊕ ((Unit) ⊕ (Bool))):=
  cond (decide (a < (d.length : Int))) ((idx d a).bind fun b=>(idx f a).bind fun c=>cond (!((b.X0 == c.X0) && ((b.Y0 == c.Y0) && ((b.X1 == c.X1) && ((b.Y1 == c.Y1) && true))))) (some (.inr (.inr false))) (some (.inl (w64 (a + 1))))) (some (.inr (.inl ())))
noncomputable def q62 (a : List qi) (b : List qi) : Option Bool:=
  cond ((a.length : Int) != (b.length : Int)) (some false) ((loop (qcq a b) 0 : Option ((Unit) ⊕ (Bool))).bind fun c=>(match c with | .inl _=>some true | .inr d=>some d))
noncomputable def q4f (c : List Int) (d : List qi × Int × Int × List qg) (a : Int × List qg) : Option ((Int × List qg) ⊕ (List qg)):=
  cond (decide (a.1 < (a.2.length : Int))) ((idx c (w64 (d.2.2.1 + 1))).bind fun f=>(idx a.2 a.1).bind fun b=>some (.inl (w64 (a.1 + 1),a.2.set a.1.toNat ({Lo:=b.Lo,Hi:=({X:=b.Hi.X,Y:=b.Hi.Y,Z:=f} : Qa)} : qg)))) (some (.inr a.2))
noncomputable def q68 (b : List qi) (d : List Int) (c : List qi × Int × Int × List qg) (a : Int × List qg) : Option ((Int × List qg) ⊕ (List qi × Int × List qg)):=
  cond (decide (a.1 < (b.length : Int))) ((idx b a.1).bind fun f=>(idx b a.1).bind fun g=>(idx d c.2.2.1).bind fun h=>(idx b a.1).bind fun j=>(idx b a.1).bind fun k=>(idx d (w64 (c.2.2.1 + 1))).bind fun l=>(app 48 a.2 [({Lo:=({X:=f.X0,Y:=g.Y0,Z:=h} : Qa),Hi:=({X:=j.X1,Y:=k.Y1,Z:=l} : Qa)} : qg)]).bind fun m=>some (.inl (w64 (a.1 + 1),m))) (some (.inr (b,(c.2.2.2.length : Int),a.2)))
noncomputable def q1w (b : List Int) (f : List qg) (g : List qg) (h : Int) (a : List qi × Int × Int × List qg) : Option ((List qi × Int × Int × List qg) ⊕ ((List qg) ⊕ (List qg × Bool))):=
  cond (decide ((w64 (a.2.2.1 + 1)) < (b.length : Int))) (((idx b a.2.2.1).bind fun j=>(U3 f j).bind fun k=>(idx b a.2.2.1).bind fun l=>(U3 g l).bind fun m=>(Ji h k m).bind fun c=>(cond (decide ((c.length : Int) > 400)) (some true) ((idx b a.2.2.1).bind fun n=>(U3 f n).bind fun o=>(Ji 2 o []).bind fun p=>some (decide ((p.length : Int) > 400)))).bind fun q=>(cond q (some true) ((idx b a.2.2.1).bind fun r=>(U3 g r).bind fun s=>(Ji 2 s []).bind fun t=>some (decide ((t.length : Int) > 400)))).bind fun u=>cond u (some (.inr ([],false))) ((cond (decide (a.2.2.1 > 0)) ((q62 c a.1).bind fun v=>some v) (some false)).bind fun w=>cond w ((loop (q4f b a) (a.2.1,a.2.2.2)).bind fun x=>some (.inl (a.1,a.2.1,x))) ((loop (q68 c b a) (0,a.2.2.2)).bind fun y=>some (.inl y))) : Option ((List qi × Int × List qg) ⊕ (List qg × Bool))).bind fun z=>(match z with | .inl d=>some (.inl (d.1,d.2.1,w64 (a.2.2.1 + 1),d.2.2)) | .inr x1=>some (.inr (.inr x1)))) (some (.inr (.inl a.2.2.2)))
noncomputable def q4e (d : Int) (a : List qg) (b : List qg) : Option (List qg × Bool):=
  (q9g a b).bind fun f=>(loop (q1w f a b d) ([],0,0,[]) : Option ((List qg) ⊕ (List qg × Bool))).bind fun g=>(match g with | .inl c=>some (c,decide ((c.length : Int)≤400)) | .inr h=>some h)
noncomputable def qct (d : List qg) (f : List qg) (c : Int) : Option ((Int) ⊕ ((Unit) ⊕ (Bool))):=
  cond (decide (c < (d.length : Int))) ((idx d c).bind fun a=>(idx f c).bind fun b=>cond (!((a.Lo.X == b.Lo.X) && ((a.Lo.Y == b.Lo.Y) && ((a.Lo.Z == b.Lo.Z) && ((a.Hi.X == b.Hi.X) && ((a.Hi.Y == b.Hi.Y) && ((a.Hi.Z == b.Hi.Z) && true))))))) (some (.inr (.inr false))) (some (.inl (w64 (c + 1))))) (some (.inr (.inl ())))
noncomputable def q4g (a : List qg) (b : List qg) : Option Bool:=
  cond ((a.length : Int) != (b.length : Int)) (some false) ((loop (qct a b) 0 : Option ((Unit) ⊕ (Bool))).bind fun c=>(match c with | .inl _=>some true | .inr d=>some d))
noncomputable def q67 (b : List qg) (a : Int) : Option ((Int) ⊕ ((Unit) ⊕ (Int))):=
  cond (decide (a < (b.length : Int))) ((idx b a).bind fun c=>(q9h c).bind fun d=>cond (!d) (some (.inr (.inr 8))) (some (.inl (w64 (a + 1))))) (some (.inr (.inl ())))
noncomputable def q9f (a : List qg) : Option Int:=
  cond (decide ((a.length : Int) > 400)) (some 4) ((loop (q67 a) 0 : Option ((Unit) ⊕ (Int))).bind fun c=>(match c with | .inl _=>(q4e 2 a []).bind fun b=>(cond (!b.2) (some true) ((q4g b.1 a).bind fun d=>some (!d))).bind fun f=>cond f (some 8) (some 0) | .inr g=>some g))
noncomputable def q6e (b : List (List qg)) (c : List (List qg)) (a : Int) : Option ((Int) ⊕ ((Unit) ⊕ (Bool))):=
  cond (decide (a < (b.length : Int))) ((idx b a).bind fun d=>(idx c a).bind fun f=>(q4g d f).bind fun g=>cond (!g) (some (.inr (.inr false))) (some (.inl (w64 (a + 1))))) (some (.inr (.inl ())))
noncomputable def q9i (a : List (List qg)) (b : List (List qg)) : Option Bool:=
  cond ((a.length : Int) != (b.length : Int)) (some false) ((loop (q6e a b) 0 : Option ((Unit) ⊕ (Bool))).bind fun c=>(match c with | .inl _=>some true | .inr d=>some d))
noncomputable def qb3 (a : Qy) (b : List qg) : Option (List qg × Int):=
  (q54 ({Lines:=[a],Marks:=[],End:=({Frame:=({Turn:=0,At:=({X:=0,Y:=0,Z:=0} : Qa)} : Kl),Drawn:=0} : Yi)} : Qp)).bind fun c=>cond (c.2 != 0) (some ([],c.2)) ((q23 b).bind fun d=>cond (d != 0) (some ([],d)) ((q86 a b).bind fun f=>some (f.1,f.2)))
noncomputable def qdh (b : List qg) (a : Int × List Int) : Option ((Int × List Int) ⊕ (List Int)):=
  cond (decide (a.1 < (b.length : Int))) ((idx b a.1).bind fun c=>(app 8 a.2 [c.Lo.Z,c.Hi.Z]).bind fun d=>some (.inl (w64 (a.1 + 1),d))) (some (.inr a.2))
noncomputable def qdi (b : List qg) (a : Int × List Int) : Option ((Int × List Int) ⊕ (List Int)):=
  cond (decide (a.1 < (b.length : Int))) ((idx b a.1).bind fun c=>(app 8 a.2 [c.Lo.Z,c.Hi.Z]).bind fun d=>some (.inl (w64 (a.1 + 1),d))) (some (.inr a.2))
noncomputable def qdj (c : List qg) (d : Int) (a : Int × List qi) : Option ((Int × List qi) ⊕ (List qi)):=
  cond (decide (a.1 < (c.length : Int))) (((idx c a.1).bind fun b=>(cond (decide (b.Lo.Z≤d)) (some (decide (d < b.Hi.Z))) (some false)).bind fun f=>cond f ((app 32 a.2 [({X0:=b.Lo.X,Y0:=b.Lo.Y,X1:=b.Hi.X,Y1:=b.Hi.Y} : qi)]).bind fun g=>some g) (some a.2)).bind fun h=>some (.inl (w64 (a.1 + 1),h))) (some (.inr a.2))
noncomputable def qdk (c : List qg) (d : Int) (a : Int × List qi) : Option ((Int × List qi) ⊕ (List qi)):=
  cond (decide (a.1 < (c.length : Int))) (((idx c a.1).bind fun b=>(cond (decide (b.Lo.Z≤d)) (some (decide (d < b.Hi.Z))) (some false)).bind fun f=>cond f ((app 32 a.2 [({X0:=b.Lo.X,Y0:=b.Lo.Y,X1:=b.Hi.X,Y1:=b.Hi.Y} : qi)]).bind fun g=>some g) (some a.2)).bind fun h=>some (.inl (w64 (a.1 + 1),h))) (some (.inr a.2))
noncomputable def q4t (f : List Int) (l : List qg) (m : List qg) (o : List qi→List qi→Option (List qi × Int)) (a : Int × List qi × Int × Int × List qg) : Option ((Int × List qi × Int × Int × List qg) ⊕ ((List qi × Int × Int × List qg) ⊕ (List qg × Int))):=
  cond (decide (a.1 < (f.length : Int))) ((idx f (w64 (a.1 - 1))).bind fun g=>(idx f a.1).bind fun p=>((idx [l,m] 0).bind fun q=>(loop (qdj q g) (0,[])).bind fun h=>some h).bind fun r=>((idx [l,m] 1).bind fun s=>(loop (qdk s g) (0,[])).bind fun h=>some h).bind fun t=>((q1x r).bind fun b=>(cond (b.2 == 0) ((q1x t).bind fun j=>cond (j.2 == 0) ((o b.1 j.1).bind fun n=>some (n.1,n.2)) (some (b.1,j.2))) (some (b.1,b.2))).bind fun k=>cond (k.2 != 0) (some (.inr ([],k.2))) ((q7u a.2.2.2.2 a.2.1 a.2.2.1 a.2.2.2.1 g p k.1).bind fun c=>some (.inl (c.1,c.2.1,c.2.2.1,c.2.2.2))) : Option ((List qi × Int × Int × List qg) ⊕ (List qg × Int))).bind fun u=>(match u with | .inl d=>some (.inl (w64 (a.1 + 1),d.1,d.2.1,d.2.2.1,d.2.2.2)) | .inr v=>some (.inr (.inr v)))) (some (.inr (.inl (a.2.1,a.2.2.1,a.2.2.2.1,a.2.2.2.2))))
noncomputable def qas (k : List qi→List qi→Option (List qi × Int)) (c : List qg) (d : List qg) : Option (List qg × Int):=
  (((idx [c,d] 0).bind fun l=>(loop (qdh l) (0,[])).bind fun b=>some b).bind fun m=>((idx [c,d] 1).bind fun n=>(loop (qdi n) (0,m)).bind fun b=>some b).bind fun h=>(U4 h).bind fun f=>(K3 f.length h.length).bind fun _=>(q16 f).bind fun a=>(K3 a.2.length f.length).bind fun _=>(q1b a.2.length a.1).bind fun _=>some ((a.2.drop a.1.1).take a.1.2)).bind fun o=>((loop (q4t o c d k) (1,[],0,0,[]) : Option ((List qi × Int × Int × List qg) ⊕ (List qg × Int))).bind fun p=>(match p with | .inl b=>some (.inl b) | .inr g=>some (.inr g)) : Option ((List qi × Int × Int × List qg) ⊕ (List qg × Int))).bind fun q=>(match q with | .inl j=>cond (decide ((j.2.2.2.length : Int) > 400)) (some ([],4)) (some (j.2.2.2,0)) | .inr g=>some g)
noncomputable def qar (a : List qg) (b : List qg) (g : List qi→List qi→Option (List qi × Int)) : Option (List qg × Int):=
  (q23 a).bind fun c=>cond (c != 0) (some ([],c)) ((q23 b).bind fun d=>cond (d != 0) (some ([],d)) ((qas g a b).bind fun f=>some (f.1,f.2)))
noncomputable def q4k (b : List qi) (c : qi→Option Bool) (a : Int) : Option ((Int) ⊕ ((Unit) ⊕ (Int))):=
  cond (decide (a < (b.length : Int))) ((idx b a).bind fun d=>(c d).bind fun f=>cond f (some (.inr (.inr a))) (some (.inl (w64 (a + 1))))) (some (.inr (.inl ())))
noncomputable def qdb (a : List qi) (b : qi→Option Bool) : Option Int:=
  (loop (q4k a b) 0 : Option ((Unit) ⊕ (Int))).bind fun c=>(match c with | .inl _=>some (-1) | .inr d=>some d)
noncomputable def q9s (a : List qi) (b : qi→Option Bool) : Option Bool:=
  (qdb a b).bind fun c=>some (decide (c ≥ 0))
noncomputable def q33 (a : qi) : Option Bool:=
  (q6m a).bind fun b=>some (!b)
noncomputable def q6g (a : List qi) : Option Int:=
  cond (decide ((a.length : Int) > 400)) (some 4) ((q9s a (fun c=>q33 c)).bind fun d=>cond d (some 8) ((q6l a).bind fun b=>(cond (b.2 != 0) (some true) ((q6t b.1 a).bind fun f=>some (!f))).bind fun g=>cond g (some 8) (some 0)))
noncomputable def q9j (b : List qi) (c : List qi) : Option Int:=
  (q6g b).bind fun a=>cond (a != 0) (some a) ((q6g c).bind fun d=>some d)
noncomputable def qcw (b : List qi) (a : Int × List Int) : Option ((Int × List Int) ⊕ (List Int)):=
  cond (decide (a.1 < (b.length : Int))) ((idx b a.1).bind fun c=>(app 8 a.2 [c.X0,c.X1]).bind fun d=>some (.inl (w64 (a.1 + 1),d))) (some (.inr a.2))
noncomputable def qcx (b : List qi) (a : Int × List Int) : Option ((Int × List Int) ⊕ (List Int)):=
  cond (decide (a.1 < (b.length : Int))) ((idx b a.1).bind fun c=>(app 8 a.2 [c.X0,c.X1]).bind fun d=>some (.inl (w64 (a.1 + 1),d))) (some (.inr a.2))
noncomputable def qcy (c : List qi) (d : Int) (a : Int × List qk) : Option ((Int × List qk) ⊕ (List qk)):=
  cond (decide (a.1 < (c.length : Int))) (((idx c a.1).bind fun b=>(cond (decide (b.X0≤d)) (some (decide (d < b.X1))) (some false)).bind fun f=>cond f ((app 16 a.2 [({Lo:=b.Y0,Hi:=b.Y1} : qk)]).bind fun g=>some g) (some a.2)).bind fun h=>some (.inl (w64 (a.1 + 1),h))) (some (.inr a.2))
noncomputable def qcz (c : List qi) (d : Int) (a : Int × List qk) : Option ((Int × List qk) ⊕ (List qk)):=
  cond (decide (a.1 < (c.length : Int))) (((idx c a.1).bind fun b=>(cond (decide (b.X0≤d)) (some (decide (d < b.X1))) (some false)).bind fun f=>cond f ((app 16 a.2 [({Lo:=b.Y0,Hi:=b.Y1} : qk)]).bind fun g=>some g) (some a.2)).bind fun h=>some (.inl (w64 (a.1 + 1),h))) (some (.inr a.2))
noncomputable def q4h (d : List Int) (j : List qi) (k : List qi) (l : List qk→List qk→Option (List qk × Int)) (a : Int × List qk × Int × Int × List qi) : Option ((Int × List qk × Int × Int × List qi) ⊕ ((List qk × Int × Int × List qi) ⊕ (List qi × Int))):=
  cond (decide (a.1 < (d.length : Int))) ((idx d (w64 (a.1 - 1))).bind fun f=>(idx d a.1).bind fun m=>((idx [j,k] 0).bind fun n=>(loop (qcy n f) (0,[])).bind fun g=>some g).bind fun o=>((idx [j,k] 1).bind fun p=>(loop (qcz p f) (0,[])).bind fun g=>some g).bind fun q=>((l o q).bind fun h=>cond (h.2 != 0) (some (.inr ([],h.2))) ((q6i a.2.2.2.2 a.2.1 a.2.2.1 a.2.2.2.1 f m h.1).bind fun b=>some (.inl (b.1,b.2.1,b.2.2.1,b.2.2.2))) : Option ((List qk × Int × Int × List qi) ⊕ (List qi × Int))).bind fun r=>(match r with | .inl c=>some (.inl (w64 (a.1 + 1),c.1,c.2.1,c.2.2.1,c.2.2.2)) | .inr s=>some (.inr (.inr s)))) (some (.inr (.inl (a.2.1,a.2.2.1,a.2.2.2.1,a.2.2.2.2))))
noncomputable def q9k (c : List qi) (d : List qi) (m : List qk→List qk→Option (List qk × Int)) : Option (List qi × Int):=
  (q9j c d).bind fun h=>cond (h != 0) (some ([],h)) ((((idx [c,d] 0).bind fun n=>(loop (qcw n) (0,[])).bind fun b=>some b).bind fun o=>((idx [c,d] 1).bind fun p=>(loop (qcx p) (0,o)).bind fun b=>some b).bind fun j=>(U4 j).bind fun f=>(K3 f.length j.length).bind fun _=>(q16 f).bind fun a=>(K3 a.2.length f.length).bind fun _=>(q1b a.2.length a.1).bind fun _=>some ((a.2.drop a.1.1).take a.1.2)).bind fun q=>((loop (q4h q c d m) (1,[],0,0,[]) : Option ((List qk × Int × Int × List qi) ⊕ (List qi × Int))).bind fun r=>(match r with | .inl b=>some (.inl b) | .inr g=>some (.inr g)) : Option ((List qk × Int × Int × List qi) ⊕ (List qi × Int))).bind fun s=>(match s with | .inl k=>(cond (decide ((k.2.2.2.length : Int) > 400)) (some (4,[])) (some (0,k.2.2.2))).bind fun l=>some (l.2,l.1) | .inr g=>some g))
noncomputable def q26 (b : List qk) (a : Int) : Option ((Int) ⊕ ((Unit) ⊕ (Int))):=
  cond (decide (a < (b.length : Int))) ((idx b a).bind fun c=>(q3h c).bind fun d=>(cond (!d) (some true) ((cond (decide (a > 0)) ((idx b (w64 (a - 1))).bind fun f=>some (decide (f.Hi ≥ c.Lo))) (some false)).bind fun g=>some g)).bind fun h=>cond h (some (.inr (.inr 8))) (some (.inl (w64 (a + 1))))) (some (.inr (.inl ())))
noncomputable def q3f (a : List qk) : Option Int:=
  cond (decide ((a.length : Int) > 400)) (some 4) ((loop (q26 a) 0 : Option ((Unit) ⊕ (Int))).bind fun b=>(match b with | .inl _=>some 0 | .inr c=>some c))
noncomputable def qav (a : List qk) (b : List qk) (g : Bool→Bool→Option Bool) : Option (List qk × Int):=
  (q3f a).bind fun c=>cond (c != 0) (some ([],c)) ((q3f b).bind fun d=>cond (d != 0) (some ([],d)) ((q3g a b g).bind fun f=>cond (decide ((f.length : Int) > 400)) (some ([],4)) (some (f,0))))
noncomputable def qdm (a : Bool) (b : Bool) : Option Bool:=
  (cond a (some true) (some b)).bind fun c=>some c
noncomputable def q81 (b : List qk) (c : List qk) : Option (List qk × Int):=
  (qav b c (fun d f=>qdm d f)).bind fun a=>some (a.1,a.2)
noncomputable def q6h (b : List qi) (c : List qi) : Option (List qi × Int):=
  (q9k b c (fun d f=>q81 d f)).bind fun a=>some (a.1,a.2)
noncomputable def q7s (b : List qg) (c : List qg) : Option (List qg × Int):=
  (qar b c (fun d f=>q6h d f)).bind fun a=>some (a.1,a.2)
noncomputable def q51 (c : List (List qg) × Int) (a : List qg × Int) : Option ((List qg × Int) ⊕ ((List qg) ⊕ (List qg × Int))):=
  cond (decide (a.2 < (c.1.length : Int))) ((idx c.1 a.2).bind fun d=>(q7s a.1 d).bind fun b=>cond (b.2 != 0) (some (.inr (.inr ([],b.2)))) (some (.inl (b.1,w64 (a.2 + 1))))) (some (.inr (.inl a.1)))
noncomputable def q19 (b : Qp) (c : List (List qg)) : Option (List qg × Int):=
  (q28 b c).bind fun a=>cond (a.2 != 0) (some ([],a.2)) ((loop (q51 a) ([],0) : Option ((List qg) ⊕ (List qg × Int))).bind fun d=>(match d with | .inl f=>some (f,0) | .inr g=>some g))
noncomputable def qb4 (a : Qy) (b : Qy) : Option Bool:=
  (cond (!((a.From.X == b.From.X) && ((a.From.Y == b.From.Y) && ((a.From.Z == b.From.Z) && true)))) (some (!((a.From.X == b.To.X) && ((a.From.Y == b.To.Y) && ((a.From.Z == b.To.Z) && true))))) (some false)).bind fun c=>(cond c (some (!((a.To.X == b.From.X) && ((a.To.Y == b.From.Y) && ((a.To.Z == b.From.Z) && true))))) (some false)).bind fun d=>(cond d (some (!((a.To.X == b.To.X) && ((a.To.Y == b.To.Y) && ((a.To.Z == b.To.Z) && true))))) (some false)).bind fun f=>some f
noncomputable def q88 (a : qg) (b : qg) : Option Bool:=
  (cond (decide (b.Lo.X < a.Hi.X)) (some (decide (a.Lo.X < b.Hi.X))) (some false)).bind fun c=>(cond c (some (decide (b.Lo.Y < a.Hi.Y))) (some false)).bind fun d=>(cond d (some (decide (a.Lo.Y < b.Hi.Y))) (some false)).bind fun f=>(cond f (some (decide (b.Lo.Z < a.Hi.Z))) (some false)).bind fun g=>(cond g (some (decide (a.Lo.Z < b.Hi.Z))) (some false)).bind fun h=>some h
noncomputable def qb9 (a : qg) (b : List qg) : Option Bool:=
  (q20 b (fun c=>q88 c a)).bind fun d=>some d
noncomputable def qb8 (a : List qg) (b : List qg) : Option Bool:=
  (q20 a (fun c=>qb9 c b)).bind fun d=>some d
def Ub (x : Int × Int) : List DV:=[.int .i64 x.1,.int .i64 x.2]
noncomputable def q4y (b : Int × (List ((Int × Int) × Bool))) (c : Qp) (d : List (List qg) × Int) (a : Int × (List ((Int × Int) × Bool))) : Option ((Int × (List ((Int × Int) × Bool))) ⊕ ((List ((Int × Int) × Bool)))):=
  cond (decide (a.1 < b.1)) (((idx c.Lines a.1).bind fun f=>(idx c.Lines b.1).bind fun g=>(qb4 f g).bind fun h=>(cond h ((idx d.1 a.1).bind fun j=>(idx d.1 b.1).bind fun k=>(qb8 j k).bind fun l=>some l) (some false)).bind fun m=>cond m (some (Ul (a.1,b.1) true a.2)) (some a.2)).bind fun n=>some (.inl (w64 (a.1 + 1),n))) (some (.inr a.2))
noncomputable def q85 (b : List (List qg) × Int) (c : Qp) (a : Int × (List ((Int × Int) × Bool))) : Option ((Int × (List ((Int × Int) × Bool))) ⊕ ((List ((Int × Int) × Bool)))):=
  cond (decide (a.1 < (b.1.length : Int))) (((loop (q4y a c b) (0,a.2)).bind fun d=>some d).bind fun f=>some (.inl (w64 (a.1 + 1),f))) (some (.inr a.2))
noncomputable def q50 (c : List (List qg) × Int) (b : Int × (List (Int × Int))) (d : (List ((Int × Int) × Bool))) (a : Int × (List (Int × Int))) : Option ((Int × (List (Int × Int))) ⊕ ((List (Int × Int)))):=
  cond (decide (a.1 < (c.1.length : Int))) ((cond (Zb false (b.1,a.1) d) ((app 16 a.2 [(b.1,a.1)]).bind fun f=>some f) (some a.2)).bind fun g=>some (.inl (w64 (a.1 + 1),g))) (some (.inr a.2))
noncomputable def q4z (b : List (List qg) × Int) (c : (List ((Int × Int) × Bool))) (a : Int × (List (Int × Int))) : Option ((Int × (List (Int × Int))) ⊕ ((List (Int × Int)))):=
  cond (decide (a.1 < (b.1.length : Int))) (((loop (q50 b a c) (0,a.2)).bind fun d=>some d).bind fun f=>some (.inl (w64 (a.1 + 1),f))) (some (.inr a.2))
noncomputable def q29 (b : Qp) (c : List (List qg)) : Option ((List (Int × Int)) × Int):=
  (q28 b c).bind fun a=>cond (a.2 != 0) (some ([],a.2)) ((loop (q85 a b) (0,[])).bind fun d=>(loop (q4z a d) (0,[])).bind fun f=>some (f,0))
noncomputable def q6d (b : List (Int × Int)) (f : List (Int × Int)) (a : Int) : Option ((Int) ⊕ ((Unit) ⊕ (Bool))):=
  cond (decide (a < (b.length : Int))) ((idx b a).bind fun c=>(idx f a).bind fun d=>cond (!((c.1 == d.1) && ((c.2 == d.2) && true))) (some (.inr (.inr false))) (some (.inl (w64 (a + 1))))) (some (.inr (.inl ())))
noncomputable def q6c (a : List (Int × Int)) (b : List (Int × Int)) : Option Bool:=
  cond ((a.length : Int) != (b.length : Int)) (some false) ((loop (q6d a b) 0 : Option ((Unit) ⊕ (Bool))).bind fun c=>(match c with | .inl _=>some true | .inr d=>some d))
noncomputable def q1s (a : Int) (b : Int) (c : Int) (d : Int) : Option Qy:=
  some ({From:=({X:=a,Y:=b,Z:=0} : Qa),To:=({X:=c,Y:=d,Z:=0} : Qa),Depth:=0} : Qy)
noncomputable def q5p : Option (List qg):=
  some [({Lo:=({X:=0,Y:=0,Z:=0} : Qa),Hi:=({X:=1,Y:=1,Z:=1} : Qa)} : qg)]
noncomputable def qdg (a : qg) : Option (Int × Int × Int):=
  some (w64 (a.Hi.X - a.Lo.X),w64 (a.Hi.Y - a.Lo.Y),w64 (a.Hi.Z - a.Lo.Z))
noncomputable def q7t (c : List qg) (a : Int × Int) : Option ((Int × Int) ⊕ (Int)):=
  cond (decide (a.2 < (c.length : Int))) ((idx c a.2).bind fun d=>(qdg d).bind fun b=>some (.inl (w64 (a.1 + (w64 ((w64 (b.1 * b.2.1)) * b.2.2))),w64 (a.2 + 1)))) (some (.inr a.1))
noncomputable def qaq (a : List qg) : Option (Int × Int):=
  (q23 a).bind fun b=>cond (b != 0) (some (0,b)) ((loop (q7t a) (0,0)).bind fun c=>some (c,0))
noncomputable def q90 : Option Bool:=
  (q1s 0 0 3 0).bind fun f=>q5p.bind fun g=>(qb3 f g).bind fun a=>(q1s 0 0 1 0).bind fun h=>(q1s 1 0 2 0).bind fun j=>(q1s 2 0 2 1).bind fun k=>q5p.bind fun l=>(q19 ({Lines:=[h,j,k],Marks:=[],End:=({Frame:=({Turn:=0,At:=({X:=0,Y:=0,Z:=0} : Qa)} : Kl),Drawn:=0} : Yi)} : Qp) [l]).bind fun b=>(qaq b.1).bind fun c=>(q1s 0 0 2 0).bind fun m=>(q1s 1 (-1) 1 1).bind fun n=>q5p.bind fun o=>(q29 ({Lines:=[m,n],Marks:=[],End:=({Frame:=({Turn:=0,At:=({X:=0,Y:=0,Z:=0} : Qa)} : Kl),Drawn:=0} : Yi)} : Qp) [o]).bind fun d=>cond (a.2 == 0) ((q4g a.1 [({Lo:=({X:=0,Y:=0,Z:=0} : Qa),Hi:=({X:=4,Y:=1,Z:=1} : Qa)} : qg)]).bind fun p=>(cond p (some (b.2 == 0)) (some false)).bind fun q=>(cond q (some (c.2 == 0)) (some false)).bind fun r=>(cond r (some (c.1 == 4)) (some false)).bind fun s=>(cond s (some (d.2 == 0)) (some false)).bind fun t=>cond t ((q6c d.1 [(0,1)]).bind fun u=>some u) (some false)) (some false)
noncomputable def q5m (c : Qp) (b : Int) : Option ((Int) ⊕ ((Unit) ⊕ (Bool))):=
  cond (decide (b < (c.Lines.length : Int))) ((idx c.Lines b).bind fun a=>(cond (decide (a.Depth < 0)) (some true) ((J7 a.From (-1000)).bind fun d=>some (!d))).bind fun f=>(cond f (some true) (some (decide ((max (max a.From.X a.From.Y) a.From.Z) > 1000)))).bind fun g=>cond g (some (.inr (.inr false))) (some (.inl (w64 (b + 1))))) (some (.inr (.inl ())))
noncomputable def q5n (b : List (List qg)) (a : Int) : Option ((Int) ⊕ ((Unit) ⊕ (Bool))):=
  cond (decide (a < (b.length : Int))) ((idx b a).bind fun c=>(q9f c).bind fun d=>cond (d != 0) (some (.inr (.inr false))) (some (.inl (w64 (a + 1))))) (some (.inr (.inl ())))
noncomputable def q5l (b : Qp) (a : List (List qg)) : Option Bool:=
  (q69 b a).bind fun d=>(cond d (some true) ((q9e b).bind fun f=>some (f != 0))).bind fun g=>(cond g (some true) (some (decide ((a.length : Int) < 1)))).bind fun h=>(cond h (some true) (some (decide ((a.length : Int) > 5)))).bind fun j=>cond j (some false) ((loop (q5m b) 0 : Option ((Unit) ⊕ (Bool))).bind fun k=>(match k with | .inl _=>(loop (q5n a) 0 : Option ((Unit) ⊕ (Bool))).bind fun l=>(match l with | .inl _=>some true | .inr c=>some c) | .inr c=>some c))
noncomputable def q3y (c : Qp) (a : Int × List Qy) : Option ((Int × List Qy) ⊕ (List Qy)):=
  cond (decide (a.1 < (c.Lines.length : Int))) ((idx c.Lines a.1).bind fun b=>(app 56 a.2 [({From:=b.To,To:=b.From,Depth:=b.Depth} : Qy)]).bind fun d=>some (.inl (w64 (a.1 + 1),d))) (some (.inr a.2))
noncomputable def qcb (a : Qp) (b : List (List qg)) (d : Int) : Option Bool:=
  q90.bind fun f=>(q5l a b).bind fun p=>(cond (!p) (some true) (some (decide (d < 0)))).bind fun q=>(cond q (some true) (some (decide (d > (a.Lines.length : Int))))).bind fun r=>(cond r (some true) (some (!f))).bind fun s=>cond s (some f) ((loop (q3y a) (0,[])).bind fun g=>(q28 a b).bind fun h=>(q28 ({Lines:=g,Marks:=[],End:=({Frame:=({Turn:=0,At:=({X:=0,Y:=0,Z:=0} : Qa)} : Kl),Drawn:=0} : Yi)} : Qp) b).bind fun j=>(q29 a b).bind fun k=>(q29 ({Lines:=g,Marks:=[],End:=({Frame:=({Turn:=0,At:=({X:=0,Y:=0,Z:=0} : Qa)} : Kl),Drawn:=0} : Yi)} : Qp) b).bind fun l=>(cond (h.2 != j.2) (some true) (some (k.2 != l.2))).bind fun t=>(cond t (some true) ((q9i h.1 j.1).bind fun u=>some (!u))).bind fun v=>(cond v (some true) ((q6c k.1 l.1).bind fun w=>some (!w))).bind fun x=>cond x (some false) ((q19 a b).bind fun c=>(slc a.Lines 0 d).bind fun y=>(q19 ({Lines:=y,Marks:=[],End:=({Frame:=({Turn:=0,At:=({X:=0,Y:=0,Z:=0} : Qa)} : Kl),Drawn:=0} : Yi)} : Qp) b).bind fun m=>(slc a.Lines d a.Lines.length).bind fun z=>(q19 ({Lines:=z,Marks:=[],End:=({Frame:=({Turn:=0,At:=({X:=0,Y:=0,Z:=0} : Qa)} : Kl),Drawn:=0} : Yi)} : Qp) b).bind fun n=>(cond (c.2 != 0) (some true) (some (m.2 != 0))).bind fun aa=>(cond aa (some true) (some (n.2 != 0))).bind fun ab=>cond ab ((cond f ((cond (c.2 == 0) (some true) (some (c.2 == 16))).bind fun ac=>(cond ac (some true) (some (c.2 == 4))).bind fun ad=>some ad) (some false)).bind fun ae=>some ae) ((q7s m.1 n.1).bind fun o=>(cond f ((cond (o.2 != 0) (some true) ((q4g c.1 o.1).bind fun af=>some af)).bind fun ag=>some ag) (some false)).bind fun ah=>some ah)))
noncomputable def qk1 (a : Int) : Option Qa:=
  cond ((IntKind.wrap .u8 (Int.tdiv a 2)) == 0) (some ({X:=w64 (1 - (w64 (2 * (w64 (Int.tmod a 2))))),Y:=0,Z:=0} : Qa)) (cond ((IntKind.wrap .u8 (Int.tdiv a 2)) == 1) (some ({X:=0,Y:=w64 (1 - (w64 (2 * (w64 (Int.tmod a 2))))),Z:=0} : Qa)) (some ({X:=0,Y:=0,Z:=w64 (1 - (w64 (2 * (w64 (Int.tmod a 2)))))} : Qa)))
noncomputable def qs0 (a : Qa) (b : Qa) : Option Qa:=
  some ({X:=w64 ((w64 (a.Y * b.Z)) - (w64 (a.Z * b.Y))),Y:=w64 ((w64 (a.Z * b.X)) - (w64 (a.X * b.Z))),Z:=w64 ((w64 (a.X * b.Y)) - (w64 (a.Y * b.X)))} : Qa)
noncomputable def qrz (a : Int) : Option (Qa × Qa × Qa):=
  (cond (decide ((Int.tmod a 4) ≥ (IntKind.wrap .u8 ((IntKind.wrap .u8 (Int.tdiv (IntKind.wrap .u8 (Int.tdiv a 4)) 2)) * 2)))) (some (IntKind.wrap .u8 ((Int.tmod a 4) + 2))) (some (Int.tmod a 4))).bind fun d=>(qk1 (IntKind.wrap .u8 (Int.tdiv a 4))).bind fun b=>(qk1 d).bind fun c=>(qs0 b c).bind fun f=>some (b,c,f)
noncomputable def qm9 (a : qk) : Option Bool:=
  (cond (decide (a.Lo < a.Hi)) (some (decide (a.Lo ≥ (-1000000)))) (some false)).bind fun b=>(cond b (some (decide (a.Hi≤1000000))) (some false)).bind fun c=>some c
noncomputable def qge (b : List qk) (a : Int) : Option ((Int) ⊕ ((Unit) ⊕ (Int))):=
  cond (decide (a < (b.length : Int))) ((idx b a).bind fun c=>(qm9 c).bind fun d=>(cond (!d) (some true) ((cond (decide (a > 0)) ((idx b (w64 (a - 1))).bind fun f=>(idx b a).bind fun g=>some (decide (f.Hi ≥ g.Lo))) (some false)).bind fun h=>some h)).bind fun j=>cond j (some (.inr (.inr 8))) (some (.inl (w64 (a + 1))))) (some (.inr (.inl ())))
noncomputable def qcm (a : List qk) : Option Int:=
  cond (decide ((a.length : Int) > 400)) (some 4) ((loop (qge a) 0 : Option ((Unit) ⊕ (Int))).bind fun b=>(match b with | .inl _=>some 0 | .inr c=>some c))
noncomputable def q98 (b : List qk) (a : Int × List Int) : Option ((Int × List Int) ⊕ (List Int)):=
  cond (decide (a.1 < (b.length : Int))) ((idx b a.1).bind fun c=>(idx b a.1).bind fun d=>(app 8 a.2 [c.Lo,d.Hi]).bind fun f=>some (.inl (w64 (a.1 + 1),f))) (some (.inr a.2))
noncomputable def qm6 (b : List qk) (a : Int × List Int) : Option ((Int × List Int) ⊕ (List Int)):=
  cond (decide (a.1 < (b.length : Int))) ((idx b a.1).bind fun c=>(idx b a.1).bind fun d=>(app 8 a.2 [c.Lo,d.Hi]).bind fun f=>some (.inl (w64 (a.1 + 1),f))) (some (.inr a.2))
noncomputable def qgf (a : List qk) (b : List qk) : Option (List Int):=
  (loop (q98 a) (0,[])).bind fun c=>(loop (qm6 b) (0,c)).bind fun d=>(U2 d).bind fun f=>some f
noncomputable def q99 (b : List qk) (c : Int) (a : Int) : Option ((Int) ⊕ ((Unit) ⊕ (Bool))):=
  cond (decide (a < (b.length : Int))) ((idx b a).bind fun d=>(cond (decide (d.Lo≤c)) ((idx b a).bind fun f=>some (decide (c < f.Hi))) (some false)).bind fun g=>cond g (some (.inr (.inr true))) (some (.inl (w64 (a + 1))))) (some (.inr (.inl ())))
noncomputable def qcn (a : List qk) (b : Int) : Option Bool:=
  (loop (q99 a b) 0 : Option ((Unit) ⊕ (Bool))).bind fun c=>(match c with | .inl _=>some false | .inr d=>some d)
noncomputable def q9a (b : List Int) (c : List qk) (d : List qk) (f : Int) (a : Int × List Bool) : Option ((Int × List Bool) ⊕ (List Bool)):=
  cond (decide (a.1 < (b.length : Int))) ((idx b a.1).bind fun g=>(qcn c g).bind fun h=>(idx b a.1).bind fun j=>(qcn d j).bind fun k=>(q5x f h k).bind fun l=>(app 1 a.2 [l]).bind fun m=>some (.inl (w64 (a.1 + 1),m))) (some (.inr a.2))
noncomputable def qco (d : Int) (a : List qk) (b : List qk) : Option (List qk):=
  (qgf a b).bind fun c=>(loop (q9a c a b d) (0,[])).bind fun f=>(q42 c f).bind fun g=>some g
noncomputable def qat (b : List qk) (a : Int × Int) : Option ((Int × Int) ⊕ (Int)):=
  cond (decide (a.2 < (b.length : Int))) ((idx b a.2).bind fun c=>some (.inl (w64 (a.1 + (w64 (c.Hi - c.Lo))),w64 (a.2 + 1)))) (some (.inr a.1))
noncomputable def qo0 (a : List qk) : Option (Int × Int):=
  (q3f a).bind fun b=>cond (b != 0) (some (0,b)) ((loop (qat a) (0,0)).bind fun c=>some (c,0))
noncomputable def q9b (b : List qk) (a : Int × Int) : Option ((Int × Int) ⊕ (Int)):=
  cond (decide (a.2 < (b.length : Int))) ((idx b a.2).bind fun c=>(idx b a.2).bind fun d=>some (.inl (w64 ((w64 (a.1 + c.Hi)) - d.Lo),w64 (a.2 + 1)))) (some (.inr a.1))
noncomputable def qm8 (a : List qk) : Option (Int × Int):=
  (qcm a).bind fun b=>cond (b != 0) ((qcm a).bind fun c=>some (0,c)) ((loop (q9b a) (0,0)).bind fun d=>some (d,0))
structure qhz where
  Frame : Kl
  Size : Qa
  deriving DecidableEq
structure q141 where
  t_ : Int
  at_ : Qa
  flat_ : Qa
  deriving DecidableEq
end Go.Sh
