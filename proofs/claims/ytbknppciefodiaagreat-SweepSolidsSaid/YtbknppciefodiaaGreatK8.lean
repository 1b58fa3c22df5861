/- PX -/
import Derived.Test.YtbknppciefodiaaGreatK7
namespace Go.Sh
open Go Go.Am
structure Qb where
  X : Int
  Y : Int
  Z : Int
  deriving DecidableEq
structure K7 where
  From : Qb
  To : Qb
  Depth : Int
  deriving DecidableEq
structure Ju where
  Turn : Int
  At : Qb
  deriving DecidableEq
structure Yw where
  Name : Int
  Frame : Ju
  deriving DecidableEq
structure qox where
  Frame : Ju
  Drawn : Int
  deriving DecidableEq
structure K5 where
  Lines : List K7
  Marks : List Yw
  End : qox
  deriving DecidableEq
def Kc (x : K7) : List DV:=[.int .i64 x.From.X,.int .i64 x.From.Y,.int .i64 x.From.Z,.int .i64 x.To.X,.int .i64 x.To.Y,.int .i64 x.To.Z,.int .i64 x.Depth]
def Kf (x : Yw) : List DV:=[.int .u8 x.Name,.int .u8 x.Frame.Turn,.int .i64 x.Frame.At.X,.int .i64 x.Frame.At.Y,.int .i64 x.Frame.At.Z]
structure qg where
  Lo : Qb
  Hi : Qb
  deriving DecidableEq
def Qa (x : qg) : List DV:=[.int .i64 x.Lo.X,.int .i64 x.Lo.Y,.int .i64 x.Lo.Z,.int .i64 x.Hi.X,.int .i64 x.Hi.Y,.int .i64 x.Hi.Z]
def Qp (x : List qg) : List DV:=[.sl 6 (x.map Qa)]
noncomputable def Jg (a : Qb) (b : Int) : Option Bool:=
  (cond (decide (a.X ≥ b)) (some (decide (a.Y ≥ b))) (some false)).bind fun c=>(cond c (some (decide (a.Z ≥ b))) (some false)).bind fun d=>(cond d (some (decide (a.X≤1000000))) (some false)).bind fun f=>(cond f (some (decide (a.Y≤1000000))) (some false)).bind fun g=>(cond g (some (decide (a.Z≤1000000))) (some false)).bind fun h=>some h
noncomputable def q6a (d : K5) (c : Int) : Option ((Int) ⊕ ((Unit) ⊕ (Bool))):=
  cond (decide (c < (d.Lines.length : Int))) ((idx d.Lines c).bind fun a=>(idx d.Lines c).bind fun b=>(Jg a.From (-2000000)).bind fun f=>(cond (!f) (some true) ((Jg b.To (-2000000)).bind fun g=>some (!g))).bind fun h=>(cond h (some true) (some (decide ((max (max (max (max (max (w64 (a.From.X - b.To.X)) (w64 (b.To.X - a.From.X))) (w64 (a.From.Y - b.To.Y))) (w64 (b.To.Y - a.From.Y))) (w64 (a.From.Z - b.To.Z))) (w64 (b.To.Z - a.From.Z))) > 30)))).bind fun j=>cond j (some (.inr (.inr true))) (some (.inl (w64 (c + 1))))) (some (.inr (.inl ())))
noncomputable def q6b (b : List (List qg)) (a : Int) : Option ((Int) ⊕ ((Unit) ⊕ (Bool))):=
  cond (decide (a < (b.length : Int))) ((idx b a).bind fun c=>cond (decide ((c.length : Int) > 5)) (some (.inr (.inr true))) (some (.inl (w64 (a + 1))))) (some (.inr (.inl ())))
noncomputable def q69 (a : K5) (c : List (List qg)) : Option Bool:=
  (cond (decide ((a.Lines.length : Int) > 12)) (some true) (some (decide ((a.Marks.length : Int) > 50)))).bind fun d=>(cond d (some true) (some (decide ((c.length : Int) > 25)))).bind fun f=>cond f (some true) ((loop (q6a a) 0 : Option ((Unit) ⊕ (Bool))).bind fun g=>(match g with | .inl _=>(loop (q6b c) 0 : Option ((Unit) ⊕ (Bool))).bind fun h=>(match h with | .inl _=>some false | .inr b=>some b) | .inr b=>some b))
noncomputable def q6v (b : List K7) (c : K7→Option Bool) (a : Int) : Option ((Int) ⊕ ((Unit) ⊕ (Int))):=
  cond (decide (a < (b.length : Int))) ((idx b a).bind fun d=>(c d).bind fun f=>cond f (some (.inr (.inr a))) (some (.inl (w64 (a + 1))))) (some (.inr (.inl ())))
noncomputable def qdl (a : List K7) (b : K7→Option Bool) : Option Int:=
  (loop (q6v a b) 0 : Option ((Unit) ⊕ (Int))).bind fun c=>(match c with | .inl _=>some (-1) | .inr d=>some d)
noncomputable def q6t (a : List K7) (b : K7→Option Bool) : Option Bool:=
  (qdl a b).bind fun c=>some (decide (c ≥ 0))
noncomputable def qbm (a : Qb) : Option Bool:=
  (cond (decide ((min (min a.X a.Y) a.Z) ≥ (-1000000))) (some (decide ((max (max a.X a.Y) a.Z)≤1000000))) (some false)).bind fun b=>some b
noncomputable def q13 (a : K7) (b : Int × Int) : Option ((Int × Int) ⊕ (Int)):=
  cond (decide (b.2 < 3)) (((idxA 3 [w64 (a.To.X - a.From.X),w64 (a.To.Y - a.From.Y),w64 (a.To.Z - a.From.Z)] b.2).bind fun c=>cond (c == 0) (some (w64 (b.1 + 1))) (some b.1)).bind fun d=>some (.inl (d,w64 (b.2 + 1)))) (some (.inr b.1))
noncomputable def q89 (a : K7) : Option Bool:=
  (loop (q13 a) (0,0)).bind fun b=>(qbm a.From).bind fun c=>(cond (!c) (some true) ((qbm a.To).bind fun d=>some (!d))).bind fun f=>(cond f (some true) (some (decide (b < 2)))).bind fun g=>some g
noncomputable def q6w (b : List Yw) (c : Yw→Option Bool) (a : Int) : Option ((Int) ⊕ ((Unit) ⊕ (Int))):=
  cond (decide (a < (b.length : Int))) ((idx b a).bind fun d=>(c d).bind fun f=>cond f (some (.inr (.inr a))) (some (.inl (w64 (a + 1))))) (some (.inr (.inl ())))
noncomputable def qdm (a : List Yw) (b : Yw→Option Bool) : Option Int:=
  (loop (q6w a b) 0 : Option ((Unit) ⊕ (Int))).bind fun c=>(match c with | .inl _=>some (-1) | .inr d=>some d)
noncomputable def q9w (a : List Yw) (b : Yw→Option Bool) : Option Bool:=
  (qdm a b).bind fun c=>some (decide (c ≥ 0))
noncomputable def q8z (a : Qb) (b : Int) : Option Bool:=
  (cond (decide ((min (min a.X a.Y) a.Z) ≥ b)) (some (decide ((max (max a.X a.Y) a.Z)≤1000000))) (some false)).bind fun c=>some c
noncomputable def q5b (a : Ju) : Option Int:=
  (cond (decide (a.Turn ≥ 24)) (some true) ((q8z a.At (-1000000)).bind fun b=>some (!b))).bind fun c=>cond c (some 8) (some 0)
noncomputable def q8a (a : Yw) : Option Bool:=
  (q5b a.Frame).bind fun b=>some (b != 0)
noncomputable def qbl (a : K5) : Option Int:=
  (q6t a.Lines (fun b=>q89 b)).bind fun c=>(q9w a.Marks (fun b=>q8a b)).bind fun d=>(cond c (some true) (some d)).bind fun f=>(cond f (some true) ((q5b a.End.Frame).bind fun g=>some (g != 0))).bind fun h=>(cond h (some true) (some (decide ((max (a.Lines.length : Int) (a.Marks.length : Int)) > 2000)))).bind fun j=>cond j (some 8) (some 0)
noncomputable def q8b (a : Int) : Option Int:=
  some (max a (w64 (0 - a)))
noncomputable def q88 (c : K5) (b : Int × Int) : Option ((Int × Int) ⊕ (Int)):=
  cond (decide (b.2 < (c.Lines.length : Int))) ((idx c.Lines b.2).bind fun a=>(q8b (w64 (a.To.X - a.From.X))).bind fun d=>(q8b (w64 (a.To.Y - a.From.Y))).bind fun f=>(q8b (w64 (a.To.Z - a.From.Z))).bind fun g=>some (.inl (w64 (b.1 + (w64 ((w64 (d + f)) + g))),w64 (b.2 + 1)))) (some (.inr b.1))
noncomputable def qbk (a : K5) : Option (Int × Int):=
  (qbl a).bind fun b=>cond (b != 0) (some (0,b)) ((loop (q88 a) (0,0)).bind fun c=>some (c,0))
noncomputable def q11 (b : List qg) (c : qg→Option Bool) (a : Int) : Option ((Int) ⊕ ((Unit) ⊕ (Int))):=
  cond (decide (a < (b.length : Int))) ((idx b a).bind fun d=>(c d).bind fun f=>cond f (some (.inr (.inr a))) (some (.inl (w64 (a + 1))))) (some (.inr (.inl ())))
noncomputable def qa1 (a : List qg) (b : qg→Option Bool) : Option Int:=
  (loop (q11 a b) 0 : Option ((Unit) ⊕ (Int))).bind fun c=>(match c with | .inl _=>some (-1) | .inr d=>some d)
noncomputable def q1x (a : List qg) (b : qg→Option Bool) : Option Bool:=
  (qa1 a b).bind fun c=>some (decide (c ≥ 0))
noncomputable def q7w (a : Qb) : Option Bool:=
  (cond (decide ((min (min a.X a.Y) a.Z) ≥ (-1000000))) (some (decide ((max (max a.X a.Y) a.Z)≤1000000))) (some false)).bind fun b=>some b
noncomputable def q7x (a : qg) : Option Bool:=
  (cond (decide (a.Lo.X < a.Hi.X)) (some (decide (a.Lo.Y < a.Hi.Y))) (some false)).bind fun b=>(cond b (some (decide (a.Lo.Z < a.Hi.Z))) (some false)).bind fun c=>(cond c ((q7w a.Lo).bind fun d=>some d) (some false)).bind fun f=>(cond f ((q7w a.Hi).bind fun g=>some g) (some false)).bind fun h=>some h
noncomputable def q34 (a : qg) : Option Bool:=
  (q7x a).bind fun b=>some (!b)
def qdz : ByteArray:=⟨#[0,1,2,2,3,3,3,3,4,4,4,4,4,4,4,4,5,5,5,5,5,5,5,5,5,5,5,5,5,5,5,5,6,6,6,6,6,6,6,6,6,6,6,6,6,6,6,6,6,6,6,6,6,6,6,6,6,6,6,6,6,6,6,6,7,7,7,7,7,7,7,7,7,7,7,7,7,7,7,7,7,7,7,7,7,7,7,7,7,7,7,7,7,7,7,7,7,7,7,7,7,7,7,7,7,7,7,7,7,7,7,7,7,7,7,7,7,7,7,7,7,7,7,7,7,7,7,7,8,8,8,8,8,8,8,8,8,8,8,8,8,8,8,8,8,8,8,8,8,8,8,8,8,8,8,8,8,8,8,8,8,8,8,8,8,8,8,8,8,8,8,8,8,8,8,8,8,8,8,8,8,8,8,8,8,8,8,8,8,8,8,8,8,8,8,8,8,8,8,8,8,8,8,8,8,8,8,8,8,8,8,8,8,8,8,8,8,8,8,8,8,8,8,8,8,8,8,8,8,8,8,8,8,8,8,8,8,8,8,8,8,8,8,8,8,8,8,8,8,8,8,8,8,8,8,8]⟩
noncomputable def q2p (c : Int) : Option Int:=
  (cond (decide (c ≥ 4294967296)) (some (Int.fdiv c (2 ^ 32),32)) (some (c,0))).bind fun a=>(cond (decide (a.1 ≥ 65536)) (some (Int.fdiv a.1 (2 ^ 16),w64 (a.2 + 16))) (some (a.1,a.2))).bind fun b=>(cond (decide (b.1 ≥ 256)) (some (Int.fdiv b.1 (2 ^ 8),w64 (b.2 + 8))) (some (b.1,b.2))).bind fun d=>(q4u qdz (IntKind.wrap .u8 d.1)).bind fun f=>some (w64 (d.2 + (w64 f)))
noncomputable def Uw (a : Int) : Option Int:=
  (q2p a).bind fun b=>some b
noncomputable def q8m (a : Int) : Option Bool:=
  some (a != a)
noncomputable def Zb (a : Int) (b : Int) : Option Bool:=
  (q8m a).bind fun c=>(cond c ((q8m b).bind fun d=>some (!d)) (some false)).bind fun f=>(cond f (some true) (some (decide (a < b)))).bind fun g=>some g
noncomputable def q76 (c : Int) (a : Int × List Int) : Option ((Int × List Int) ⊕ (List Int)):=
  (cond (decide (a.1 > c)) ((idx a.2 a.1).bind fun d=>(idx a.2 (w64 (a.1 - 1))).bind fun f=>(Zb d f).bind fun g=>some g) (some false)).bind fun h=>cond h ((idx a.2 (w64 (a.1 - 1))).bind fun b=>(idx a.2 a.1).bind fun j=>(idx a.2 a.1).bind fun _=>(idx (a.2.set a.1.toNat b) (w64 (a.1 - 1))).bind fun _=>some (.inl (w64 (a.1 - 1),(a.2.set a.1.toNat b).set (w64 (a.1 - 1)).toNat j))) (some (.inr a.2))
noncomputable def q75 (b : Int) (c : Int) (a : Int × List Int) : Option ((Int × List Int) ⊕ (List Int)):=
  cond (decide (a.1 < b)) (((loop (q76 c) (a.1,a.2)).bind fun d=>some d).bind fun f=>some (.inl (w64 (a.1 + 1),f))) (some (.inr a.2))
noncomputable def q74 (b : List Int) (a : Int) (c : Int) : Option (List Int):=
  (loop (q75 c a) (w64 (a + 1),b)).bind fun d=>some d
noncomputable def q7s (d : Int) (b : Int) (a : Int × List Int) : Option ((Int × List Int) ⊕ (List Int)):=
  cond (decide ((w64 ((w64 (2 * a.1)) + 1)) ≥ d)) (some (.inr a.2)) ((cond (decide ((w64 ((w64 ((w64 (2 * a.1)) + 1)) + 1)) < d)) ((idx a.2 (w64 (b + (w64 ((w64 (2 * a.1)) + 1))))).bind fun g=>(idx a.2 (w64 ((w64 (b + (w64 ((w64 (2 * a.1)) + 1)))) + 1))).bind fun h=>(Zb g h).bind fun j=>some j) (some false)).bind fun k=>(cond k (some (w64 ((w64 ((w64 (2 * a.1)) + 1)) + 1))) (some (w64 ((w64 (2 * a.1)) + 1)))).bind fun c=>(idx a.2 (w64 (b + a.1))).bind fun l=>(idx a.2 (w64 (b + c))).bind fun m=>(Zb l m).bind fun n=>cond (!n) (some (.inr a.2)) ((idx a.2 (w64 (b + c))).bind fun f=>(idx a.2 (w64 (b + a.1))).bind fun o=>(idx a.2 (w64 (b + a.1))).bind fun _=>(idx (a.2.set (w64 (b + a.1)).toNat f) (w64 (b + c))).bind fun _=>some (.inl (c,(a.2.set (w64 (b + a.1)).toNat f).set (w64 (b + c)).toNat o))))
noncomputable def q4o (a : List Int) (b : Int) (c : Int) (d : Int) : Option (List Int):=
  (loop (q7s c d) (b,a)).bind fun f=>some f
noncomputable def q72 (d : Int) (b : Int) (a : Int × List Int) : Option ((Int × List Int) ⊕ (List Int)):=
  cond (decide (a.1 ≥ 0)) ((q4o a.2 a.1 (w64 (d - b)) b).bind fun c=>(K3 c.length a.2.length).bind fun _=>some (.inl (w64 (a.1 - 1),c))) (some (.inr a.2))
noncomputable def q73 (b : Int) (a : Int × List Int) : Option ((Int × List Int) ⊕ (List Int)):=
  cond (decide (a.1 ≥ 0)) ((idx a.2 (w64 (b + a.1))).bind fun c=>(idx a.2 b).bind fun d=>(idx a.2 b).bind fun _=>(idx (a.2.set b.toNat c) (w64 (b + a.1))).bind fun _=>(q4o ((a.2.set b.toNat c).set (w64 (b + a.1)).toNat d) 0 a.1 b).bind fun f=>(K3 f.length ((a.2.set b.toNat c).set (w64 (b + a.1)).toNat d).length).bind fun _=>some (.inl (w64 (a.1 - 1),f))) (some (.inr a.2))
noncomputable def q71 (c : List Int) (a : Int) (b : Int) : Option (List Int):=
  (loop (q72 b a) (w64 (Int.tdiv (w64 ((w64 (b - a)) - 1)) 2),c)).bind fun d=>(loop (q73 a) (w64 ((w64 (b - a)) - 1),d)).bind fun f=>some f
noncomputable def q33 (c : List Int) (a : Int) (b : Int) (d : Int) : Option (Int × Int × Int):=
  (idx c b).bind fun f=>(idx c a).bind fun g=>(Zb f g).bind fun h=>cond h (some (b,a,w64 (d + 1))) (some (a,b,d))
noncomputable def q4i (a : List Int) (f : Int) (g : Int) (h : Int) (j : Int) : Option (Int × Int):=
  (q33 a f g j).bind fun b=>(q33 a b.2.1 h b.2.2).bind fun c=>(q33 a b.1 c.1 c.2.2).bind fun d=>some (d.2.1,d.2.2)
noncomputable def q32 (c : List Int) (a : Int) (d : Int) : Option (Int × Int):=
  (q4i c (w64 (a - 1)) a (w64 (a + 1)) d).bind fun b=>some (b.1,b.2)
noncomputable def q70 (d : List Int) (a : Int) (b : Int) : Option (Int × Int):=
  (cond (decide ((w64 (b - a)) ≥ 8)) ((cond (decide ((w64 (b - a)) ≥ 50)) ((q32 d (w64 (a + (w64 ((w64 (Int.tdiv (w64 (b - a)) 4)) * 1)))) 0).bind fun g=>(q32 d (w64 (a + (w64 ((w64 (Int.tdiv (w64 (b - a)) 4)) * 2)))) g.2).bind fun h=>(q32 d (w64 (a + (w64 ((w64 (Int.tdiv (w64 (b - a)) 4)) * 3)))) h.2).bind fun j=>some (g.1,h.1,j.1,j.2)) (some (w64 (a + (w64 ((w64 (Int.tdiv (w64 (b - a)) 4)) * 1))),w64 (a + (w64 ((w64 (Int.tdiv (w64 (b - a)) 4)) * 2))),w64 (a + (w64 ((w64 (Int.tdiv (w64 (b - a)) 4)) * 3))),0))).bind fun f=>(q4i d f.1 f.2.1 f.2.2.1 f.2.2.2).bind fun k=>some (k.1,k.2)) (some (w64 (a + (w64 ((w64 (Int.tdiv (w64 (b - a)) 4)) * 2))),0))).bind fun c=>cond (c.2 == 0) (some (c.1,1)) (cond (c.2 == 12) (some (c.1,2)) (some (c.1,0)))
noncomputable def qas (a : Int × Int × List Int) : Option ((Int × Int × List Int) ⊕ (List Int)):=
  cond (decide (a.1 < a.2.1)) ((idx a.2.2 a.2.1).bind fun b=>(idx a.2.2 a.1).bind fun c=>(idx a.2.2 a.1).bind fun _=>(idx (a.2.2.set a.1.toNat b) a.2.1).bind fun _=>some (.inl (w64 (a.1 + 1),w64 (a.2.1 - 1),(a.2.2.set a.1.toNat b).set a.2.1.toNat c))) (some (.inr a.2.2))
noncomputable def q7q (a : List Int) (b : Int) (c : Int) : Option (List Int):=
  (loop qas (b,w64 (c - 1),a)).bind fun d=>some d
noncomputable def q7a (c : Int) (b : Int × Int × List Int) (a : Int) : Option ((Int) ⊕ (Int)):=
  (cond (decide (a < c)) ((idx b.2.2 a).bind fun d=>(idx b.2.2 (w64 (a - 1))).bind fun f=>(Zb d f).bind fun g=>some (!g)) (some false)).bind fun h=>cond h (some (.inl (w64 (a + 1)))) (some (.inr a))
noncomputable def qaf (a : Int × List Int) : Option ((Int × List Int) ⊕ (List Int)):=
  cond (decide (a.1 ≥ 1)) ((idx a.2 a.1).bind fun c=>(idx a.2 (w64 (a.1 - 1))).bind fun d=>(Zb c d).bind fun f=>cond (!f) (some (.inr a.2)) ((idx a.2 (w64 (a.1 - 1))).bind fun b=>(idx a.2 a.1).bind fun g=>(idx a.2 a.1).bind fun _=>(idx (a.2.set a.1.toNat b) (w64 (a.1 - 1))).bind fun _=>some (.inl (w64 (a.1 - 1),(a.2.set a.1.toNat b).set (w64 (a.1 - 1)).toNat g)))) (some (.inr a.2))
noncomputable def q7b (d : Int) (b : Int) (a : Int × List Int) : Option ((Int × List Int) ⊕ (Int × List Int)):=
  cond (decide (a.1 < d)) ((idx a.2 a.1).bind fun f=>(idx a.2 (w64 (a.1 - 1))).bind fun g=>(Zb f g).bind fun h=>cond (!h) (some (.inr (b,a.2))) ((idx a.2 (w64 (a.1 - 1))).bind fun c=>(idx a.2 a.1).bind fun j=>(idx a.2 a.1).bind fun _=>(idx (a.2.set a.1.toNat c) (w64 (a.1 - 1))).bind fun _=>some (.inl (w64 (a.1 + 1),(a.2.set a.1.toNat c).set (w64 (a.1 - 1)).toNat j)))) (some (.inr (b,a.2)))
noncomputable def q4l (c : Int) (g : Int) (b : Int × Int × List Int) : Option ((Int × Int × List Int) ⊕ ((List Int) ⊕ (Bool × List Int))):=
  cond (decide (b.2.1 < 5)) (((loop (q7a c b) b.1).bind fun a=>cond (a == c) (some (.inr (true,b.2.2))) (cond (decide ((w64 (c - g)) < 50)) (some (.inr (false,b.2.2))) ((idx b.2.2 (w64 (a - 1))).bind fun d=>(idx b.2.2 a).bind fun h=>(idx b.2.2 a).bind fun _=>(idx (b.2.2.set a.toNat d) (w64 (a - 1))).bind fun _=>(cond (decide ((w64 (a - g)) ≥ 2)) ((loop qaf (w64 (a - 1),(b.2.2.set a.toNat d).set (w64 (a - 1)).toNat h)).bind fun f=>some f) (some ((b.2.2.set a.toNat d).set (w64 (a - 1)).toNat h))).bind fun j=>cond (decide ((w64 (c - a)) ≥ 2)) ((loop (q7b c a) (w64 (a + 1),j)).bind fun f=>some (.inl f)) (some (.inl (a,j))))) : Option ((Int × List Int) ⊕ (Bool × List Int))).bind fun l=>(match l with | .inl k=>some (.inl (k.1,w64 (b.2.1 + 1),k.2)) | .inr m=>some (.inr (.inr m)))) (some (.inr (.inl b.2.2)))
noncomputable def q4k (b : List Int) (a : Int) (c : Int) : Option (Bool × List Int):=
  (loop (q4l c a) (w64 (a + 1),0,b) : Option ((List Int) ⊕ (Bool × List Int))).bind fun d=>(match d with | .inl f=>some (false,f) | .inr g=>some g)
noncomputable def q7e (b : Int × Int × List Int) (c : Int) (a : Int) : Option ((Int) ⊕ (Int)):=
  (cond (decide (a≤b.2.1)) ((idx b.2.2 c).bind fun d=>(idx b.2.2 a).bind fun f=>(Zb d f).bind fun g=>some (!g)) (some false)).bind fun h=>cond h (some (.inl (w64 (a + 1)))) (some (.inr a))
noncomputable def q7f (c : Int) (b : Int × Int × List Int) (d : Int) (a : Int) : Option ((Int) ⊕ (Int)):=
  (cond (decide (c≤a)) ((idx b.2.2 d).bind fun f=>(idx b.2.2 a).bind fun g=>(Zb f g).bind fun h=>some h) (some false)).bind fun j=>cond j (some (.inl (w64 (a - 1)))) (some (.inr a))
noncomputable def q7d (d : Int) (a : Int × Int × List Int) : Option ((Int × Int × List Int) ⊕ (Int × List Int)):=
  (loop (q7e a d) a.1).bind fun b=>(loop (q7f b a d) a.2.1).bind fun c=>cond (decide (b > c)) (some (.inr (b,a.2.2))) ((idx a.2.2 c).bind fun f=>(idx a.2.2 b).bind fun g=>(idx a.2.2 b).bind fun _=>(idx (a.2.2.set b.toNat f) c).bind fun _=>some (.inl (w64 (b + 1),w64 (c - 1),(a.2.2.set b.toNat f).set c.toNat g)))
noncomputable def q7c (b : List Int) (a : Int) (g : Int) (c : Int) : Option (Int × List Int):=
  (idx b c).bind fun d=>(idx b a).bind fun h=>(idx b a).bind fun _=>(idx (b.set a.toNat d) c).bind fun _=>(loop (q7d a) (w64 (a + 1),w64 (g - 1),(b.set a.toNat d).set c.toNat h)).bind fun f=>some (f.1,f.2)
noncomputable def q7h (h : Int) (c : List Int) (b : Int) (d : Int) (f : Int) (g : Int) (a : Int) : Option ((Int) ⊕ (Int)):=
  (cond (decide (a≤(w64 (h - 1)))) ((idx ((c.set b.toNat d).set f.toNat g) a).bind fun j=>(idx ((c.set b.toNat d).set f.toNat g) b).bind fun k=>(Zb j k).bind fun l=>some l) (some false)).bind fun m=>cond m (some (.inl (w64 (a + 1)))) (some (.inr a))
noncomputable def q7i (h : Int) (c : List Int) (b : Int) (d : Int) (f : Int) (g : Int) (a : Int) : Option ((Int) ⊕ (Int)):=
  (cond (decide (h≤a)) ((idx ((c.set b.toNat d).set f.toNat g) a).bind fun j=>(idx ((c.set b.toNat d).set f.toNat g) b).bind fun k=>(Zb j k).bind fun l=>some (!l)) (some false)).bind fun m=>cond m (some (.inl (w64 (a - 1)))) (some (.inr a))
noncomputable def q7k (b : Int × Int × List Int) (c : Int) (a : Int) : Option ((Int) ⊕ (Int)):=
  (cond (decide (a≤b.2.1)) ((idx b.2.2 a).bind fun d=>(idx b.2.2 c).bind fun f=>(Zb d f).bind fun g=>some g) (some false)).bind fun h=>cond h (some (.inl (w64 (a + 1)))) (some (.inr a))
noncomputable def q7l (c : Int) (b : Int × Int × List Int) (d : Int) (a : Int) : Option ((Int) ⊕ (Int)):=
  (cond (decide (c≤a)) ((idx b.2.2 a).bind fun f=>(idx b.2.2 d).bind fun g=>(Zb f g).bind fun h=>some (!h)) (some false)).bind fun j=>cond j (some (.inl (w64 (a - 1)))) (some (.inr a))
noncomputable def q7j (d : Int) (a : Int × Int × List Int) : Option ((Int × Int × List Int) ⊕ (Int × List Int)):=
  (loop (q7k a d) a.1).bind fun b=>(loop (q7l b a d) a.2.1).bind fun c=>cond (decide (b > c)) (some (.inr (c,a.2.2))) ((idx a.2.2 c).bind fun f=>(idx a.2.2 b).bind fun g=>(idx a.2.2 b).bind fun _=>(idx (a.2.2.set b.toNat f) c).bind fun _=>some (.inl (w64 (b + 1),w64 (c - 1),(a.2.2.set b.toNat f).set c.toNat g)))
noncomputable def q7g (b : List Int) (a : Int) (k : Int) (c : Int) : Option (Int × Bool × List Int):=
  (idx b c).bind fun d=>(idx b a).bind fun f=>(idx b a).bind fun _=>(idx (b.set a.toNat d) c).bind fun _=>(loop (q7h k b a d c f) (w64 (a + 1))).bind fun j=>(loop (q7i j b a d c f) (w64 (k - 1))).bind fun g=>cond (decide (j > g)) ((idx ((b.set a.toNat d).set c.toNat f) a).bind fun l=>(idx ((b.set a.toNat d).set c.toNat f) g).bind fun o=>(idx ((b.set a.toNat d).set c.toNat f) g).bind fun _=>(idx (((b.set a.toNat d).set c.toNat f).set g.toNat l) a).bind fun _=>some (g,true,(((b.set a.toNat d).set c.toNat f).set g.toNat l).set a.toNat o)) ((idx ((b.set a.toNat d).set c.toNat f) g).bind fun m=>(idx ((b.set a.toNat d).set c.toNat f) j).bind fun p=>(idx ((b.set a.toNat d).set c.toNat f) j).bind fun _=>(idx (((b.set a.toNat d).set c.toNat f).set j.toNat m) g).bind fun _=>(loop (q7j a) (w64 (j + 1),w64 (g - 1),(((b.set a.toNat d).set c.toNat f).set j.toNat m).set g.toNat p)).bind fun h=>(idx h.2 a).bind fun n=>(idx h.2 h.1).bind fun q=>(idx h.2 h.1).bind fun _=>(idx (h.2.set h.1.toNat n) a).bind fun _=>some (h.1,false,(h.2.set h.1.toNat n).set a.toNat q))
noncomputable def q1y (a : Int) : Option Int:=
  (Uw (IntKind.wrap .u64 a)).bind fun b=>(shlK .u64 1 b).bind fun c=>some c
noncomputable def q1z (a : Int) : Option Int:=
  some (xorI .u64 (xorI .u64 (xorI .u64 a (IntKind.wrap .u64 (a * (2 ^ 13)))) (Int.fdiv (xorI .u64 a (IntKind.wrap .u64 (a * (2 ^ 13)))) (2 ^ 7))) (IntKind.wrap .u64 ((xorI .u64 (xorI .u64 a (IntKind.wrap .u64 (a * (2 ^ 13)))) (Int.fdiv (xorI .u64 a (IntKind.wrap .u64 (a * (2 ^ 13)))) (2 ^ 7))) * (2 ^ 17))))
noncomputable def q6z (b : Int) (d : Int) (f : Int) (a : Int × List Int × Int) : Option ((Int × List Int × Int) ⊕ (List Int)):=
  cond (decide (a.1≤(w64 ((w64 (b + (w64 ((w64 (Int.tdiv (w64 (d - b)) 4)) * 2)))) + 1)))) ((q1z a.2.2).bind fun c=>(cond (decide ((w64 (andI .u64 c (IntKind.wrap .u64 (f - 1)))) ≥ (w64 (d - b)))) (some (w64 ((w64 (andI .u64 c (IntKind.wrap .u64 (f - 1)))) - (w64 (d - b))))) (some (w64 (andI .u64 c (IntKind.wrap .u64 (f - 1)))))).bind fun g=>(idx a.2.1 (w64 (b + g))).bind fun h=>(idx a.2.1 a.1).bind fun j=>(idx a.2.1 a.1).bind fun _=>(idx (a.2.1.set a.1.toNat h) (w64 (b + g))).bind fun _=>some (.inl (w64 (a.1 + 1),(a.2.1.set a.1.toNat h).set (w64 (b + g)).toNat j,c))) (some (.inr a.2.1))
noncomputable def q6y (c : List Int) (a : Int) (b : Int) : Option (List Int):=
  cond (decide ((w64 (b - a)) ≥ 8)) ((q1y (w64 (b - a))).bind fun d=>(loop (q6z a b d) (w64 ((w64 (a + (w64 ((w64 (Int.tdiv (w64 (b - a)) 4)) * 2)))) - 1),c,IntKind.wrap .u64 (w64 (b - a)))).bind fun f=>some f) (some c)
noncomputable def q4m (rec : List Int→Int→Int→Int→Option (List Int)) (a : Int × Int × Int × Bool × Bool × List Int) : Option ((Int × Int × Int × Bool × Bool × List Int) ⊕ (List Int)):=
  cond (decide ((w64 (a.2.1 - a.1))≤12)) ((q74 a.2.2.2.2.2 a.1 a.2.1).bind fun k=>(K3 k.length a.2.2.2.2.2.length).bind fun _=>some (.inr k)) (cond (a.2.2.1 == 0) ((q71 a.2.2.2.2.2 a.1 a.2.1).bind fun l=>(K3 l.length a.2.2.2.2.2.length).bind fun _=>some (.inr l)) ((cond (!a.2.2.2.1) ((q6y a.2.2.2.2.2 a.1 a.2.1).bind fun m=>(K3 m.length a.2.2.2.2.2.length).bind fun _=>some (w64 (a.2.2.1 - 1),m)) (some (a.2.2.1,a.2.2.2.2.2))).bind fun c=>(q70 c.2 a.1 a.2.1).bind fun g=>(cond (g.2 == 2) ((q7q c.2 a.1 a.2.1).bind fun n=>(K3 n.length c.2.length).bind fun _=>some (w64 ((w64 (a.2.1 - 1)) - (w64 (g.1 - a.1))),1,n)) (some (g.1,g.2,c.2))).bind fun d=>(cond a.2.2.2.1 (some a.2.2.2.2.1) (some false)).bind fun q=>(cond q (some (d.2.1 == 1)) (some false)).bind fun r=>(cond r ((q4k d.2.2 a.1 a.2.1).bind fun h=>(K3 h.2.length d.2.2.length).bind fun _=>cond h.1 (some (.inr h.2)) (some (.inl h.2))) (some (.inl d.2.2)) : Option ((List Int) ⊕ (List Int))).bind fun s=>(match s with | .inl f=>(cond (decide (a.1 > 0)) ((idx f (w64 (a.1 - 1))).bind fun t=>(idx f d.1).bind fun u=>(Zb t u).bind fun v=>some (!v)) (some false)).bind fun w=>cond w ((q7c f a.1 a.2.1 d.1).bind fun j=>(K3 j.2.length f.length).bind fun _=>some (.inl (j.1,a.2.1,c.1,a.2.2.2.1,a.2.2.2.2.1,j.2))) ((q7g f a.1 a.2.1 d.1).bind fun b=>(K3 b.2.2.length f.length).bind fun _=>cond (decide ((w64 (b.1 - a.1)) < (w64 (a.2.1 - b.1)))) ((rec b.2.2 a.1 b.1 c.1).bind fun o=>(K3 o.length b.2.2.length).bind fun _=>some (.inl (w64 (b.1 + 1),a.2.1,c.1,decide ((w64 (b.1 - a.1)) ≥ (w64 (Int.tdiv (w64 (a.2.1 - a.1)) 8))),b.2.1,o))) ((rec b.2.2 (w64 (b.1 + 1)) a.2.1 c.1).bind fun p=>(K3 p.length b.2.2.length).bind fun _=>some (.inl (a.1,b.1,c.1,decide ((w64 (a.2.1 - b.1)) ≥ (w64 (Int.tdiv (w64 (a.2.1 - a.1)) 8))),b.2.1,p)))) | .inr x=>some (.inr x))))
noncomputable def q4n (rec : List Int→Int→Int→Int→Option (List Int)) (a : List Int) (b : Int) (c : Int) (d : Int) : Option (List Int):=
  (loop (q4m rec) (b,c,d,true,true,a)).bind fun f=>some f
noncomputable def q7p : Nat→List Int→Int→Int→Int→Option (List Int)
  | 0,_,_,_,_=>none
  | n + 1,a,b,c,d=>q4n (q7p n)  a b c d
noncomputable def U3 (a : List Int) : Option (List Int):=
  (Uw (IntKind.wrap .u64 (a.length : Int))).bind fun c=>(lim (fun n=>q7p n a 0 (a.length : Int) c)).bind fun b=>(K3 b.length a.length).bind fun _=>some b
noncomputable def q1w (a : Int × (Nat × Nat) × Int × List Int) : Option ((Int × (Nat × Nat) × Int × List Int) ⊕ (Int × List Int)):=
  cond (decide (a.2.2.1 < (a.2.1.2 : Int))) (((idxW a.2.2.2 a.2.1 a.2.2.1).bind fun c=>(idxW a.2.2.2 a.2.1 (w64 (a.2.2.1 - 1))).bind fun d=>cond (c != d) ((idxW a.2.2.2 a.2.1 a.2.2.1).bind fun f=>(idx a.2.2.2 a.1).bind fun _=>some (w64 (a.1 + 1),a.2.1,a.2.2.2.set a.1.toNat f)) (some (a.1,a.2.1,a.2.2.2))).bind fun b=>some (.inl (b.1,b.2.1,w64 (a.2.2.1 + 1),b.2.2))) (some (.inr (a.1,a.2.2.2)))
noncomputable def Ji (a : List Int) (b : Int) : Option ((Int) ⊕ ((Unit) ⊕ ((Nat × Nat) × List Int))):=
  cond (decide (b < (a.length : Int))) ((idx a b).bind fun d=>(idx a (w64 (b - 1))).bind fun f=>cond (d == f) ((sub2 a.length b a.length).bind fun g=>(loop q1w (b,g,1,a)).bind fun c=>(sub2 c.2.length c.1 c.2.length).bind fun h=>(sub2 c.2.length 0 c.1).bind fun j=>some (.inr (.inr (j,clrw c.2 h 0)))) (some (.inl (w64 (b + 1))))) (some (.inr (.inl ())))
noncomputable def q10 (a : List Int) : Option ((Nat × Nat) × List Int):=
  cond (decide ((a.length : Int) < 2)) (some ((0,a.length),a)) ((loop (Ji a) 1 : Option ((Unit) ⊕ ((Nat × Nat) × List Int))).bind fun b=>(match b with | .inl _=>some ((0,a.length),a) | .inr c=>some c))
structure qi where
  X0 : Int
  Y0 : Int
  X1 : Int
  Y1 : Int
  deriving DecidableEq
def Q0 (x : qi) : List DV:=[.int .i64 x.X0,.int .i64 x.Y0,.int .i64 x.X1,.int .i64 x.Y1]
noncomputable def q4f (b : List qi) (c : qi→Option Bool) (a : Int) : Option ((Int) ⊕ ((Unit) ⊕ (Int))):=
  cond (decide (a < (b.length : Int))) ((idx b a).bind fun d=>(c d).bind fun f=>cond f (some (.inr (.inr a))) (some (.inl (w64 (a + 1))))) (some (.inr (.inl ())))
noncomputable def qdn (a : List qi) (b : qi→Option Bool) : Option Int:=
  (loop (q4f a b) 0 : Option ((Unit) ⊕ (Int))).bind fun c=>(match c with | .inl _=>some (-1) | .inr d=>some d)
noncomputable def q9x (a : List qi) (b : qi→Option Bool) : Option Bool:=
  (qdn a b).bind fun c=>some (decide (c ≥ 0))
noncomputable def q2w (a : Int) : Option Bool:=
  (cond (decide (a ≥ (-1000000))) (some (decide (a≤1000000))) (some false)).bind fun b=>some b
noncomputable def q6n (a : qi) : Option Bool:=
  (cond (decide (a.X0 < a.X1)) (some (decide (a.Y0 < a.Y1))) (some false)).bind fun b=>(cond b ((q2w a.X0).bind fun c=>some c) (some false)).bind fun d=>(cond d ((q2w a.X1).bind fun f=>some f) (some false)).bind fun g=>(cond g ((q2w a.Y0).bind fun h=>some h) (some false)).bind fun j=>(cond j ((q2w a.Y1).bind fun k=>some k) (some false)).bind fun l=>some l
noncomputable def q2v (a : qi) : Option Bool:=
  (q6n a).bind fun b=>some (!b)
def Kt (x : List qi) : List DV:=[.sl 4 (x.map Q0)]
structure ql where
  Lo : Int
  Hi : Int
  deriving DecidableEq
def Ql (x : ql) : List DV:=[.int .i64 x.Lo,.int .i64 x.Hi]
noncomputable def q31 (b : List ql) (c : ql→Option Bool) (a : Int) : Option ((Int) ⊕ ((Unit) ⊕ (Int))):=
  cond (decide (a < (b.length : Int))) ((idx b a).bind fun d=>(c d).bind fun f=>cond f (some (.inr (.inr a))) (some (.inl (w64 (a + 1))))) (some (.inr (.inl ())))
noncomputable def qa2 (a : List ql) (b : ql→Option Bool) : Option Int:=
  (loop (q31 a b) 0 : Option ((Unit) ⊕ (Int))).bind fun c=>(match c with | .inl _=>some (-1) | .inr d=>some d)
noncomputable def q9z (a : List ql) (b : ql→Option Bool) : Option Bool:=
  (qa2 a b).bind fun c=>some (decide (c ≥ 0))
noncomputable def q38 (a : ql) : Option Bool:=
  (cond (decide (a.Lo < a.Hi)) (some (decide (a.Lo ≥ (-1000000)))) (some false)).bind fun b=>(cond b (some (decide (a.Hi≤1000000))) (some false)).bind fun c=>some c
noncomputable def qdw (a : ql) : Option Bool:=
  (q38 a).bind fun b=>some (!b)
def q19 (x : List ql) : List DV:=[.sl 2 (x.map Ql)]
structure qo where
  at_ : Int
  list_ : Int
  by_ : Int
  deriving DecidableEq
def Qr (x : qo) : List DV:=[.int .i64 x.at_,.int .i64 x.list_,.int .i64 x.by_]
noncomputable def qb1 (a : qo) (b : qo) : Option Int:=
  some (w64 (a.at_ - b.at_))
noncomputable def qab (c : Int) (d : qo→qo→Option Int) (a : Int × List qo) : Option ((Int × List qo) ⊕ (List qo)):=
  (cond (decide (a.1 > c)) ((idx a.2 a.1).bind fun f=>(idx a.2 (w64 (a.1 - 1))).bind fun g=>(d f g).bind fun h=>some (decide (h < 0))) (some false)).bind fun j=>cond j ((idx a.2 (w64 (a.1 - 1))).bind fun b=>(idx a.2 a.1).bind fun k=>(idx a.2 a.1).bind fun _=>(idx (a.2.set a.1.toNat b) (w64 (a.1 - 1))).bind fun _=>some (.inl (w64 (a.1 - 1),(a.2.set a.1.toNat b).set (w64 (a.1 - 1)).toNat k))) (some (.inr a.2))
noncomputable def qaa (b : Int) (c : Int) (d : qo→qo→Option Int) (a : Int × List qo) : Option ((Int × List qo) ⊕ (List qo)):=
  cond (decide (a.1 < b)) (((loop (qab c d) (a.1,a.2)).bind fun f=>some f).bind fun g=>some (.inl (w64 (a.1 + 1),g))) (some (.inr a.2))
noncomputable def qa9 (b : qo→qo→Option Int) (c : List qo) (a : Int) (d : Int) : Option (List qo):=
  (loop (qaa d a b) (w64 (a + 1),c)).bind fun f=>some f
noncomputable def qat (d : Int) (b : Int) (f : qo→qo→Option Int) (a : Int × List qo) : Option ((Int × List qo) ⊕ (List qo)):=
  cond (decide ((w64 ((w64 (2 * a.1)) + 1)) ≥ d)) (some (.inr a.2)) ((cond (decide ((w64 ((w64 ((w64 (2 * a.1)) + 1)) + 1)) < d)) ((idx a.2 (w64 (b + (w64 ((w64 (2 * a.1)) + 1))))).bind fun h=>(idx a.2 (w64 ((w64 (b + (w64 ((w64 (2 * a.1)) + 1)))) + 1))).bind fun j=>(f h j).bind fun k=>some (decide (k < 0))) (some false)).bind fun l=>(cond l (some (w64 ((w64 ((w64 (2 * a.1)) + 1)) + 1))) (some (w64 ((w64 (2 * a.1)) + 1)))).bind fun c=>(idx a.2 (w64 (b + a.1))).bind fun m=>(idx a.2 (w64 (b + c))).bind fun n=>(f m n).bind fun o=>cond (!(decide (o < 0))) (some (.inr a.2)) ((idx a.2 (w64 (b + c))).bind fun g=>(idx a.2 (w64 (b + a.1))).bind fun p=>(idx a.2 (w64 (b + a.1))).bind fun _=>(idx (a.2.set (w64 (b + a.1)).toNat g) (w64 (b + c))).bind fun _=>some (.inl (c,(a.2.set (w64 (b + a.1)).toNat g).set (w64 (b + c)).toNat p))))
noncomputable def q7r (a : qo→qo→Option Int) (b : List qo) (c : Int) (d : Int) (f : Int) : Option (List qo):=
  (loop (qat d f a) (c,b)).bind fun g=>some g
noncomputable def qa7 (d : qo→qo→Option Int) (f : Int) (b : Int) (a : Int × List qo) : Option ((Int × List qo) ⊕ (List qo)):=
  cond (decide (a.1 ≥ 0)) ((q7r d a.2 a.1 (w64 (f - b)) b).bind fun c=>(K3 c.length a.2.length).bind fun _=>some (.inl (w64 (a.1 - 1),c))) (some (.inr a.2))
noncomputable def qa8 (b : Int) (g : qo→qo→Option Int) (a : Int × List qo) : Option ((Int × List qo) ⊕ (List qo)):=
  cond (decide (a.1 ≥ 0)) ((idx a.2 (w64 (b + a.1))).bind fun c=>(idx a.2 b).bind fun d=>(idx a.2 b).bind fun _=>(idx (a.2.set b.toNat c) (w64 (b + a.1))).bind fun _=>(q7r g ((a.2.set b.toNat c).set (w64 (b + a.1)).toNat d) 0 a.1 b).bind fun f=>(K3 f.length ((a.2.set b.toNat c).set (w64 (b + a.1)).toNat d).length).bind fun _=>some (.inl (w64 (a.1 - 1),f))) (some (.inr a.2))
noncomputable def qa6 (c : qo→qo→Option Int) (d : List qo) (a : Int) (b : Int) : Option (List qo):=
  (loop (qa7 c b a) (w64 (Int.tdiv (w64 ((w64 (b - a)) - 1)) 2),d)).bind fun f=>(loop (qa8 a c) (w64 ((w64 (b - a)) - 1),f)).bind fun g=>some g
noncomputable def q4j (f : qo→qo→Option Int) (c : List qo) (a : Int) (b : Int) (d : Int) : Option (Int × Int × Int):=
  (idx c b).bind fun g=>(idx c a).bind fun h=>(f g h).bind fun j=>cond (decide (j < 0)) (some (b,a,w64 (d + 1))) (some (a,b,d))
noncomputable def q77 (a : qo→qo→Option Int) (b : List qo) (g : Int) (h : Int) (j : Int) (k : Int) : Option (Int × Int):=
  (q4j a b g h k).bind fun c=>(q4j a b c.2.1 j c.2.2).bind fun d=>(q4j a b c.1 d.1 d.2.2).bind fun f=>some (f.2.1,f.2.2)
noncomputable def q4h (c : qo→qo→Option Int) (d : List qo) (a : Int) (f : Int) : Option (Int × Int):=
  (q77 c d (w64 (a - 1)) a (w64 (a + 1)) f).bind fun b=>some (b.1,b.2)
noncomputable def qa5 (d : List qo) (a : Int) (b : Int) (f : qo→qo→Option Int) : Option (Int × Int):=
  (cond (decide ((w64 (b - a)) ≥ 8)) ((cond (decide ((w64 (b - a)) ≥ 50)) ((q4h f d (w64 (a + (w64 ((w64 (Int.tdiv (w64 (b - a)) 4)) * 1)))) 0).bind fun h=>(q4h f d (w64 (a + (w64 ((w64 (Int.tdiv (w64 (b - a)) 4)) * 2)))) h.2).bind fun j=>(q4h f d (w64 (a + (w64 ((w64 (Int.tdiv (w64 (b - a)) 4)) * 3)))) j.2).bind fun k=>some (h.1,j.1,k.1,k.2)) (some (w64 (a + (w64 ((w64 (Int.tdiv (w64 (b - a)) 4)) * 1))),w64 (a + (w64 ((w64 (Int.tdiv (w64 (b - a)) 4)) * 2))),w64 (a + (w64 ((w64 (Int.tdiv (w64 (b - a)) 4)) * 3))),0))).bind fun g=>(q77 f d g.1 g.2.1 g.2.2.1 g.2.2.2).bind fun l=>some (l.1,l.2)) (some (w64 (a + (w64 ((w64 (Int.tdiv (w64 (b - a)) 4)) * 2))),0))).bind fun c=>cond (c.2 == 0) (some (c.1,1)) (cond (c.2 == 12) (some (c.1,2)) (some (c.1,0)))
noncomputable def qar (a : Int × Int × List qo) : Option ((Int × Int × List qo) ⊕ (List qo)):=
  cond (decide (a.1 < a.2.1)) ((idx a.2.2 a.2.1).bind fun b=>(idx a.2.2 a.1).bind fun c=>(idx a.2.2 a.1).bind fun _=>(idx (a.2.2.set a.1.toNat b) a.2.1).bind fun _=>some (.inl (w64 (a.1 + 1),w64 (a.2.1 - 1),(a.2.2.set a.1.toNat b).set a.2.1.toNat c))) (some (.inr a.2.2))
noncomputable def qaq (f : qo→qo→Option Int) (a : List qo) (b : Int) (c : Int) : Option (List qo):=
  (loop qar (b,w64 (c - 1),a)).bind fun d=>some d
noncomputable def qac (c : Int) (b : Int × Int × List qo) (d : qo→qo→Option Int) (a : Int) : Option ((Int) ⊕ (Int)):=
  (cond (decide (a < c)) ((idx b.2.2 a).bind fun f=>(idx b.2.2 (w64 (a - 1))).bind fun g=>(d f g).bind fun h=>some (!(decide (h < 0)))) (some false)).bind fun j=>cond j (some (.inl (w64 (a + 1)))) (some (.inr a))
noncomputable def qad (c : qo→qo→Option Int) (a : Int × List qo) : Option ((Int × List qo) ⊕ (List qo)):=
  cond (decide (a.1 ≥ 1)) ((idx a.2 a.1).bind fun d=>(idx a.2 (w64 (a.1 - 1))).bind fun f=>(c d f).bind fun g=>cond (!(decide (g < 0))) (some (.inr a.2)) ((idx a.2 (w64 (a.1 - 1))).bind fun b=>(idx a.2 a.1).bind fun h=>(idx a.2 a.1).bind fun _=>(idx (a.2.set a.1.toNat b) (w64 (a.1 - 1))).bind fun _=>some (.inl (w64 (a.1 - 1),(a.2.set a.1.toNat b).set (w64 (a.1 - 1)).toNat h)))) (some (.inr a.2))
noncomputable def qae (d : Int) (f : qo→qo→Option Int) (b : Int) (a : Int × List qo) : Option ((Int × List qo) ⊕ (Int × List qo)):=
  cond (decide (a.1 < d)) ((idx a.2 a.1).bind fun g=>(idx a.2 (w64 (a.1 - 1))).bind fun h=>(f g h).bind fun j=>cond (!(decide (j < 0))) (some (.inr (b,a.2))) ((idx a.2 (w64 (a.1 - 1))).bind fun c=>(idx a.2 a.1).bind fun k=>(idx a.2 a.1).bind fun _=>(idx (a.2.set a.1.toNat c) (w64 (a.1 - 1))).bind fun _=>some (.inl (w64 (a.1 + 1),(a.2.set a.1.toNat c).set (w64 (a.1 - 1)).toNat k)))) (some (.inr (b,a.2)))
noncomputable def q79 (c : Int) (d : qo→qo→Option Int) (h : Int) (b : Int × Int × List qo) : Option ((Int × Int × List qo) ⊕ ((List qo) ⊕ (Bool × List qo))):=
  cond (decide (b.2.1 < 5)) (((loop (qac c b d) b.1).bind fun a=>cond (a == c) (some (.inr (true,b.2.2))) (cond (decide ((w64 (c - h)) < 50)) (some (.inr (false,b.2.2))) ((idx b.2.2 (w64 (a - 1))).bind fun f=>(idx b.2.2 a).bind fun j=>(idx b.2.2 a).bind fun _=>(idx (b.2.2.set a.toNat f) (w64 (a - 1))).bind fun _=>(cond (decide ((w64 (a - h)) ≥ 2)) ((loop (qad d) (w64 (a - 1),(b.2.2.set a.toNat f).set (w64 (a - 1)).toNat j)).bind fun g=>some g) (some ((b.2.2.set a.toNat f).set (w64 (a - 1)).toNat j))).bind fun k=>cond (decide ((w64 (c - a)) ≥ 2)) ((loop (qae c d a) (w64 (a + 1),k)).bind fun g=>some (.inl g)) (some (.inl (a,k))))) : Option ((Int × List qo) ⊕ (Bool × List qo))).bind fun m=>(match m with | .inl l=>some (.inl (l.1,w64 (b.2.1 + 1),l.2)) | .inr n=>some (.inr (.inr n)))) (some (.inr (.inl b.2.2)))
noncomputable def q78 (b : qo→qo→Option Int) (c : List qo) (a : Int) (d : Int) : Option (Bool × List qo):=
  (loop (q79 d b a) (w64 (a + 1),0,c) : Option ((List qo) ⊕ (Bool × List qo))).bind fun f=>(match f with | .inl g=>some (false,g) | .inr h=>some h)
noncomputable def qao (b : Int × Int × List qo) (c : Int) (d : qo→qo→Option Int) (a : Int) : Option ((Int) ⊕ (Int)):=
  (cond (decide (a≤b.2.1)) ((idx b.2.2 c).bind fun f=>(idx b.2.2 a).bind fun g=>(d f g).bind fun h=>some (!(decide (h < 0)))) (some false)).bind fun j=>cond j (some (.inl (w64 (a + 1)))) (some (.inr a))
noncomputable def qap (c : Int) (b : Int × Int × List qo) (d : Int) (f : qo→qo→Option Int) (a : Int) : Option ((Int) ⊕ (Int)):=
  (cond (decide (c≤a)) ((idx b.2.2 d).bind fun g=>(idx b.2.2 a).bind fun h=>(f g h).bind fun j=>some (decide (j < 0))) (some false)).bind fun k=>cond k (some (.inl (w64 (a - 1)))) (some (.inr a))
noncomputable def qan (d : Int) (f : qo→qo→Option Int) (a : Int × Int × List qo) : Option ((Int × Int × List qo) ⊕ (Int × List qo)):=
  (loop (qao a d f) a.1).bind fun b=>(loop (qap b a d f) a.2.1).bind fun c=>cond (decide (b > c)) (some (.inr (b,a.2.2))) ((idx a.2.2 c).bind fun g=>(idx a.2.2 b).bind fun h=>(idx a.2.2 b).bind fun _=>(idx (a.2.2.set b.toNat g) c).bind fun _=>some (.inl (w64 (b + 1),w64 (c - 1),(a.2.2.set b.toNat g).set c.toNat h)))
noncomputable def qam (g : qo→qo→Option Int) (b : List qo) (a : Int) (h : Int) (c : Int) : Option (Int × List qo):=
  (idx b c).bind fun d=>(idx b a).bind fun j=>(idx b a).bind fun _=>(idx (b.set a.toNat d) c).bind fun _=>(loop (qan a g) (w64 (a + 1),w64 (h - 1),(b.set a.toNat d).set c.toNat j)).bind fun f=>some (f.1,f.2)
noncomputable def qah (h : Int) (c : List qo) (b : Int) (d : qo) (f : Int) (g : qo) (j : qo→qo→Option Int) (a : Int) : Option ((Int) ⊕ (Int)):=
  (cond (decide (a≤(w64 (h - 1)))) ((idx ((c.set b.toNat d).set f.toNat g) a).bind fun k=>(idx ((c.set b.toNat d).set f.toNat g) b).bind fun l=>(j k l).bind fun m=>some (decide (m < 0))) (some false)).bind fun n=>cond n (some (.inl (w64 (a + 1)))) (some (.inr a))
noncomputable def qai (h : Int) (c : List qo) (b : Int) (d : qo) (f : Int) (g : qo) (j : qo→qo→Option Int) (a : Int) : Option ((Int) ⊕ (Int)):=
  (cond (decide (h≤a)) ((idx ((c.set b.toNat d).set f.toNat g) a).bind fun k=>(idx ((c.set b.toNat d).set f.toNat g) b).bind fun l=>(j k l).bind fun m=>some (!(decide (m < 0)))) (some false)).bind fun n=>cond n (some (.inl (w64 (a - 1)))) (some (.inr a))
noncomputable def qak (b : Int × Int × List qo) (c : Int) (d : qo→qo→Option Int) (a : Int) : Option ((Int) ⊕ (Int)):=
  (cond (decide (a≤b.2.1)) ((idx b.2.2 a).bind fun f=>(idx b.2.2 c).bind fun g=>(d f g).bind fun h=>some (decide (h < 0))) (some false)).bind fun j=>cond j (some (.inl (w64 (a + 1)))) (some (.inr a))
noncomputable def qal (c : Int) (b : Int × Int × List qo) (d : Int) (f : qo→qo→Option Int) (a : Int) : Option ((Int) ⊕ (Int)):=
  (cond (decide (c≤a)) ((idx b.2.2 a).bind fun g=>(idx b.2.2 d).bind fun h=>(f g h).bind fun j=>some (!(decide (j < 0)))) (some false)).bind fun k=>cond k (some (.inl (w64 (a - 1)))) (some (.inr a))
noncomputable def qaj (d : Int) (f : qo→qo→Option Int) (a : Int × Int × List qo) : Option ((Int × Int × List qo) ⊕ (Int × List qo)):=
  (loop (qak a d f) a.1).bind fun b=>(loop (qal b a d f) a.2.1).bind fun c=>cond (decide (b > c)) (some (.inr (c,a.2.2))) ((idx a.2.2 c).bind fun g=>(idx a.2.2 b).bind fun h=>(idx a.2.2 b).bind fun _=>(idx (a.2.2.set b.toNat g) c).bind fun _=>some (.inl (w64 (b + 1),w64 (c - 1),(a.2.2.set b.toNat g).set c.toNat h)))
noncomputable def qag (k : qo→qo→Option Int) (b : List qo) (a : Int) (l : Int) (c : Int) : Option (Int × Bool × List qo):=
  (idx b c).bind fun d=>(idx b a).bind fun f=>(idx b a).bind fun _=>(idx (b.set a.toNat d) c).bind fun _=>(loop (qah l b a d c f k) (w64 (a + 1))).bind fun j=>(loop (qai j b a d c f k) (w64 (l - 1))).bind fun g=>cond (decide (j > g)) ((idx ((b.set a.toNat d).set c.toNat f) a).bind fun m=>(idx ((b.set a.toNat d).set c.toNat f) g).bind fun p=>(idx ((b.set a.toNat d).set c.toNat f) g).bind fun _=>(idx (((b.set a.toNat d).set c.toNat f).set g.toNat m) a).bind fun _=>some (g,true,(((b.set a.toNat d).set c.toNat f).set g.toNat m).set a.toNat p)) ((idx ((b.set a.toNat d).set c.toNat f) g).bind fun n=>(idx ((b.set a.toNat d).set c.toNat f) j).bind fun q=>(idx ((b.set a.toNat d).set c.toNat f) j).bind fun _=>(idx (((b.set a.toNat d).set c.toNat f).set j.toNat n) g).bind fun _=>(loop (qaj a k) (w64 (j + 1),w64 (g - 1),(((b.set a.toNat d).set c.toNat f).set j.toNat n).set g.toNat q)).bind fun h=>(idx h.2 a).bind fun o=>(idx h.2 h.1).bind fun r=>(idx h.2 h.1).bind fun _=>(idx (h.2.set h.1.toNat o) a).bind fun _=>some (h.1,false,(h.2.set h.1.toNat o).set a.toNat r))
noncomputable def qa4 (b : Int) (d : Int) (f : Int) (a : Int × List qo × Int) : Option ((Int × List qo × Int) ⊕ (List qo)):=
  cond (decide (a.1≤(w64 ((w64 (b + (w64 ((w64 (Int.tdiv (w64 (d - b)) 4)) * 2)))) + 1)))) ((q1z a.2.2).bind fun c=>(cond (decide ((w64 (andI .u64 c (IntKind.wrap .u64 (f - 1)))) ≥ (w64 (d - b)))) (some (w64 ((w64 (andI .u64 c (IntKind.wrap .u64 (f - 1)))) - (w64 (d - b))))) (some (w64 (andI .u64 c (IntKind.wrap .u64 (f - 1)))))).bind fun g=>(idx a.2.1 (w64 (b + g))).bind fun h=>(idx a.2.1 a.1).bind fun j=>(idx a.2.1 a.1).bind fun _=>(idx (a.2.1.set a.1.toNat h) (w64 (b + g))).bind fun _=>some (.inl (w64 (a.1 + 1),(a.2.1.set a.1.toNat h).set (w64 (b + g)).toNat j,c))) (some (.inr a.2.1))
noncomputable def qa3 (g : qo→qo→Option Int) (c : List qo) (a : Int) (b : Int) : Option (List qo):=
  cond (decide ((w64 (b - a)) ≥ 8)) ((q1y (w64 (b - a))).bind fun d=>(loop (qa4 a b d) (w64 ((w64 (a + (w64 ((w64 (Int.tdiv (w64 (b - a)) 4)) * 2)))) - 1),c,IntKind.wrap .u64 (w64 (b - a)))).bind fun f=>some f) (some c)
noncomputable def q7n (c : qo→qo→Option Int) (rec : List qo→Int→Int→Int→Option (List qo)) (a : Int × Int × Int × Bool × Bool × List qo) : Option ((Int × Int × Int × Bool × Bool × List qo) ⊕ (List qo)):=
  cond (decide ((w64 (a.2.1 - a.1))≤12)) ((qa9 c a.2.2.2.2.2 a.1 a.2.1).bind fun l=>(K3 l.length a.2.2.2.2.2.length).bind fun _=>some (.inr l)) (cond (a.2.2.1 == 0) ((qa6 c a.2.2.2.2.2 a.1 a.2.1).bind fun m=>(K3 m.length a.2.2.2.2.2.length).bind fun _=>some (.inr m)) ((cond (!a.2.2.2.1) ((qa3 c a.2.2.2.2.2 a.1 a.2.1).bind fun n=>(K3 n.length a.2.2.2.2.2.length).bind fun _=>some (w64 (a.2.2.1 - 1),n)) (some (a.2.2.1,a.2.2.2.2.2))).bind fun d=>(qa5 d.2 a.1 a.2.1 c).bind fun h=>(cond (h.2 == 2) ((qaq c d.2 a.1 a.2.1).bind fun o=>(K3 o.length d.2.length).bind fun _=>some (w64 ((w64 (a.2.1 - 1)) - (w64 (h.1 - a.1))),1,o)) (some (h.1,h.2,d.2))).bind fun f=>(cond a.2.2.2.1 (some a.2.2.2.2.1) (some false)).bind fun r=>(cond r (some (f.2.1 == 1)) (some false)).bind fun s=>(cond s ((q78 c f.2.2 a.1 a.2.1).bind fun j=>(K3 j.2.length f.2.2.length).bind fun _=>cond j.1 (some (.inr j.2)) (some (.inl j.2))) (some (.inl f.2.2)) : Option ((List qo) ⊕ (List qo))).bind fun t=>(match t with | .inl g=>(cond (decide (a.1 > 0)) ((idx g (w64 (a.1 - 1))).bind fun u=>(idx g f.1).bind fun v=>(c u v).bind fun w=>some (!(decide (w < 0)))) (some false)).bind fun x=>cond x ((qam c g a.1 a.2.1 f.1).bind fun k=>(K3 k.2.length g.length).bind fun _=>some (.inl (k.1,a.2.1,d.1,a.2.2.2.1,a.2.2.2.2.1,k.2))) ((qag c g a.1 a.2.1 f.1).bind fun b=>(K3 b.2.2.length g.length).bind fun _=>cond (decide ((w64 (b.1 - a.1)) < (w64 (a.2.1 - b.1)))) ((rec b.2.2 a.1 b.1 d.1).bind fun p=>(K3 p.length b.2.2.length).bind fun _=>some (.inl (w64 (b.1 + 1),a.2.1,d.1,decide ((w64 (b.1 - a.1)) ≥ (w64 (Int.tdiv (w64 (a.2.1 - a.1)) 8))),b.2.1,p))) ((rec b.2.2 (w64 (b.1 + 1)) a.2.1 d.1).bind fun q=>(K3 q.length b.2.2.length).bind fun _=>some (.inl (a.1,b.1,d.1,decide ((w64 (a.2.1 - b.1)) ≥ (w64 (Int.tdiv (w64 (a.2.1 - a.1)) 8))),b.2.1,q)))) | .inr y=>some (.inr y))))
noncomputable def q7o (rec : List qo→Int→Int→Int→Option (List qo)) (a : qo→qo→Option Int) (b : List qo) (c : Int) (d : Int) (f : Int) : Option (List qo):=
  (loop (q7n a rec) (c,d,f,true,true,b)).bind fun g=>some g
noncomputable def q7m : Nat→(qo→qo→Option Int)→List qo→Int→Int→Int→Option (List qo)
  | 0,_,_,_,_,_=>none
  | n + 1,a,b,c,d,f=>q7o (q7m n a) a b c d f
noncomputable def q6x (c : qo→qo→Option Int) (a : List qo) : Option (List qo):=
  (Uw (IntKind.wrap .u64 (a.length : Int))).bind fun d=>(lim (fun n=>q7m n c a 0 (a.length : Int) d)).bind fun b=>(K3 b.length a.length).bind fun _=>some b
noncomputable def qdq (a : List qo) : Option (List qo):=
  some a
noncomputable def q4s (b : List ql) (c : Int × List qo) (a : Int × List qo) : Option ((Int × List qo) ⊕ (List qo)):=
  cond (decide (a.1 < (b.length : Int))) ((idx b a.1).bind fun d=>(app 24 a.2 [({at_:=d.Lo,list_:=c.1,by_:=1} : qo),({at_:=d.Hi,list_:=c.1,by_:=(-1)} : qo)]).bind fun f=>some (.inl (w64 (a.1 + 1),f))) (some (.inr a.2))
noncomputable def q12 (b : List (List ql)) (a : Int × List qo) : Option ((Int × List qo) ⊕ (List qo)):=
  cond (decide (a.1 < (b.length : Int))) (((idx b a.1).bind fun c=>(loop (q4s c a) (0,a.2)).bind fun d=>some d).bind fun f=>some (.inl (w64 (a.1 + 1),f))) (some (.inr a.2))
noncomputable def qb2 (b : List (List ql)) : Option (List (List ql) × List qo):=
  (loop (q12 b) (0,[])).bind fun c=>(q6x (fun f g=>qb1 f g) c).bind fun a=>(K3 a.length c.length).bind fun _=>(qdq a).bind fun d=>(K3 d.length a.length).bind fun _=>some (b,d)
noncomputable def qb3 (d : Int) (c : Bool) (b : Int) (a : List ql) : Option (Bool × Int × List ql):=
  (cond (!c) (some true) (some (b == d))).bind fun f=>cond f (some (c,b,a)) ((cond (decide ((a.length : Int) > 0)) ((idx a (w64 ((a.length : Int) - 1))).bind fun g=>some (g.Hi == b)) (some false)).bind fun h=>cond h ((idx a (w64 ((a.length : Int) - 1))).bind fun j=>some (c,b,a.set (w64 ((a.length : Int) - 1)).toNat ({Lo:=j.Lo,Hi:=d} : ql))) ((app 16 a [({Lo:=b,Hi:=d} : ql)]).bind fun k=>some (c,b,k)))
noncomputable def q4t (f : List (List ql) × List qo) (g : Bool→Bool→Option Bool) (a : Int × List Int × Int × Bool × List ql) : Option ((Int × List Int × Int × Bool × List ql) ⊕ (List ql)):=
  cond (decide (a.1 < (f.2.length : Int))) ((idx f.2 a.1).bind fun b=>((qb3 b.at_ a.2.2.2.1 a.2.2.1 a.2.2.2.2).bind fun h=>(idxA 2 a.2.1 b.list_).bind fun c=>(idxA 2 a.2.1 b.list_).bind fun _=>(idxA 2 (a.2.1.set b.list_.toNat (w64 (c + b.by_))) 0).bind fun j=>(idxA 2 (a.2.1.set b.list_.toNat (w64 (c + b.by_))) 1).bind fun k=>(g (decide (j > 0)) (decide (k > 0))).bind fun l=>some (a.2.1.set b.list_.toNat (w64 (c + b.by_)),l,h.2.2)).bind fun d=>some (.inl (w64 (a.1 + 1),d.1,b.at_,d.2.1,d.2.2))) (some (.inr a.2.2.2.2))
noncomputable def q37 (a : List ql) (b : List ql) (d : Bool→Bool→Option Bool) : Option (List ql):=
  (qb2 [a,b]).bind fun c=>(K3 c.1.length [a,b].length).bind fun _=>((loop (q4t c d) (0,[0,0],0,false,[])).bind fun f=>some f).bind fun g=>some g
noncomputable def qaz (a : Bool) (b : Bool) : Option Bool:=
  some a
noncomputable def q7z (a : List ql) : Option (List ql × Int):=
  cond (decide ((a.length : Int) > 400)) (some ([],4)) ((q9z a (fun b=>qdw b)).bind fun c=>cond c (some ([],8)) ((q37 a [] (fun b d=>qaz b d)).bind fun f=>some (f,0)))
noncomputable def qdj (b : List ql) (f : List ql) (a : Int) : Option ((Int) ⊕ ((Unit) ⊕ (Bool))):=
  cond (decide (a < (b.length : Int))) ((idx b a).bind fun c=>(idx f a).bind fun d=>cond (!((c.Lo == d.Lo) && ((c.Hi == d.Hi) && true))) (some (.inr (.inr false))) (some (.inl (w64 (a + 1))))) (some (.inr (.inl ())))
noncomputable def qa0 (a : List ql) (b : List ql) : Option Bool:=
  cond ((a.length : Int) != (b.length : Int)) (some false) ((loop (qdj a b) 0 : Option ((Unit) ⊕ (Bool))).bind fun c=>(match c with | .inl _=>some true | .inr d=>some d))
noncomputable def q6k (c : Int) (a : Int × List qi) : Option ((Int × List qi) ⊕ (List qi)):=
  cond (decide (a.1 < (a.2.length : Int))) ((idx a.2 a.1).bind fun b=>some (.inl (w64 (a.1 + 1),a.2.set a.1.toNat ({X0:=b.X0,Y0:=b.Y0,X1:=c,Y1:=b.Y1} : qi)))) (some (.inr a.2))
noncomputable def q6l (b : List ql) (f : Int) (c : Int) (g : List qi) (a : Int × List qi) : Option ((Int × List qi) ⊕ (List ql × Int × Int × List qi)):=
  cond (decide (a.1 < (b.length : Int))) ((idx b a.1).bind fun d=>(app 32 a.2 [({X0:=f,Y0:=d.Lo,X1:=c,Y1:=d.Hi} : qi)]).bind fun h=>some (.inl (w64 (a.1 + 1),h))) (some (.inr (b,(g.length : Int),c,a.2)))
noncomputable def q6j (a : List qi) (d : List ql) (f : Int) (h : Int) (g : Int) (b : Int) (c : List ql) : Option (List ql × Int × Int × List qi):=
  (cond (decide ((c.length : Int) > 0)) (some (h == g)) (some false)).bind fun j=>(cond j ((qa0 d c).bind fun k=>some k) (some false)).bind fun l=>cond l ((loop (q6k b) (f,a)).bind fun m=>some (d,f,b,m)) ((loop (q6l c g b a) (0,a)).bind fun n=>some n)
noncomputable def J4 (b : List qi) (a : Int × List Int) : Option ((Int × List Int) ⊕ (List Int)):=
  cond (decide (a.1 < (b.length : Int))) ((idx b a.1).bind fun c=>(app 8 a.2 [c.X0,c.X1]).bind fun d=>some (.inl (w64 (a.1 + 1),d))) (some (.inr a.2))
noncomputable def Uh (c : List qi) (d : Int) (a : Int × List ql) : Option ((Int × List ql) ⊕ (List ql)):=
  cond (decide (a.1 < (c.length : Int))) (((idx c a.1).bind fun b=>(cond (decide (b.X0≤d)) (some (decide (d < b.X1))) (some false)).bind fun f=>cond f ((app 16 a.2 [({Lo:=b.Y0,Hi:=b.Y1} : ql)]).bind fun g=>some g) (some a.2)).bind fun h=>some (.inl (w64 (a.1 + 1),h))) (some (.inr a.2))
noncomputable def q2x (d : List Int) (g : List qi) (a : Int × List ql × Int × Int × List qi) : Option ((Int × List ql × Int × Int × List qi) ⊕ (List ql × Int × Int × List qi)):=
  cond (decide (a.1 < (d.length : Int))) ((idx d (w64 (a.1 - 1))).bind fun f=>(idx d a.1).bind fun h=>((idx [g] 0).bind fun j=>(loop (Uh j f) (0,[])).bind fun k=>some k).bind fun l=>((q7z l).bind fun m=>(q6j a.2.2.2.2 a.2.1 a.2.2.1 a.2.2.2.1 f h m.1).bind fun b=>some (b.1,b.2.1,b.2.2.1,b.2.2.2)).bind fun c=>some (.inl (w64 (a.1 + 1),c.1,c.2.1,c.2.2.1,c.2.2.2))) (some (.inr (a.2.1,a.2.2.1,a.2.2.2.1,a.2.2.2.2)))
noncomputable def q6m (d : List qi) : Option (List qi × Int):=
  (((idx [d] 0).bind fun j=>(loop (J4 j) (0,[])).bind fun b=>some b).bind fun f=>(U3 f).bind fun c=>(K3 c.length f.length).bind fun _=>(q10 c).bind fun a=>(K3 a.2.length c.length).bind fun _=>(q14 a.2.length a.1).bind fun _=>some ((a.2.drop a.1.1).take a.1.2)).bind fun k=>((loop (q2x k d) (1,[],0,0,[])).bind fun b=>some b).bind fun g=>(cond (decide ((g.2.2.2.length : Int) > 400)) (some (4,[])) (some (0,g.2.2.2))).bind fun h=>some (h.2,h.1)
noncomputable def q1u (a : List qi) : Option (List qi × Int):=
  cond (decide ((a.length : Int) > 400)) (some ([],4)) ((q9x a (fun c=>q2v c)).bind fun d=>cond d (some ([],8)) ((q6m a).bind fun b=>some (b.1,b.2)))
noncomputable def qdh (d : List qi) (f : List qi) (a : Int) : Option ((Int) ⊕ ((Unit) ⊕ (Bool))):=
  cond (decide (a < (d.length : Int))) ((idx d a).bind fun b=>(idx f a).bind fun c=>cond (!((b.X0 == c.X0) && ((b.Y0 == c.Y0) && ((b.X1 == c.X1) && ((b.Y1 == c.Y1) && true))))) (some (.inr (.inr false))) (some (.inl (w64 (a + 1))))) (some (.inr (.inl ())))
noncomputable def q6u (a : List qi) (b : List qi) : Option Bool:=
  cond ((a.length : Int) != (b.length : Int)) (some false) ((loop (qdh a b) 0 : Option ((Unit) ⊕ (Bool))).bind fun c=>(match c with | .inl _=>some true | .inr d=>some d))
noncomputable def q7u (c : Int) (a : Int × List qg) : Option ((Int × List qg) ⊕ (List qg)):=
  cond (decide (a.1 < (a.2.length : Int))) ((idx a.2 a.1).bind fun b=>some (.inl (w64 (a.1 + 1),a.2.set a.1.toNat ({Lo:=b.Lo,Hi:=({X:=b.Hi.X,Y:=b.Hi.Y,Z:=c} : Qb)} : qg)))) (some (.inr a.2))
noncomputable def q7v (c : List qi) (f : Int) (d : Int) (g : List qg) (a : Int × List qg) : Option ((Int × List qg) ⊕ (List qi × Int × Int × List qg)):=
  cond (decide (a.1 < (c.length : Int))) ((idx c a.1).bind fun b=>(app 48 a.2 [({Lo:=({X:=b.X0,Y:=b.Y0,Z:=f} : Qb),Hi:=({X:=b.X1,Y:=b.Y1,Z:=d} : Qb)} : qg)]).bind fun h=>some (.inl (w64 (a.1 + 1),h))) (some (.inr (c,(g.length : Int),d,a.2)))
noncomputable def q7t (a : List qg) (d : List qi) (f : Int) (h : Int) (g : Int) (b : Int) (c : List qi) : Option (List qi × Int × Int × List qg):=
  (cond (decide ((c.length : Int) > 0)) (some (h == g)) (some false)).bind fun j=>(cond j ((q6u d c).bind fun k=>some k) (some false)).bind fun l=>cond l ((loop (q7u b) (f,a)).bind fun m=>some (d,f,b,m)) ((loop (q7v c g b a) (0,a)).bind fun n=>some n)
noncomputable def q20 (b : List qg) (a : Int × List Int) : Option ((Int × List Int) ⊕ (List Int)):=
  cond (decide (a.1 < (b.length : Int))) ((idx b a.1).bind fun c=>(app 8 a.2 [c.Lo.Z,c.Hi.Z]).bind fun d=>some (.inl (w64 (a.1 + 1),d))) (some (.inr a.2))
noncomputable def q21 (c : List qg) (d : Int) (a : Int × List qi) : Option ((Int × List qi) ⊕ (List qi)):=
  cond (decide (a.1 < (c.length : Int))) (((idx c a.1).bind fun b=>(cond (decide (b.Lo.Z≤d)) (some (decide (d < b.Hi.Z))) (some false)).bind fun f=>cond f ((app 32 a.2 [({X0:=b.Lo.X,Y0:=b.Lo.Y,X1:=b.Hi.X,Y1:=b.Hi.Y} : qi)]).bind fun g=>some g) (some a.2)).bind fun h=>some (.inl (w64 (a.1 + 1),h))) (some (.inr a.2))
noncomputable def q4r (d : List Int) (h : List qg) (a : Int × List qi × Int × Int × List qg) : Option ((Int × List qi × Int × Int × List qg) ⊕ ((List qi × Int × Int × List qg) ⊕ (List qg × Int))):=
  cond (decide (a.1 < (d.length : Int))) ((idx d (w64 (a.1 - 1))).bind fun g=>(idx d a.1).bind fun j=>((idx [h] 0).bind fun k=>(loop (q21 k g) (0,[])).bind fun l=>some l).bind fun m=>((q1u m).bind fun f=>cond (f.2 != 0) (some (.inr ([],f.2))) ((q7t a.2.2.2.2 a.2.1 a.2.2.1 a.2.2.2.1 g j f.1).bind fun b=>some (.inl (b.1,b.2.1,b.2.2.1,b.2.2.2))) : Option ((List qi × Int × Int × List qg) ⊕ (List qg × Int))).bind fun n=>(match n with | .inl c=>some (.inl (w64 (a.1 + 1),c.1,c.2.1,c.2.2.1,c.2.2.2)) | .inr o=>some (.inr (.inr o)))) (some (.inr (.inl (a.2.1,a.2.2.1,a.2.2.2.1,a.2.2.2.2))))
noncomputable def q7y (f : List qg) : Option (List qg × Int):=
  (((idx [f] 0).bind fun j=>(loop (q20 j) (0,[])).bind fun b=>some b).bind fun g=>(U3 g).bind fun c=>(K3 c.length g.length).bind fun _=>(q10 c).bind fun a=>(K3 a.2.length c.length).bind fun _=>(q14 a.2.length a.1).bind fun _=>some ((a.2.drop a.1.1).take a.1.2)).bind fun k=>((loop (q4r k f) (1,[],0,0,[]) : Option ((List qi × Int × Int × List qg) ⊕ (List qg × Int))).bind fun l=>(match l with | .inl b=>some (.inl b) | .inr d=>some (.inr d)) : Option ((List qi × Int × Int × List qg) ⊕ (List qg × Int))).bind fun m=>(match m with | .inl h=>cond (decide ((h.2.2.2.length : Int) > 400)) (some ([],4)) (some (h.2.2.2,0)) | .inr d=>some d)
noncomputable def qh8 (d : List qg) (f : List qg) (c : Int) : Option ((Int) ⊕ ((Unit) ⊕ (Bool))):=
  cond (decide (c < (d.length : Int))) ((idx d c).bind fun a=>(idx f c).bind fun b=>cond (!((a.Lo.X == b.Lo.X) && ((a.Lo.Y == b.Lo.Y) && ((a.Lo.Z == b.Lo.Z) && ((a.Hi.X == b.Hi.X) && ((a.Hi.Y == b.Hi.Y) && ((a.Hi.Z == b.Hi.Z) && true))))))) (some (.inr (.inr false))) (some (.inl (w64 (c + 1))))) (some (.inr (.inl ())))
noncomputable def qdi (a : List qg) (b : List qg) : Option Bool:=
  cond ((a.length : Int) != (b.length : Int)) (some false) ((loop (qh8 a b) 0 : Option ((Unit) ⊕ (Bool))).bind fun c=>(match c with | .inl _=>some true | .inr d=>some d))
noncomputable def q4p (a : List qg) : Option Int:=
  cond (decide ((a.length : Int) > 400)) (some 4) ((q1x a (fun c=>q34 c)).bind fun d=>cond d (some 8) ((q7y a).bind fun b=>(cond (b.2 != 0) (some true) ((qdi b.1 a).bind fun f=>some (!f))).bind fun g=>cond g (some 8) (some 0)))
noncomputable def qbd (a : K7) : Option Bool:=
  some (decide (a.Depth < 0))
noncomputable def q86 (b : List (List qg)) (a : Int) : Option ((Int) ⊕ ((Unit) ⊕ (Int))):=
  cond (decide (a < (b.length : Int))) ((idx b a).bind fun d=>(q4p d).bind fun c=>cond (c != 0) (some (.inr (.inr c))) (some (.inl (w64 (a + 1))))) (some (.inr (.inl ())))
noncomputable def qbc (a : K5) (b : List (List qg)) : Option Int:=
  (qbk a).bind fun c=>cond (c.2 != 0) (some c.2) (cond (decide ((b.length : Int) > 20)) (some 4) ((loop (q86 b) 0 : Option ((Unit) ⊕ (Int))).bind fun d=>(match d with | .inl _=>(cond (decide ((a.Lines.length : Int) > 0)) (some ((b.length : Int) == 0)) (some false)).bind fun f=>cond f (some 6) ((q6t a.Lines (fun g=>qbd g)).bind fun h=>cond h (some 2) (some 0)) | .inr j=>some j)))
noncomputable def qbe (a : Qb) : Option Bool:=
  (cond (decide ((min (min a.X a.Y) a.Z) ≥ (-1000000))) (some (decide ((max (max a.X a.Y) a.Z)≤1000000))) (some false)).bind fun b=>some b
noncomputable def q4e (b : List qg) (c : qg→Option Bool) (a : Int) : Option ((Int) ⊕ ((Unit) ⊕ (Int))):=
  cond (decide (a < (b.length : Int))) ((idx b a).bind fun d=>(c d).bind fun f=>cond f (some (.inr (.inr a))) (some (.inl (w64 (a + 1))))) (some (.inr (.inl ())))
noncomputable def qdk (a : List qg) (b : qg→Option Bool) : Option Int:=
  (loop (q4e a b) 0 : Option ((Unit) ⊕ (Int))).bind fun c=>(match c with | .inl _=>some (-1) | .inr d=>some d)
noncomputable def q9v (a : List qg) (b : qg→Option Bool) : Option Bool:=
  (qdk a b).bind fun c=>some (decide (c ≥ 0))
noncomputable def q35 (a : qg) : Option Bool:=
  (q7x a).bind fun b=>some (!b)
noncomputable def qau (a : List qg) : Option (List qg × Int):=
  cond (decide ((a.length : Int) > 400)) (some ([],4)) ((q9v a (fun c=>q35 c)).bind fun d=>cond d (some ([],8)) ((q7y a).bind fun b=>some (b.1,b.2)))
noncomputable def q4z (d : List qg) (a : K7) (c : Int × List qg) : Option ((Int × List qg) ⊕ ((List qg) ⊕ (List qg × Int))):=
  cond (decide (c.1 < (d.length : Int))) ((idx d c.1).bind fun b=>(qbe ({X:=w64 (b.Lo.X + (min a.From.X a.To.X)),Y:=w64 (b.Lo.Y + (min a.From.Y a.To.Y)),Z:=w64 (b.Lo.Z + (min a.From.Z a.To.Z))} : Qb)).bind fun f=>(cond (!f) (some true) ((qbe ({X:=w64 (b.Hi.X + (max a.From.X a.To.X)),Y:=w64 (b.Hi.Y + (max a.From.Y a.To.Y)),Z:=w64 (b.Hi.Z + (max a.From.Z a.To.Z))} : Qb)).bind fun g=>some (!g))).bind fun h=>cond h (some (.inr (.inr ([],16)))) ((app 48 c.2 [({Lo:=({X:=w64 (b.Lo.X + (min a.From.X a.To.X)),Y:=w64 (b.Lo.Y + (min a.From.Y a.To.Y)),Z:=w64 (b.Lo.Z + (min a.From.Z a.To.Z))} : Qb),Hi:=({X:=w64 (b.Hi.X + (max a.From.X a.To.X)),Y:=w64 (b.Hi.Y + (max a.From.Y a.To.Y)),Z:=w64 (b.Hi.Z + (max a.From.Z a.To.Z))} : Qb)} : qg)]).bind fun j=>some (.inl (w64 (c.1 + 1),j)))) (some (.inr (.inl c.2)))
noncomputable def qbb (b : K7) (c : List qg) : Option (List qg × Int):=
  (loop (q4z c b) (0,[]) : Option ((List qg) ⊕ (List qg × Int))).bind fun d=>(match d with | .inl f=>(qau f).bind fun a=>some (a.1,a.2) | .inr g=>some g)
noncomputable def q84 (c : K5) (d : List (List qg)) (a : Int × List (List qg)) : Option ((Int × List (List qg)) ⊕ ((List (List qg)) ⊕ (List (List qg) × Int))):=
  cond (decide (a.1 < (c.Lines.length : Int))) ((idx c.Lines a.1).bind fun f=>(idx d (min f.Depth (w64 ((d.length : Int) - 1)))).bind fun g=>(qbb f g).bind fun b=>(cond (b.2 != 0) (some (.inr ([],b.2))) ((app 24 a.2 [b.1]).bind fun h=>some (.inl h)) : Option ((List (List qg)) ⊕ (List (List qg) × Int))).bind fun j=>(match j with | .inl k=>some (.inl (w64 (a.1 + 1),k)) | .inr l=>some (.inr (.inr l)))) (some (.inr (.inl a.2)))
noncomputable def q83 (b : K5) (c : List (List qg)) : Option (List (List qg) × Int):=
  (qbc b c).bind fun d=>cond (d != 0) (some ([],d)) ((some ()).bind fun _=>((loop (q84 b c) (0,[]) : Option ((List (List qg)) ⊕ (List (List qg) × Int))).bind fun f=>(match f with | .inl g=>some (.inl g) | .inr a=>some (.inr a)) : Option ((List (List qg)) ⊕ (List (List qg) × Int))).bind fun h=>(match h with | .inl j=>some (j,0) | .inr a=>some a))
noncomputable def q5x (a : Ju) : Option Int:=
  (cond (decide (a.Turn ≥ 24)) (some true) ((Jg a.At (-1000000)).bind fun b=>some (!b))).bind fun c=>cond c (some 8) (some 0)
noncomputable def q5z (d : K5) (a : Int) : Option ((Int) ⊕ ((Unit) ⊕ (Int))):=
  cond (decide (a < (d.Lines.length : Int))) ((idx d.Lines a).bind fun b=>(idx d.Lines a).bind fun c=>(cond (b.From.X != c.To.X) (some (w64 (0 + 1))) (some 0)).bind fun f=>(cond (b.From.Y != c.To.Y) (some (w64 (f + 1))) (some f)).bind fun g=>(cond (b.From.Z != c.To.Z) (some (w64 (g + 1))) (some g)).bind fun h=>(cond (decide (h > 1)) (some true) ((Jg b.From (-1000000)).bind fun j=>some (!j))).bind fun k=>(cond k (some true) ((Jg c.To (-1000000)).bind fun l=>some (!l))).bind fun m=>cond m (some (.inr (.inr 8))) (some (.inl (w64 (a + 1))))) (some (.inr (.inl ())))
noncomputable def q60 (b : K5) (a : Int) : Option ((Int) ⊕ ((Unit) ⊕ (Int))):=
  cond (decide (a < (b.Marks.length : Int))) ((idx b.Marks a).bind fun c=>(q5x c.Frame).bind fun d=>cond (d != 0) (some (.inr (.inr 8))) (some (.inl (w64 (a + 1))))) (some (.inr (.inl ())))
noncomputable def q5y (a : K5) : Option Int:=
  (cond (decide ((a.Lines.length : Int) > 2000)) (some true) (some (decide ((a.Marks.length : Int) > 2000)))).bind fun c=>(cond c (some true) ((q5x a.End.Frame).bind fun d=>some (d != 0))).bind fun f=>cond f (some 8) ((loop (q5z a) 0 : Option ((Unit) ⊕ (Int))).bind fun g=>(match g with | .inl _=>(loop (q60 a) 0 : Option ((Unit) ⊕ (Int))).bind fun h=>(match h with | .inl _=>some 0 | .inr b=>some b) | .inr b=>some b))
noncomputable def q46 (a : qg) : Option Bool:=
  (Jg a.Lo (-1000000)).bind fun b=>(cond b ((Jg a.Hi (-1000000)).bind fun c=>some c) (some false)).bind fun d=>(cond d (some (decide (a.Lo.X < a.Hi.X))) (some false)).bind fun f=>(cond f (some (decide (a.Lo.Y < a.Hi.Y))) (some false)).bind fun g=>(cond g (some (decide (a.Lo.Z < a.Hi.Z))) (some false)).bind fun h=>some h
noncomputable def q3u (b : Int × List Int) (c : List Int) (a : Int) : Option ((Int) ⊕ (Int)):=
  (cond (decide (a > 0)) ((idx b.2 (w64 (a - 1))).bind fun d=>(idx c b.1).bind fun f=>some (decide (d > f))) (some false)).bind fun g=>cond g (some (.inl (w64 (a - 1)))) (some (.inr a))
noncomputable def q3t (d : List Int) (a : Int × List Int) : Option ((Int × List Int) ⊕ (List Int)):=
  cond (decide (a.1 < (d.length : Int))) (((loop (q3u a d) (a.2.length : Int)).bind fun c=>(cond (decide (c > 0)) ((idx a.2 (w64 (c - 1))).bind fun h=>(idx d a.1).bind fun j=>some (h == j)) (some false)).bind fun k=>cond k (some a.2) ((app 8 a.2 [0]).bind fun b=>(sub2 b.length (w64 (c + 1)) b.length).bind fun g=>(sub2 b.length c b.length).bind fun f=>(idx d a.1).bind fun l=>(idx (cpyw b g ((b.drop f.1).take f.2)) c).bind fun _=>some ((cpyw b g ((b.drop f.1).take f.2)).set c.toNat l))).bind fun m=>some (.inl (w64 (a.1 + 1),m))) (some (.inr a.2))
noncomputable def U0 (a : List Int) : Option (List Int):=
  (loop (q3t a) (0,[])).bind fun b=>some b
noncomputable def q43 (b : List qg) (a : Int × List Int) : Option ((Int × List Int) ⊕ (List Int)):=
  cond (decide (a.1 < (b.length : Int))) ((idx b a.1).bind fun c=>(idx b a.1).bind fun d=>(app 8 a.2 [c.Lo.Z,d.Hi.Z]).bind fun f=>some (.inl (w64 (a.1 + 1),f))) (some (.inr a.2))
noncomputable def q44 (b : List qg) (a : Int × List Int) : Option ((Int × List Int) ⊕ (List Int)):=
  cond (decide (a.1 < (b.length : Int))) ((idx b a.1).bind fun c=>(idx b a.1).bind fun d=>(app 8 a.2 [c.Lo.Z,d.Hi.Z]).bind fun f=>some (.inl (w64 (a.1 + 1),f))) (some (.inr a.2))
noncomputable def q9i (a : List qg) (b : List qg) : Option (List Int):=
  (loop (q43 a) (0,[])).bind fun c=>(loop (q44 b) (0,c)).bind fun d=>(U0 d).bind fun f=>some f
noncomputable def q61 (b : List qg) (c : Int) (a : Int × List qi) : Option ((Int × List qi) ⊕ (List qi)):=
  cond (decide (a.1 < (b.length : Int))) (((idx b a.1).bind fun d=>(cond (decide (d.Lo.Z≤c)) ((idx b a.1).bind fun f=>some (decide (c < f.Hi.Z))) (some false)).bind fun g=>cond g ((idx b a.1).bind fun h=>(idx b a.1).bind fun j=>(idx b a.1).bind fun k=>(idx b a.1).bind fun l=>(app 32 a.2 [({X0:=h.Lo.X,Y0:=j.Lo.Y,X1:=k.Hi.X,Y1:=l.Hi.Y} : qi)]).bind fun m=>some m) (some a.2)).bind fun n=>some (.inl (w64 (a.1 + 1),n))) (some (.inr a.2))
noncomputable def U1 (a : List qg) (b : Int) : Option (List qi):=
  (loop (q61 a b) (0,[])).bind fun c=>some c
noncomputable def q3x (b : List qi) (a : Int × List Int) : Option ((Int × List Int) ⊕ (List Int)):=
  cond (decide (a.1 < (b.length : Int))) ((idx b a.1).bind fun c=>(idx b a.1).bind fun d=>(app 8 a.2 [c.X0,d.X1]).bind fun f=>some (.inl (w64 (a.1 + 1),f))) (some (.inr a.2))
noncomputable def q3y (b : List qi) (a : Int × List Int) : Option ((Int × List Int) ⊕ (List Int)):=
  cond (decide (a.1 < (b.length : Int))) ((idx b a.1).bind fun c=>(idx b a.1).bind fun d=>(app 8 a.2 [c.X0,d.X1]).bind fun f=>some (.inl (w64 (a.1 + 1),f))) (some (.inr a.2))
noncomputable def q9f (a : List qi) (b : List qi) : Option (List Int):=
  (loop (q3x a) (0,[])).bind fun c=>(loop (q3y b) (0,c)).bind fun d=>(U0 d).bind fun f=>some f
noncomputable def q3z (b : List qi) (a : Int × List Int) : Option ((Int × List Int) ⊕ (List Int)):=
  cond (decide (a.1 < (b.length : Int))) ((idx b a.1).bind fun c=>(idx b a.1).bind fun d=>(app 8 a.2 [c.Y0,d.Y1]).bind fun f=>some (.inl (w64 (a.1 + 1),f))) (some (.inr a.2))
noncomputable def q40 (b : List qi) (a : Int × List Int) : Option ((Int × List Int) ⊕ (List Int)):=
  cond (decide (a.1 < (b.length : Int))) ((idx b a.1).bind fun c=>(idx b a.1).bind fun d=>(app 8 a.2 [c.Y0,d.Y1]).bind fun f=>some (.inl (w64 (a.1 + 1),f))) (some (.inr a.2))
noncomputable def q9g (a : List qi) (b : List qi) : Option (List Int):=
  (loop (q3z a) (0,[])).bind fun c=>(loop (q40 b) (0,c)).bind fun d=>(U0 d).bind fun f=>some f
noncomputable def q2s (b : List qi) (c : Int) (d : Int) (a : Int) : Option ((Int) ⊕ ((Unit) ⊕ (Bool))):=
  cond (decide (a < (b.length : Int))) ((idx b a).bind fun f=>(cond (decide (f.X0≤c)) ((idx b a).bind fun g=>some (decide (c < g.X1))) (some false)).bind fun h=>(cond h ((idx b a).bind fun j=>some (decide (j.Y0≤d))) (some false)).bind fun k=>(cond k ((idx b a).bind fun l=>some (decide (d < l.Y1))) (some false)).bind fun m=>cond m (some (.inr (.inr true))) (some (.inl (w64 (a + 1))))) (some (.inr (.inl ())))
noncomputable def q5t (a : List qi) (b : Int) (c : Int) : Option Bool:=
  (loop (q2s a b c) 0 : Option ((Unit) ⊕ (Bool))).bind fun d=>(match d with | .inl _=>some false | .inr f=>some f)
noncomputable def q5r (c : Int) (a : Bool) (b : Bool) : Option Bool:=
  cond (c == 1) ((cond a (some b) (some false)).bind fun d=>some d) (cond (c == 2) ((cond a (some true) (some b)).bind fun f=>some f) ((cond a (some (!b)) (some false)).bind fun g=>some g))
noncomputable def q3s (b : List Int) (c : List Bool) (a : Int × List ql) : Option ((Int × List ql) ⊕ (List ql)):=
  cond (decide ((w64 (a.1 + 1)) < (b.length : Int))) (((idx c a.1).bind fun d=>cond (!d) (some a.2) ((cond (decide ((a.2.length : Int) > 0)) ((idx a.2 (w64 ((a.2.length : Int) - 1))).bind fun f=>(idx b a.1).bind fun g=>some (f.Hi == g)) (some false)).bind fun h=>cond h ((idx b (w64 (a.1 + 1))).bind fun j=>(idx a.2 (w64 ((a.2.length : Int) - 1))).bind fun k=>some (a.2.set (w64 ((a.2.length : Int) - 1)).toNat ({Lo:=k.Lo,Hi:=j} : ql))) ((idx b a.1).bind fun l=>(idx b (w64 (a.1 + 1))).bind fun m=>(app 16 a.2 [({Lo:=l,Hi:=m} : ql)]).bind fun n=>some n))).bind fun o=>some (.inl (w64 (a.1 + 1),o))) (some (.inr a.2))
noncomputable def q3r (a : List Int) (b : List Bool) : Option (List ql):=
  (loop (q3s a b) (0,[])).bind fun c=>some c
noncomputable def qcw (b : List ql) (f : List ql) (a : Int) : Option ((Int) ⊕ ((Unit) ⊕ (Bool))):=
  cond (decide (a < (b.length : Int))) ((idx b a).bind fun c=>(idx f a).bind fun d=>cond (!((c.Lo == d.Lo) && ((c.Hi == d.Hi) && true))) (some (.inr (.inr false))) (some (.inl (w64 (a + 1))))) (some (.inr (.inl ())))
noncomputable def q5s (a : List ql) (b : List ql) : Option Bool:=
  cond ((a.length : Int) != (b.length : Int)) (some false) ((loop (qcw a b) 0 : Option ((Unit) ⊕ (Bool))).bind fun c=>(match c with | .inl _=>some true | .inr d=>some d))
noncomputable def q3v (b : List Int) (c : List Int) (d : List ql × Int × Int × List qi) (f : List qi) (g : List qi) (h : Int) (a : Int × List Bool) : Option ((Int × List Bool) ⊕ (List Bool)):=
  cond (decide (a.1 < (b.length : Int))) ((idx c d.2.2.1).bind fun j=>(idx b a.1).bind fun k=>(q5t f j k).bind fun l=>(idx c d.2.2.1).bind fun m=>(idx b a.1).bind fun n=>(q5t g m n).bind fun o=>(q5r h l o).bind fun p=>(app 1 a.2 [p]).bind fun q=>some (.inl (w64 (a.1 + 1),q))) (some (.inr a.2))
noncomputable def q3w (c : List Int) (d : List ql × Int × Int × List qi) (a : Int × List qi) : Option ((Int × List qi) ⊕ (List qi)):=
  cond (decide (a.1 < (a.2.length : Int))) ((idx c (w64 (d.2.2.1 + 1))).bind fun f=>(idx a.2 a.1).bind fun b=>some (.inl (w64 (a.1 + 1),a.2.set a.1.toNat ({X0:=b.X0,Y0:=b.Y0,X1:=f,Y1:=b.Y1} : qi)))) (some (.inr a.2))
noncomputable def q5u (b : List ql) (d : List Int) (c : List ql × Int × Int × List qi) (a : Int × List qi) : Option ((Int × List qi) ⊕ (List ql × Int × List qi)):=
  cond (decide (a.1 < (b.length : Int))) ((idx d c.2.2.1).bind fun f=>(idx b a.1).bind fun g=>(idx d (w64 (c.2.2.1 + 1))).bind fun h=>(idx b a.1).bind fun j=>(app 32 a.2 [({X0:=f,Y0:=g.Lo,X1:=h,Y1:=j.Hi} : qi)]).bind fun k=>some (.inl (w64 (a.1 + 1),k))) (some (.inr (b,(c.2.2.2.length : Int),a.2)))
noncomputable def q2t (b : List Int) (d : List Int) (g : List qi) (h : List qi) (j : Int) (a : List ql × Int × Int × List qi) : Option ((List ql × Int × Int × List qi) ⊕ (List qi)):=
  cond (decide ((w64 (a.2.2.1 + 1)) < (b.length : Int))) (((loop (q3v d b a g h j) (0,[])).bind fun k=>(q3r d k).bind fun f=>(cond (decide (a.2.2.1 > 0)) ((q5s f a.1).bind fun l=>some l) (some false)).bind fun m=>cond m ((loop (q3w b a) (a.2.1,a.2.2.2)).bind fun n=>some (a.1,a.2.1,n)) ((loop (q5u f b a) (0,a.2.2.2)).bind fun o=>some o)).bind fun c=>some (.inl (c.1,c.2.1,w64 (a.2.2.1 + 1),c.2.2))) (some (.inr a.2.2.2))
noncomputable def Jf (c : Int) (a : List qi) (b : List qi) : Option (List qi):=
  (q9f a b).bind fun d=>(q9g a b).bind fun f=>(loop (q2t d f a b c) ([],0,0,[])).bind fun g=>some g
noncomputable def qcx (d : List qi) (f : List qi) (a : Int) : Option ((Int) ⊕ ((Unit) ⊕ (Bool))):=
  cond (decide (a < (d.length : Int))) ((idx d a).bind fun b=>(idx f a).bind fun c=>cond (!((b.X0 == c.X0) && ((b.Y0 == c.Y0) && ((b.X1 == c.X1) && ((b.Y1 == c.Y1) && true))))) (some (.inr (.inr false))) (some (.inl (w64 (a + 1))))) (some (.inr (.inl ())))
noncomputable def q5w (a : List qi) (b : List qi) : Option Bool:=
  cond ((a.length : Int) != (b.length : Int)) (some false) ((loop (qcx a b) 0 : Option ((Unit) ⊕ (Bool))).bind fun c=>(match c with | .inl _=>some true | .inr d=>some d))
noncomputable def q45 (c : List Int) (d : List qi × Int × Int × List qg) (a : Int × List qg) : Option ((Int × List qg) ⊕ (List qg)):=
  cond (decide (a.1 < (a.2.length : Int))) ((idx c (w64 (d.2.2.1 + 1))).bind fun f=>(idx a.2 a.1).bind fun b=>some (.inl (w64 (a.1 + 1),a.2.set a.1.toNat ({Lo:=b.Lo,Hi:=({X:=b.Hi.X,Y:=b.Hi.Y,Z:=f} : Qb)} : qg)))) (some (.inr a.2))
noncomputable def q64 (b : List qi) (d : List Int) (c : List qi × Int × Int × List qg) (a : Int × List qg) : Option ((Int × List qg) ⊕ (List qi × Int × List qg)):=
  cond (decide (a.1 < (b.length : Int))) ((idx b a.1).bind fun f=>(idx b a.1).bind fun g=>(idx d c.2.2.1).bind fun h=>(idx b a.1).bind fun j=>(idx b a.1).bind fun k=>(idx d (w64 (c.2.2.1 + 1))).bind fun l=>(app 48 a.2 [({Lo:=({X:=f.X0,Y:=g.Y0,Z:=h} : Qb),Hi:=({X:=j.X1,Y:=k.Y1,Z:=l} : Qb)} : qg)]).bind fun m=>some (.inl (w64 (a.1 + 1),m))) (some (.inr (b,(c.2.2.2.length : Int),a.2)))
noncomputable def U2 (b : List Int) (f : List qg) (g : List qg) (h : Int) (a : List qi × Int × Int × List qg) : Option ((List qi × Int × Int × List qg) ⊕ ((List qg) ⊕ (List qg × Bool))):=
  cond (decide ((w64 (a.2.2.1 + 1)) < (b.length : Int))) (((idx b a.2.2.1).bind fun j=>(U1 f j).bind fun k=>(idx b a.2.2.1).bind fun l=>(U1 g l).bind fun m=>(Jf h k m).bind fun c=>(cond (decide ((c.length : Int) > 400)) (some true) ((idx b a.2.2.1).bind fun n=>(U1 f n).bind fun o=>(Jf 2 o []).bind fun p=>some (decide ((p.length : Int) > 400)))).bind fun q=>(cond q (some true) ((idx b a.2.2.1).bind fun r=>(U1 g r).bind fun s=>(Jf 2 s []).bind fun t=>some (decide ((t.length : Int) > 400)))).bind fun u=>cond u (some (.inr ([],false))) ((cond (decide (a.2.2.1 > 0)) ((q5w c a.1).bind fun v=>some v) (some false)).bind fun w=>cond w ((loop (q45 b a) (a.2.1,a.2.2.2)).bind fun x=>some (.inl (a.1,a.2.1,x))) ((loop (q64 c b a) (0,a.2.2.2)).bind fun y=>some (.inl y))) : Option ((List qi × Int × List qg) ⊕ (List qg × Bool))).bind fun z=>(match z with | .inl d=>some (.inl (d.1,d.2.1,w64 (a.2.2.1 + 1),d.2.2)) | .inr x1=>some (.inr (.inr x1)))) (some (.inr (.inl a.2.2.2)))
noncomputable def J3 (d : Int) (a : List qg) (b : List qg) : Option (List qg × Bool):=
  (q9i a b).bind fun f=>(loop (U2 f a b d) ([],0,0,[]) : Option ((List qg) ⊕ (List qg × Bool))).bind fun g=>(match g with | .inl c=>some (c,decide ((c.length : Int)≤400)) | .inr h=>some h)
noncomputable def qd1 (d : List qg) (f : List qg) (c : Int) : Option ((Int) ⊕ ((Unit) ⊕ (Bool))):=
  cond (decide (c < (d.length : Int))) ((idx d c).bind fun a=>(idx f c).bind fun b=>cond (!((a.Lo.X == b.Lo.X) && ((a.Lo.Y == b.Lo.Y) && ((a.Lo.Z == b.Lo.Z) && ((a.Hi.X == b.Hi.X) && ((a.Hi.Y == b.Hi.Y) && ((a.Hi.Z == b.Hi.Z) && true))))))) (some (.inr (.inr false))) (some (.inl (w64 (c + 1))))) (some (.inr (.inl ())))
noncomputable def q9k (a : List qg) (b : List qg) : Option Bool:=
  cond ((a.length : Int) != (b.length : Int)) (some false) ((loop (qd1 a b) 0 : Option ((Unit) ⊕ (Bool))).bind fun c=>(match c with | .inl _=>some true | .inr d=>some d))
noncomputable def q63 (b : List qg) (a : Int) : Option ((Int) ⊕ ((Unit) ⊕ (Int))):=
  cond (decide (a < (b.length : Int))) ((idx b a).bind fun c=>(q46 c).bind fun d=>cond (!d) (some (.inr (.inr 8))) (some (.inl (w64 (a + 1))))) (some (.inr (.inl ())))
noncomputable def q1t (a : List qg) : Option Int:=
  cond (decide ((a.length : Int) > 400)) (some 4) ((loop (q63 a) 0 : Option ((Unit) ⊕ (Int))).bind fun c=>(match c with | .inl _=>(J3 2 a []).bind fun b=>(cond (!b.2) (some true) ((q9k b.1 a).bind fun d=>some (!d))).bind fun f=>cond f (some 8) (some 0) | .inr g=>some g))
noncomputable def qd2 (b : K7) (a : List (List qg)) : Option (List qg):=
  (idx a (min b.Depth (w64 ((a.length : Int) - 1)))).bind fun c=>some c
noncomputable def q42 (a : Qb) (b : Qb) : Option Qb:=
  some ({X:=w64 (a.X + b.X),Y:=w64 (a.Y + b.Y),Z:=w64 (a.Z + b.Z)} : Qb)
noncomputable def q49 (a : qg) (b : Qb) : Option qg:=
  (q42 a.Lo b).bind fun c=>(q42 a.Hi b).bind fun d=>some ({Lo:=c,Hi:=d} : qg)
noncomputable def q4c (a : Int) : Option Int:=
  cond (decide (a < 0)) (some (-1)) (cond (decide (a > 0)) (some 1) (some 0))
def q3h (x : Qb) : List DV:=[.int .i64 x.X,.int .i64 x.Y,.int .i64 x.Z]
noncomputable def q6c (c : K7) (d : Int) (f : Int) (g : Int) (a : List Qb × Int × Int × Int) : Option ((List Qb × Int × Int × Int) ⊕ (List Qb)):=
  cond (!((a.2.1 == c.To.X) && ((a.2.2.1 == c.To.Y) && ((a.2.2.2 == c.To.Z) && true)))) ((q42 ({X:=a.2.1,Y:=a.2.2.1,Z:=a.2.2.2} : Qb) ({X:=d,Y:=f,Z:=g} : Qb)).bind fun b=>(app 24 a.1 [b]).bind fun h=>some (.inl (h,b.X,b.Y,b.Z))) (some (.inr a.1))
noncomputable def q9m (a : K7) : Option (List Qb):=
  (q4c (w64 (a.To.X - a.From.X))).bind fun b=>(q4c (w64 (a.To.Y - a.From.Y))).bind fun c=>(q4c (w64 (a.To.Z - a.From.Z))).bind fun d=>(loop (q6c a b c d) ([a.From],a.From.X,a.From.Y,a.From.Z)).bind fun f=>some f
noncomputable def q6f (b : List qg) (c : K7) (a : Int) : Option ((Int) ⊕ ((Unit) ⊕ (List qg × Int))):=
  cond (decide (a < (b.length : Int))) ((idx b a).bind fun d=>(q49 d c.From).bind fun f=>(q46 f).bind fun g=>(cond (!g) (some true) ((idx b a).bind fun h=>(q49 h c.To).bind fun j=>(q46 j).bind fun k=>some (!k))).bind fun l=>cond l (some (.inr (.inr ([],16)))) (some (.inl (w64 (a + 1))))) (some (.inr (.inl ())))
noncomputable def q4b (b : List qg) (c : List Qb) (d : List qg × Int) (a : Int × List qg) : Option ((Int × List qg) ⊕ (List qg)):=
  cond (decide (a.1 < (b.length : Int))) ((idx b a.1).bind fun f=>(idx c d.2).bind fun g=>(q49 f g).bind fun h=>(app 48 a.2 [h]).bind fun j=>some (.inl (w64 (a.1 + 1),j))) (some (.inr a.2))
noncomputable def q4a (b : List Qb) (c : List qg) (a : List qg × Int) : Option ((List qg × Int) ⊕ (List qg)):=
  cond (decide (a.2 < (b.length : Int))) ((loop (q4b c b a) (0,[])).bind fun d=>(J3 2 a.1 d).bind fun f=>some (.inl (f.1,w64 (a.2 + 1)))) (some (.inr a.1))
noncomputable def q9p (a : K7) (b : List qg) : Option (List qg × Int):=
  (loop (q6f b a) 0 : Option ((Unit) ⊕ (List qg × Int))).bind fun d=>(match d with | .inl _=>(q9m a).bind fun f=>(loop (q4a f b) ([],0)).bind fun c=>cond (decide ((c.length : Int) > 400)) (some ([],4)) (some (c,0)) | .inr g=>some g)
noncomputable def q66 (b : List (List qg)) (a : Int) : Option ((Int) ⊕ ((Unit) ⊕ (List (List qg) × Int))):=
  cond (decide (a < (b.length : Int))) ((idx b a).bind fun c=>(q1t c).bind fun d=>cond (d != 0) ((idx b a).bind fun f=>(q1t f).bind fun g=>some (.inr (.inr ([],g)))) (some (.inl (w64 (a + 1))))) (some (.inr (.inl ())))
noncomputable def q67 (b : K5) (a : Int) : Option ((Int) ⊕ ((Unit) ⊕ (List (List qg) × Int))):=
  cond (decide (a < (b.Lines.length : Int))) ((idx b.Lines a).bind fun c=>cond (decide (c.Depth < 0)) (some (.inr (.inr ([],2)))) (some (.inl (w64 (a + 1))))) (some (.inr (.inl ())))
noncomputable def q68 (b : K5) (d : List (List qg)) (a : Int × List (List qg)) : Option ((Int × List (List qg)) ⊕ ((List (List qg)) ⊕ (List (List qg) × Int))):=
  cond (decide (a.1 < (b.Lines.length : Int))) ((idx b.Lines a.1).bind fun f=>(idx b.Lines a.1).bind fun g=>(qd2 g d).bind fun h=>(q9p f h).bind fun c=>cond (c.2 != 0) (some (.inr (.inr ([],c.2)))) ((app 24 a.2 [c.1]).bind fun j=>some (.inl (w64 (a.1 + 1),j)))) (some (.inr (.inl a.2)))
noncomputable def q65 (a : K5) (c : List (List qg)) : Option (List (List qg) × Int):=
  (q5y a).bind fun d=>cond (d != 0) ((q5y a).bind fun f=>some ([],f)) (cond (decide ((c.length : Int) > 20)) (some ([],4)) ((loop (q66 c) 0 : Option ((Unit) ⊕ (List (List qg) × Int))).bind fun g=>(match g with | .inl _=>(cond (decide ((a.Lines.length : Int) > 0)) (some ((c.length : Int) == 0)) (some false)).bind fun h=>cond h (some ([],6)) ((loop (q67 a) 0 : Option ((Unit) ⊕ (List (List qg) × Int))).bind fun j=>(match j with | .inl _=>(loop (q68 a c) (0,[]) : Option ((List (List qg)) ⊕ (List (List qg) × Int))).bind fun k=>(match k with | .inl l=>some (l,0) | .inr b=>some b) | .inr b=>some b)) | .inr b=>some b)))
noncomputable def qds (b : List qg) (a : Int × List Int) : Option ((Int × List Int) ⊕ (List Int)):=
  cond (decide (a.1 < (b.length : Int))) ((idx b a.1).bind fun c=>(app 8 a.2 [c.Lo.Z,c.Hi.Z]).bind fun d=>some (.inl (w64 (a.1 + 1),d))) (some (.inr a.2))
noncomputable def qdt (b : List qg) (a : Int × List Int) : Option ((Int × List Int) ⊕ (List Int)):=
  cond (decide (a.1 < (b.length : Int))) ((idx b a.1).bind fun c=>(app 8 a.2 [c.Lo.Z,c.Hi.Z]).bind fun d=>some (.inl (w64 (a.1 + 1),d))) (some (.inr a.2))
noncomputable def qdu (c : List qg) (d : Int) (a : Int × List qi) : Option ((Int × List qi) ⊕ (List qi)):=
  cond (decide (a.1 < (c.length : Int))) (((idx c a.1).bind fun b=>(cond (decide (b.Lo.Z≤d)) (some (decide (d < b.Hi.Z))) (some false)).bind fun f=>cond f ((app 32 a.2 [({X0:=b.Lo.X,Y0:=b.Lo.Y,X1:=b.Hi.X,Y1:=b.Hi.Y} : qi)]).bind fun g=>some g) (some a.2)).bind fun h=>some (.inl (w64 (a.1 + 1),h))) (some (.inr a.2))
noncomputable def qdv (c : List qg) (d : Int) (a : Int × List qi) : Option ((Int × List qi) ⊕ (List qi)):=
  cond (decide (a.1 < (c.length : Int))) (((idx c a.1).bind fun b=>(cond (decide (b.Lo.Z≤d)) (some (decide (d < b.Hi.Z))) (some false)).bind fun f=>cond f ((app 32 a.2 [({X0:=b.Lo.X,Y0:=b.Lo.Y,X1:=b.Hi.X,Y1:=b.Hi.Y} : qi)]).bind fun g=>some g) (some a.2)).bind fun h=>some (.inl (w64 (a.1 + 1),h))) (some (.inr a.2))
noncomputable def q4q (f : List Int) (l : List qg) (m : List qg) (o : List qi→List qi→Option (List qi × Int)) (a : Int × List qi × Int × Int × List qg) : Option ((Int × List qi × Int × Int × List qg) ⊕ ((List qi × Int × Int × List qg) ⊕ (List qg × Int))):=
  cond (decide (a.1 < (f.length : Int))) ((idx f (w64 (a.1 - 1))).bind fun g=>(idx f a.1).bind fun p=>((idx [l,m] 0).bind fun q=>(loop (qdu q g) (0,[])).bind fun h=>some h).bind fun r=>((idx [l,m] 1).bind fun s=>(loop (qdv s g) (0,[])).bind fun h=>some h).bind fun t=>((q1u r).bind fun b=>(cond (b.2 == 0) ((q1u t).bind fun j=>cond (j.2 == 0) ((o b.1 j.1).bind fun n=>some (n.1,n.2)) (some (b.1,j.2))) (some (b.1,b.2))).bind fun k=>cond (k.2 != 0) (some (.inr ([],k.2))) ((q7t a.2.2.2.2 a.2.1 a.2.2.1 a.2.2.2.1 g p k.1).bind fun c=>some (.inl (c.1,c.2.1,c.2.2.1,c.2.2.2))) : Option ((List qi × Int × Int × List qg) ⊕ (List qg × Int))).bind fun u=>(match u with | .inl d=>some (.inl (w64 (a.1 + 1),d.1,d.2.1,d.2.2.1,d.2.2.2)) | .inr v=>some (.inr (.inr v)))) (some (.inr (.inl (a.2.1,a.2.2.1,a.2.2.2.1,a.2.2.2.2))))
noncomputable def qax (k : List qi→List qi→Option (List qi × Int)) (c : List qg) (d : List qg) : Option (List qg × Int):=
  (((idx [c,d] 0).bind fun l=>(loop (qds l) (0,[])).bind fun b=>some b).bind fun m=>((idx [c,d] 1).bind fun n=>(loop (qdt n) (0,m)).bind fun b=>some b).bind fun h=>(U3 h).bind fun f=>(K3 f.length h.length).bind fun _=>(q10 f).bind fun a=>(K3 a.2.length f.length).bind fun _=>(q14 a.2.length a.1).bind fun _=>some ((a.2.drop a.1.1).take a.1.2)).bind fun o=>((loop (q4q o c d k) (1,[],0,0,[]) : Option ((List qi × Int × Int × List qg) ⊕ (List qg × Int))).bind fun p=>(match p with | .inl b=>some (.inl b) | .inr g=>some (.inr g)) : Option ((List qi × Int × Int × List qg) ⊕ (List qg × Int))).bind fun q=>(match q with | .inl j=>cond (decide ((j.2.2.2.length : Int) > 400)) (some ([],4)) (some (j.2.2.2,0)) | .inr g=>some g)
noncomputable def qaw (a : List qg) (b : List qg) (g : List qi→List qi→Option (List qi × Int)) : Option (List qg × Int):=
  (q4p a).bind fun c=>cond (c != 0) (some ([],c)) ((q4p b).bind fun d=>cond (d != 0) (some ([],d)) ((qax g a b).bind fun f=>some (f.1,f.2)))
noncomputable def q4g (b : List qi) (c : qi→Option Bool) (a : Int) : Option ((Int) ⊕ ((Unit) ⊕ (Int))):=
  cond (decide (a < (b.length : Int))) ((idx b a).bind fun d=>(c d).bind fun f=>cond f (some (.inr (.inr a))) (some (.inl (w64 (a + 1))))) (some (.inr (.inl ())))
noncomputable def qdo (a : List qi) (b : qi→Option Bool) : Option Int:=
  (loop (q4g a b) 0 : Option ((Unit) ⊕ (Int))).bind fun c=>(match c with | .inl _=>some (-1) | .inr d=>some d)
noncomputable def q9y (a : List qi) (b : qi→Option Bool) : Option Bool:=
  (qdo a b).bind fun c=>some (decide (c ≥ 0))
noncomputable def q2u (a : qi) : Option Bool:=
  (q6n a).bind fun b=>some (!b)
noncomputable def q6h (a : List qi) : Option Int:=
  cond (decide ((a.length : Int) > 400)) (some 4) ((q9y a (fun c=>q2u c)).bind fun d=>cond d (some 8) ((q6m a).bind fun b=>(cond (b.2 != 0) (some true) ((q6u b.1 a).bind fun f=>some (!f))).bind fun g=>cond g (some 8) (some 0)))
noncomputable def q9q (b : List qi) (c : List qi) : Option Int:=
  (q6h b).bind fun a=>cond (a != 0) (some a) ((q6h c).bind fun d=>some d)
noncomputable def qd4 (b : List qi) (a : Int × List Int) : Option ((Int × List Int) ⊕ (List Int)):=
  cond (decide (a.1 < (b.length : Int))) ((idx b a.1).bind fun c=>(app 8 a.2 [c.X0,c.X1]).bind fun d=>some (.inl (w64 (a.1 + 1),d))) (some (.inr a.2))
noncomputable def qd5 (b : List qi) (a : Int × List Int) : Option ((Int × List Int) ⊕ (List Int)):=
  cond (decide (a.1 < (b.length : Int))) ((idx b a.1).bind fun c=>(app 8 a.2 [c.X0,c.X1]).bind fun d=>some (.inl (w64 (a.1 + 1),d))) (some (.inr a.2))
noncomputable def qd6 (c : List qi) (d : Int) (a : Int × List ql) : Option ((Int × List ql) ⊕ (List ql)):=
  cond (decide (a.1 < (c.length : Int))) (((idx c a.1).bind fun b=>(cond (decide (b.X0≤d)) (some (decide (d < b.X1))) (some false)).bind fun f=>cond f ((app 16 a.2 [({Lo:=b.Y0,Hi:=b.Y1} : ql)]).bind fun g=>some g) (some a.2)).bind fun h=>some (.inl (w64 (a.1 + 1),h))) (some (.inr a.2))
noncomputable def qd7 (c : List qi) (d : Int) (a : Int × List ql) : Option ((Int × List ql) ⊕ (List ql)):=
  cond (decide (a.1 < (c.length : Int))) (((idx c a.1).bind fun b=>(cond (decide (b.X0≤d)) (some (decide (d < b.X1))) (some false)).bind fun f=>cond f ((app 16 a.2 [({Lo:=b.Y0,Hi:=b.Y1} : ql)]).bind fun g=>some g) (some a.2)).bind fun h=>some (.inl (w64 (a.1 + 1),h))) (some (.inr a.2))
noncomputable def q4d (d : List Int) (j : List qi) (k : List qi) (l : List ql→List ql→Option (List ql × Int)) (a : Int × List ql × Int × Int × List qi) : Option ((Int × List ql × Int × Int × List qi) ⊕ ((List ql × Int × Int × List qi) ⊕ (List qi × Int))):=
  cond (decide (a.1 < (d.length : Int))) ((idx d (w64 (a.1 - 1))).bind fun f=>(idx d a.1).bind fun m=>((idx [j,k] 0).bind fun n=>(loop (qd6 n f) (0,[])).bind fun g=>some g).bind fun o=>((idx [j,k] 1).bind fun p=>(loop (qd7 p f) (0,[])).bind fun g=>some g).bind fun q=>((l o q).bind fun h=>cond (h.2 != 0) (some (.inr ([],h.2))) ((q6j a.2.2.2.2 a.2.1 a.2.2.1 a.2.2.2.1 f m h.1).bind fun b=>some (.inl (b.1,b.2.1,b.2.2.1,b.2.2.2))) : Option ((List ql × Int × Int × List qi) ⊕ (List qi × Int))).bind fun r=>(match r with | .inl c=>some (.inl (w64 (a.1 + 1),c.1,c.2.1,c.2.2.1,c.2.2.2)) | .inr s=>some (.inr (.inr s)))) (some (.inr (.inl (a.2.1,a.2.2.1,a.2.2.2.1,a.2.2.2.2))))
noncomputable def q9r (c : List qi) (d : List qi) (m : List ql→List ql→Option (List ql × Int)) : Option (List qi × Int):=
  (q9q c d).bind fun h=>cond (h != 0) (some ([],h)) ((((idx [c,d] 0).bind fun n=>(loop (qd4 n) (0,[])).bind fun b=>some b).bind fun o=>((idx [c,d] 1).bind fun p=>(loop (qd5 p) (0,o)).bind fun b=>some b).bind fun j=>(U3 j).bind fun f=>(K3 f.length j.length).bind fun _=>(q10 f).bind fun a=>(K3 a.2.length f.length).bind fun _=>(q14 a.2.length a.1).bind fun _=>some ((a.2.drop a.1.1).take a.1.2)).bind fun q=>((loop (q4d q c d m) (1,[],0,0,[]) : Option ((List ql × Int × Int × List qi) ⊕ (List qi × Int))).bind fun r=>(match r with | .inl b=>some (.inl b) | .inr g=>some (.inr g)) : Option ((List ql × Int × Int × List qi) ⊕ (List qi × Int))).bind fun s=>(match s with | .inl k=>(cond (decide ((k.2.2.2.length : Int) > 400)) (some (4,[])) (some (0,k.2.2.2))).bind fun l=>some (l.2,l.1) | .inr g=>some g))
noncomputable def q22 (b : List ql) (a : Int) : Option ((Int) ⊕ ((Unit) ⊕ (Int))):=
  cond (decide (a < (b.length : Int))) ((idx b a).bind fun c=>(q38 c).bind fun d=>(cond (!d) (some true) ((cond (decide (a > 0)) ((idx b (w64 (a - 1))).bind fun f=>some (decide (f.Hi ≥ c.Lo))) (some false)).bind fun g=>some g)).bind fun h=>cond h (some (.inr (.inr 8))) (some (.inl (w64 (a + 1))))) (some (.inr (.inl ())))
noncomputable def q36 (a : List ql) : Option Int:=
  cond (decide ((a.length : Int) > 400)) (some 4) ((loop (q22 a) 0 : Option ((Unit) ⊕ (Int))).bind fun b=>(match b with | .inl _=>some 0 | .inr c=>some c))
noncomputable def qb0 (a : List ql) (b : List ql) (g : Bool→Bool→Option Bool) : Option (List ql × Int):=
  (q36 a).bind fun c=>cond (c != 0) (some ([],c)) ((q36 b).bind fun d=>cond (d != 0) (some ([],d)) ((q37 a b g).bind fun f=>cond (decide ((f.length : Int) > 400)) (some ([],4)) (some (f,0))))
noncomputable def qdx (a : Bool) (b : Bool) : Option Bool:=
  (cond a (some true) (some b)).bind fun c=>some c
noncomputable def q80 (b : List ql) (c : List ql) : Option (List ql × Int):=
  (qb0 b c (fun d f=>qdx d f)).bind fun a=>some (a.1,a.2)
noncomputable def q6i (b : List qi) (c : List qi) : Option (List qi × Int):=
  (q9r b c (fun d f=>q80 d f)).bind fun a=>some (a.1,a.2)
noncomputable def qav (b : List qg) (c : List qg) : Option (List qg × Int):=
  (qaw b c (fun d f=>q6i d f)).bind fun a=>some (a.1,a.2)
noncomputable def q4y (c : List (List qg) × Int) (a : List qg × Int) : Option ((List qg × Int) ⊕ ((List qg) ⊕ (List qg × Int))):=
  cond (decide (a.2 < (c.1.length : Int))) ((idx c.1 a.2).bind fun d=>(qav a.1 d).bind fun b=>cond (b.2 != 0) (some (.inr (.inr ([],b.2)))) (some (.inl (b.1,w64 (a.2 + 1))))) (some (.inr (.inl a.1)))
noncomputable def qb9 (b : K5) (c : List (List qg)) : Option (List qg × Int):=
  (q83 b c).bind fun a=>cond (a.2 != 0) (some ([],a.2)) ((loop (q4y a) ([],0) : Option ((List qg) ⊕ (List qg × Int))).bind fun d=>(match d with | .inl f=>some (f,0) | .inr g=>some g))
noncomputable def q62 (a : List qg) (b : List qg) : Option Int:=
  (q1t a).bind fun c=>cond (c != 0) ((q1t a).bind fun d=>some d) ((q1t b).bind fun f=>some f)
noncomputable def q9j (d : Int) (a : List qg) (b : List qg) : Option (List qg × Int):=
  (q62 a b).bind fun f=>cond (f != 0) ((q62 a b).bind fun g=>some ([],g)) ((J3 d a b).bind fun c=>cond (!c.2) (some ([],4)) (some (c.1,0)))
noncomputable def q6e (c : List (List qg) × Int) (a : List qg × Int) : Option ((List qg × Int) ⊕ ((List qg) ⊕ (List qg × Int))):=
  cond (decide (a.2 < (c.1.length : Int))) ((idx c.1 a.2).bind fun d=>(q9j 2 a.1 d).bind fun b=>cond (b.2 != 0) (some (.inr (.inr ([],b.2)))) (some (.inl (b.1,w64 (a.2 + 1))))) (some (.inr (.inl a.1)))
noncomputable def q9o (b : K5) (c : List (List qg)) : Option (List qg × Int):=
  (q65 b c).bind fun a=>cond (a.2 != 0) (some ([],a.2)) ((loop (q6e a) ([],0) : Option ((List qg) ⊕ (List qg × Int))).bind fun d=>(match d with | .inl f=>some (f,0) | .inr g=>some g))
noncomputable def qba (a : K7) (b : K7) : Option Bool:=
  (cond (!((a.From.X == b.From.X) && ((a.From.Y == b.From.Y) && ((a.From.Z == b.From.Z) && true)))) (some (!((a.From.X == b.To.X) && ((a.From.Y == b.To.Y) && ((a.From.Z == b.To.Z) && true))))) (some false)).bind fun c=>(cond c (some (!((a.To.X == b.From.X) && ((a.To.Y == b.From.Y) && ((a.To.Z == b.From.Z) && true))))) (some false)).bind fun d=>(cond d (some (!((a.To.X == b.To.X) && ((a.To.Y == b.To.Y) && ((a.To.Z == b.To.Z) && true))))) (some false)).bind fun f=>some f
noncomputable def q87 (a : qg) (b : qg) : Option Bool:=
  (cond (decide (b.Lo.X < a.Hi.X)) (some (decide (a.Lo.X < b.Hi.X))) (some false)).bind fun c=>(cond c (some (decide (b.Lo.Y < a.Hi.Y))) (some false)).bind fun d=>(cond d (some (decide (a.Lo.Y < b.Hi.Y))) (some false)).bind fun f=>(cond f (some (decide (b.Lo.Z < a.Hi.Z))) (some false)).bind fun g=>(cond g (some (decide (a.Lo.Z < b.Hi.Z))) (some false)).bind fun h=>some h
noncomputable def qbg (a : qg) (b : List qg) : Option Bool:=
  (q1x b (fun c=>q87 c a)).bind fun d=>some d
noncomputable def qbf (a : List qg) (b : List qg) : Option Bool:=
  (q1x a (fun c=>qbg c b)).bind fun d=>some d
def Zp (x : Int × Int) : List DV:=[.int .i64 x.1,.int .i64 x.2]
noncomputable def q4v (b : Int × (List ((Int × Int) × Bool))) (c : K5) (d : List (List qg) × Int) (a : Int × (List ((Int × Int) × Bool))) : Option ((Int × (List ((Int × Int) × Bool))) ⊕ ((List ((Int × Int) × Bool)))):=
  cond (decide (a.1 < b.1)) (((idx c.Lines a.1).bind fun f=>(idx c.Lines b.1).bind fun g=>(qba f g).bind fun h=>(cond h ((idx d.1 a.1).bind fun j=>(idx d.1 b.1).bind fun k=>(qbf j k).bind fun l=>some l) (some false)).bind fun m=>cond m (some (Ug (a.1,b.1) true a.2)) (some a.2)).bind fun n=>some (.inl (w64 (a.1 + 1),n))) (some (.inr a.2))
noncomputable def q85 (b : List (List qg) × Int) (c : K5) (a : Int × (List ((Int × Int) × Bool))) : Option ((Int × (List ((Int × Int) × Bool))) ⊕ ((List ((Int × Int) × Bool)))):=
  cond (decide (a.1 < (b.1.length : Int))) (((loop (q4v a c b) (0,a.2)).bind fun d=>some d).bind fun f=>some (.inl (w64 (a.1 + 1),f))) (some (.inr a.2))
noncomputable def q4x (c : List (List qg) × Int) (b : Int × (List (Int × Int))) (d : (List ((Int × Int) × Bool))) (a : Int × (List (Int × Int))) : Option ((Int × (List (Int × Int))) ⊕ ((List (Int × Int)))):=
  cond (decide (a.1 < (c.1.length : Int))) ((cond (Z9 false (b.1,a.1) d) ((app 16 a.2 [(b.1,a.1)]).bind fun f=>some f) (some a.2)).bind fun g=>some (.inl (w64 (a.1 + 1),g))) (some (.inr a.2))
noncomputable def q4w (b : List (List qg) × Int) (c : (List ((Int × Int) × Bool))) (a : Int × (List (Int × Int))) : Option ((Int × (List (Int × Int))) ⊕ ((List (Int × Int)))):=
  cond (decide (a.1 < (b.1.length : Int))) (((loop (q4x b a c) (0,a.2)).bind fun d=>some d).bind fun f=>some (.inl (w64 (a.1 + 1),f))) (some (.inr a.2))
noncomputable def qb8 (b : K5) (c : List (List qg)) : Option ((List (Int × Int)) × Int):=
  (q83 b c).bind fun a=>cond (a.2 != 0) (some ([],a.2)) ((loop (q85 a b) (0,[])).bind fun d=>(loop (q4w a d) (0,[])).bind fun f=>some (f,0))
noncomputable def q48 (d : List (List qg) × Int) (g : K5) (f : Int × (List (Int × Int))) (c : Int × (List (Int × Int))) : Option ((Int × (List (Int × Int))) ⊕ ((List (Int × Int)))):=
  cond (decide (c.1 < (d.1.length : Int))) (((idx g.Lines f.1).bind fun a=>(idx g.Lines c.1).bind fun b=>(cond ((a.From.X == b.From.X) && ((a.From.Y == b.From.Y) && ((a.From.Z == b.From.Z) && true))) (some true) (some ((a.From.X == b.To.X) && ((a.From.Y == b.To.Y) && ((a.From.Z == b.To.Z) && true))))).bind fun h=>(cond h (some true) (some ((a.To.X == b.From.X) && ((a.To.Y == b.From.Y) && ((a.To.Z == b.From.Z) && true))))).bind fun j=>(cond j (some true) (some ((a.To.X == b.To.X) && ((a.To.Y == b.To.Y) && ((a.To.Z == b.To.Z) && true))))).bind fun k=>cond k (some c.2) ((idx d.1 f.1).bind fun l=>(idx d.1 c.1).bind fun m=>(J3 1 l m).bind fun n=>cond (decide ((n.1.length : Int) > 0)) ((app 16 c.2 [(f.1,c.1)]).bind fun o=>some o) (some c.2))).bind fun p=>some (.inl (w64 (c.1 + 1),p))) (some (.inr c.2))
noncomputable def q47 (b : List (List qg) × Int) (c : K5) (a : Int × (List (Int × Int))) : Option ((Int × (List (Int × Int))) ⊕ ((List (Int × Int)))):=
  cond (decide (a.1 < (b.1.length : Int))) (((loop (q48 b c a) (w64 (a.1 + 1),a.2)).bind fun d=>some d).bind fun f=>some (.inl (w64 (a.1 + 1),f))) (some (.inr a.2))
noncomputable def q9l (b : K5) (c : List (List qg)) : Option ((List (Int × Int)) × Int):=
  (q65 b c).bind fun a=>cond (a.2 != 0) (some ([],a.2)) ((loop (q47 a b) (0,[])).bind fun d=>some (d,0))
noncomputable def q6d (b : List (Int × Int)) (f : List (Int × Int)) (a : Int) : Option ((Int) ⊕ ((Unit) ⊕ (Bool))):=
  cond (decide (a < (b.length : Int))) ((idx b a).bind fun c=>(idx f a).bind fun d=>cond (!((c.1 == d.1) && ((c.2 == d.2) && true))) (some (.inr (.inr false))) (some (.inl (w64 (a + 1))))) (some (.inr (.inl ())))
noncomputable def q9n (a : List (Int × Int)) (b : List (Int × Int)) : Option Bool:=
  cond ((a.length : Int) != (b.length : Int)) (some false) ((loop (q6d a b) 0 : Option ((Unit) ⊕ (Bool))).bind fun c=>(match c with | .inl _=>some true | .inr d=>some d))
noncomputable def qci (a : K5) (b : List (List qg)) : Option Bool:=
  (q69 a b).bind fun h=>cond h (some true) ((qb9 a b).bind fun c=>(q9o a b).bind fun d=>(qb8 a b).bind fun f=>(q9l a b).bind fun g=>(q9k c.1 d.1).bind fun j=>(cond j (some (c.2 == d.2)) (some false)).bind fun k=>(cond k ((q9n f.1 g.1).bind fun l=>some l) (some false)).bind fun m=>(cond m (some (f.2 == g.2)) (some false)).bind fun n=>some n)
noncomputable def qjw (a : Int) : Option Qb:=
  cond ((IntKind.wrap .u8 (Int.tdiv a 2)) == 0) (some ({X:=w64 (1 - (w64 (2 * (w64 (Int.tmod a 2))))),Y:=0,Z:=0} : Qb)) (cond ((IntKind.wrap .u8 (Int.tdiv a 2)) == 1) (some ({X:=0,Y:=w64 (1 - (w64 (2 * (w64 (Int.tmod a 2))))),Z:=0} : Qb)) (some ({X:=0,Y:=0,Z:=w64 (1 - (w64 (2 * (w64 (Int.tmod a 2)))))} : Qb)))
noncomputable def qrj (a : Qb) (b : Qb) : Option Qb:=
  some ({X:=w64 ((w64 (a.Y * b.Z)) - (w64 (a.Z * b.Y))),Y:=w64 ((w64 (a.Z * b.X)) - (w64 (a.X * b.Z))),Z:=w64 ((w64 (a.X * b.Y)) - (w64 (a.Y * b.X)))} : Qb)
noncomputable def qri (a : Int) : Option (Qb × Qb × Qb):=
  (cond (decide ((Int.tmod a 4) ≥ (IntKind.wrap .u8 ((IntKind.wrap .u8 (Int.tdiv (IntKind.wrap .u8 (Int.tdiv a 4)) 2)) * 2)))) (some (IntKind.wrap .u8 ((Int.tmod a 4) + 2))) (some (Int.tmod a 4))).bind fun d=>(qjw (IntKind.wrap .u8 (Int.tdiv a 4))).bind fun b=>(qjw d).bind fun c=>(qrj b c).bind fun f=>some (b,c,f)
noncomputable def qm2 (a : ql) : Option Bool:=
  (cond (decide (a.Lo < a.Hi)) (some (decide (a.Lo ≥ (-1000000)))) (some false)).bind fun b=>(cond b (some (decide (a.Hi≤1000000))) (some false)).bind fun c=>some c
noncomputable def qgo (b : List ql) (a : Int) : Option ((Int) ⊕ ((Unit) ⊕ (Int))):=
  cond (decide (a < (b.length : Int))) ((idx b a).bind fun c=>(qm2 c).bind fun d=>(cond (!d) (some true) ((cond (decide (a > 0)) ((idx b (w64 (a - 1))).bind fun f=>(idx b a).bind fun g=>some (decide (f.Hi ≥ g.Lo))) (some false)).bind fun h=>some h)).bind fun j=>cond j (some (.inr (.inr 8))) (some (.inl (w64 (a + 1))))) (some (.inr (.inl ())))
noncomputable def qct (a : List ql) : Option Int:=
  cond (decide ((a.length : Int) > 400)) (some 4) ((loop (qgo a) 0 : Option ((Unit) ⊕ (Int))).bind fun b=>(match b with | .inl _=>some 0 | .inr c=>some c))
noncomputable def q9b (b : List ql) (a : Int × List Int) : Option ((Int × List Int) ⊕ (List Int)):=
  cond (decide (a.1 < (b.length : Int))) ((idx b a.1).bind fun c=>(idx b a.1).bind fun d=>(app 8 a.2 [c.Lo,d.Hi]).bind fun f=>some (.inl (w64 (a.1 + 1),f))) (some (.inr a.2))
noncomputable def qlz (b : List ql) (a : Int × List Int) : Option ((Int × List Int) ⊕ (List Int)):=
  cond (decide (a.1 < (b.length : Int))) ((idx b a.1).bind fun c=>(idx b a.1).bind fun d=>(app 8 a.2 [c.Lo,d.Hi]).bind fun f=>some (.inl (w64 (a.1 + 1),f))) (some (.inr a.2))
noncomputable def qgp (a : List ql) (b : List ql) : Option (List Int):=
  (loop (q9b a) (0,[])).bind fun c=>(loop (qlz b) (0,c)).bind fun d=>(U0 d).bind fun f=>some f
noncomputable def q9c (b : List ql) (c : Int) (a : Int) : Option ((Int) ⊕ ((Unit) ⊕ (Bool))):=
  cond (decide (a < (b.length : Int))) ((idx b a).bind fun d=>(cond (decide (d.Lo≤c)) ((idx b a).bind fun f=>some (decide (c < f.Hi))) (some false)).bind fun g=>cond g (some (.inr (.inr true))) (some (.inl (w64 (a + 1))))) (some (.inr (.inl ())))
noncomputable def qcu (a : List ql) (b : Int) : Option Bool:=
  (loop (q9c a b) 0 : Option ((Unit) ⊕ (Bool))).bind fun c=>(match c with | .inl _=>some false | .inr d=>some d)
noncomputable def q9d (b : List Int) (c : List ql) (d : List ql) (f : Int) (a : Int × List Bool) : Option ((Int × List Bool) ⊕ (List Bool)):=
  cond (decide (a.1 < (b.length : Int))) ((idx b a.1).bind fun g=>(qcu c g).bind fun h=>(idx b a.1).bind fun j=>(qcu d j).bind fun k=>(q5r f h k).bind fun l=>(app 1 a.2 [l]).bind fun m=>some (.inl (w64 (a.1 + 1),m))) (some (.inr a.2))
noncomputable def qcv (d : Int) (a : List ql) (b : List ql) : Option (List ql):=
  (qgp a b).bind fun c=>(loop (q9d c a b d) (0,[])).bind fun f=>(q3r c f).bind fun g=>some g
noncomputable def qay (b : List ql) (a : Int × Int) : Option ((Int × Int) ⊕ (Int)):=
  cond (decide (a.2 < (b.length : Int))) ((idx b a.2).bind fun c=>some (.inl (w64 (a.1 + (w64 (c.Hi - c.Lo))),w64 (a.2 + 1)))) (some (.inr a.1))
noncomputable def qnz (a : List ql) : Option (Int × Int):=
  (q36 a).bind fun b=>cond (b != 0) (some (0,b)) ((loop (qay a) (0,0)).bind fun c=>some (c,0))
noncomputable def q9e (b : List ql) (a : Int × Int) : Option ((Int × Int) ⊕ (Int)):=
  cond (decide (a.2 < (b.length : Int))) ((idx b a.2).bind fun c=>(idx b a.2).bind fun d=>some (.inl (w64 ((w64 (a.1 + c.Hi)) - d.Lo),w64 (a.2 + 1)))) (some (.inr a.1))
noncomputable def qm1 (a : List ql) : Option (Int × Int):=
  (qct a).bind fun b=>cond (b != 0) ((qct a).bind fun c=>some (0,c)) ((loop (q9e a) (0,0)).bind fun d=>some (d,0))
structure qi2 where
  Frame : Ju
  Size : Qb
  deriving DecidableEq
structure q136 where
  t_ : Int
  at_ : Qb
  flat_ : Qb
  deriving DecidableEq
end Go.Sh
