/- PX -/
import Derived.Test.YtbknppciefodiaaGreatK7
namespace Go.Sh
open Go Go.Am
structure Q3 where
  X : Int
  Y : Int
  Z : Int
  deriving DecidableEq
structure K1 where
  From : Q3
  To : Q3
  Depth : Int
  deriving DecidableEq
structure Yg where
  Turn : Int
  At : Q3
  deriving DecidableEq
structure Yy where
  Name : Int
  Frame : Yg
  deriving DecidableEq
structure Jw where
  Frame : Yg
  Drawn : Int
  deriving DecidableEq
structure Qv where
  Lines : List K1
  Marks : List Yy
  End : Jw
  deriving DecidableEq
def Kf (x : K1) : List DV:=[.int .i64 x.From.X,.int .i64 x.From.Y,.int .i64 x.From.Z,.int .i64 x.To.X,.int .i64 x.To.Y,.int .i64 x.To.Z,.int .i64 x.Depth]
def Km (x : Yy) : List DV:=[.int .u8 x.Name,.int .u8 x.Frame.Turn,.int .i64 x.Frame.At.X,.int .i64 x.Frame.At.Y,.int .i64 x.Frame.At.Z]
structure qg where
  Lo : Q3
  Hi : Q3
  deriving DecidableEq
def Qe (x : qg) : List DV:=[.int .i64 x.Lo.X,.int .i64 x.Lo.Y,.int .i64 x.Lo.Z,.int .i64 x.Hi.X,.int .i64 x.Hi.Y,.int .i64 x.Hi.Z]
def Qr (x : List qg) : List DV:=[.sl 6 (x.map Qe)]
noncomputable def Zv (a : Q3) (b : Int) : Option Bool:=
  (cond (decide (a.X ≥ b)) (some (decide (a.Y ≥ b))) (some false)).bind fun c=>(cond c (some (decide (a.Z ≥ b))) (some false)).bind fun d=>(cond d (some (decide (a.X≤1000000))) (some false)).bind fun f=>(cond f (some (decide (a.Y≤1000000))) (some false)).bind fun g=>(cond g (some (decide (a.Z≤1000000))) (some false)).bind fun h=>some h
noncomputable def q67 (d : Qv) (c : Int) : Option ((Int) ⊕ ((Unit) ⊕ (Bool))):=
  cond (decide (c < (d.Lines.length : Int))) ((idx d.Lines c).bind fun a=>(idx d.Lines c).bind fun b=>(Zv a.From (-2000000)).bind fun f=>(cond (!f) (some true) ((Zv b.To (-2000000)).bind fun g=>some (!g))).bind fun h=>(cond h (some true) (some (decide ((max (max (max (max (max (w64 (a.From.X - b.To.X)) (w64 (b.To.X - a.From.X))) (w64 (a.From.Y - b.To.Y))) (w64 (b.To.Y - a.From.Y))) (w64 (a.From.Z - b.To.Z))) (w64 (b.To.Z - a.From.Z))) > 30)))).bind fun j=>cond j (some (.inr (.inr true))) (some (.inl (w64 (c + 1))))) (some (.inr (.inl ())))
noncomputable def q68 (b : List (List qg)) (a : Int) : Option ((Int) ⊕ ((Unit) ⊕ (Bool))):=
  cond (decide (a < (b.length : Int))) ((idx b a).bind fun c=>cond (decide ((c.length : Int) > 5)) (some (.inr (.inr true))) (some (.inl (w64 (a + 1))))) (some (.inr (.inl ())))
noncomputable def q66 (a : Qv) (c : List (List qg)) : Option Bool:=
  (cond (decide ((a.Lines.length : Int) > 12)) (some true) (some (decide ((a.Marks.length : Int) > 50)))).bind fun d=>(cond d (some true) (some (decide ((c.length : Int) > 25)))).bind fun f=>cond f (some true) ((loop (q67 a) 0 : Option ((Unit) ⊕ (Bool))).bind fun g=>(match g with | .inl _=>(loop (q68 c) 0 : Option ((Unit) ⊕ (Bool))).bind fun h=>(match h with | .inl _=>some false | .inr b=>some b) | .inr b=>some b))
noncomputable def q6q (b : List K1) (c : K1→Option Bool) (a : Int) : Option ((Int) ⊕ ((Unit) ⊕ (Int))):=
  cond (decide (a < (b.length : Int))) ((idx b a).bind fun d=>(c d).bind fun f=>cond f (some (.inr (.inr a))) (some (.inl (w64 (a + 1))))) (some (.inr (.inl ())))
noncomputable def qdm (a : List K1) (b : K1→Option Bool) : Option Int:=
  (loop (q6q a b) 0 : Option ((Unit) ⊕ (Int))).bind fun c=>(match c with | .inl _=>some (-1) | .inr d=>some d)
noncomputable def q6o (a : List K1) (b : K1→Option Bool) : Option Bool:=
  (qdm a b).bind fun c=>some (decide (c ≥ 0))
noncomputable def qbm (a : Q3) : Option Bool:=
  (cond (decide ((min (min a.X a.Y) a.Z) ≥ (-1000000))) (some (decide ((max (max a.X a.Y) a.Z)≤1000000))) (some false)).bind fun b=>some b
noncomputable def q16 (a : K1) (b : Int × Int) : Option ((Int × Int) ⊕ (Int)):=
  cond (decide (b.2 < 3)) (((idxA 3 [w64 (a.To.X - a.From.X),w64 (a.To.Y - a.From.Y),w64 (a.To.Z - a.From.Z)] b.2).bind fun c=>cond (c == 0) (some (w64 (b.1 + 1))) (some b.1)).bind fun d=>some (.inl (d,w64 (b.2 + 1)))) (some (.inr b.1))
noncomputable def q89 (a : K1) : Option Bool:=
  (loop (q16 a) (0,0)).bind fun b=>(qbm a.From).bind fun c=>(cond (!c) (some true) ((qbm a.To).bind fun d=>some (!d))).bind fun f=>(cond f (some true) (some (decide (b < 2)))).bind fun g=>some g
noncomputable def q6r (b : List Yy) (c : Yy→Option Bool) (a : Int) : Option ((Int) ⊕ ((Unit) ⊕ (Int))):=
  cond (decide (a < (b.length : Int))) ((idx b a).bind fun d=>(c d).bind fun f=>cond f (some (.inr (.inr a))) (some (.inl (w64 (a + 1))))) (some (.inr (.inl ())))
noncomputable def qdn (a : List Yy) (b : Yy→Option Bool) : Option Int:=
  (loop (q6r a b) 0 : Option ((Unit) ⊕ (Int))).bind fun c=>(match c with | .inl _=>some (-1) | .inr d=>some d)
noncomputable def q9v (a : List Yy) (b : Yy→Option Bool) : Option Bool:=
  (qdn a b).bind fun c=>some (decide (c ≥ 0))
noncomputable def q8z (a : Q3) (b : Int) : Option Bool:=
  (cond (decide ((min (min a.X a.Y) a.Z) ≥ b)) (some (decide ((max (max a.X a.Y) a.Z)≤1000000))) (some false)).bind fun c=>some c
noncomputable def q58 (a : Yg) : Option Int:=
  (cond (decide (a.Turn ≥ 24)) (some true) ((q8z a.At (-1000000)).bind fun b=>some (!b))).bind fun c=>cond c (some 8) (some 0)
noncomputable def q8a (a : Yy) : Option Bool:=
  (q58 a.Frame).bind fun b=>some (b != 0)
noncomputable def qbl (a : Qv) : Option Int:=
  (q6o a.Lines (fun b=>q89 b)).bind fun c=>(q9v a.Marks (fun b=>q8a b)).bind fun d=>(cond c (some true) (some d)).bind fun f=>(cond f (some true) ((q58 a.End.Frame).bind fun g=>some (g != 0))).bind fun h=>(cond h (some true) (some (decide ((max (a.Lines.length : Int) (a.Marks.length : Int)) > 2000)))).bind fun j=>cond j (some 8) (some 0)
noncomputable def q8b (a : Int) : Option Int:=
  some (max a (w64 (0 - a)))
noncomputable def q88 (c : Qv) (b : Int × Int) : Option ((Int × Int) ⊕ (Int)):=
  cond (decide (b.2 < (c.Lines.length : Int))) ((idx c.Lines b.2).bind fun a=>(q8b (w64 (a.To.X - a.From.X))).bind fun d=>(q8b (w64 (a.To.Y - a.From.Y))).bind fun f=>(q8b (w64 (a.To.Z - a.From.Z))).bind fun g=>some (.inl (w64 (b.1 + (w64 ((w64 (d + f)) + g))),w64 (b.2 + 1)))) (some (.inr b.1))
noncomputable def q4x (a : Qv) : Option (Int × Int):=
  (qbl a).bind fun b=>cond (b != 0) (some (0,b)) ((loop (q88 a) (0,0)).bind fun c=>some (c,0))
noncomputable def Jk (b : List qg) (c : qg→Option Bool) (a : Int) : Option ((Int) ⊕ ((Unit) ⊕ (Int))):=
  cond (decide (a < (b.length : Int))) ((idx b a).bind fun d=>(c d).bind fun f=>cond f (some (.inr (.inr a))) (some (.inl (w64 (a + 1))))) (some (.inr (.inl ())))
noncomputable def q6s (a : List qg) (b : qg→Option Bool) : Option Int:=
  (loop (Jk a b) 0 : Option ((Unit) ⊕ (Int))).bind fun c=>(match c with | .inl _=>some (-1) | .inr d=>some d)
noncomputable def Un (a : List qg) (b : qg→Option Bool) : Option Bool:=
  (q6s a b).bind fun c=>some (decide (c ≥ 0))
noncomputable def q7u (a : Q3) : Option Bool:=
  (cond (decide ((min (min a.X a.Y) a.Z) ≥ (-1000000))) (some (decide ((max (max a.X a.Y) a.Z)≤1000000))) (some false)).bind fun b=>some b
noncomputable def q7v (a : qg) : Option Bool:=
  (cond (decide (a.Lo.X < a.Hi.X)) (some (decide (a.Lo.Y < a.Hi.Y))) (some false)).bind fun b=>(cond b (some (decide (a.Lo.Z < a.Hi.Z))) (some false)).bind fun c=>(cond c ((q7u a.Lo).bind fun d=>some d) (some false)).bind fun f=>(cond f ((q7u a.Hi).bind fun g=>some g) (some false)).bind fun h=>some h
noncomputable def q37 (a : qg) : Option Bool:=
  (q7v a).bind fun b=>some (!b)
def qe1 : ByteArray:=⟨#[0,1,2,2,3,3,3,3,4,4,4,4,4,4,4,4,5,5,5,5,5,5,5,5,5,5,5,5,5,5,5,5,6,6,6,6,6,6,6,6,6,6,6,6,6,6,6,6,6,6,6,6,6,6,6,6,6,6,6,6,6,6,6,6,7,7,7,7,7,7,7,7,7,7,7,7,7,7,7,7,7,7,7,7,7,7,7,7,7,7,7,7,7,7,7,7,7,7,7,7,7,7,7,7,7,7,7,7,7,7,7,7,7,7,7,7,7,7,7,7,7,7,7,7,7,7,7,7,8,8,8,8,8,8,8,8,8,8,8,8,8,8,8,8,8,8,8,8,8,8,8,8,8,8,8,8,8,8,8,8,8,8,8,8,8,8,8,8,8,8,8,8,8,8,8,8,8,8,8,8,8,8,8,8,8,8,8,8,8,8,8,8,8,8,8,8,8,8,8,8,8,8,8,8,8,8,8,8,8,8,8,8,8,8,8,8,8,8,8,8,8,8,8,8,8,8,8,8,8,8,8,8,8,8,8,8,8,8,8,8,8,8,8,8,8,8,8,8,8,8,8,8,8,8,8,8]⟩
noncomputable def q2t (c : Int) : Option Int:=
  (cond (decide (c ≥ 4294967296)) (some (Int.fdiv c (2 ^ 32),32)) (some (c,0))).bind fun a=>(cond (decide (a.1 ≥ 65536)) (some (Int.fdiv a.1 (2 ^ 16),w64 (a.2 + 16))) (some (a.1,a.2))).bind fun b=>(cond (decide (b.1 ≥ 256)) (some (Int.fdiv b.1 (2 ^ 8),w64 (b.2 + 8))) (some (b.1,b.2))).bind fun d=>(q4p qe1 (IntKind.wrap .u8 d.1)).bind fun f=>some (w64 (d.2 + (w64 f)))
noncomputable def q12 (a : Int) : Option Int:=
  (q2t a).bind fun b=>some b
noncomputable def q8n (a : Int) : Option Bool:=
  some (a != a)
noncomputable def Zc (a : Int) (b : Int) : Option Bool:=
  (q8n a).bind fun c=>(cond c ((q8n b).bind fun d=>some (!d)) (some false)).bind fun f=>(cond f (some true) (some (decide (a < b)))).bind fun g=>some g
noncomputable def q72 (c : Int) (a : Int × List Int) : Option ((Int × List Int) ⊕ (List Int)):=
  (cond (decide (a.1 > c)) ((idx a.2 a.1).bind fun d=>(idx a.2 (w64 (a.1 - 1))).bind fun f=>(Zc d f).bind fun g=>some g) (some false)).bind fun h=>cond h ((idx a.2 (w64 (a.1 - 1))).bind fun b=>(idx a.2 a.1).bind fun j=>(idx a.2 a.1).bind fun _=>(idx (a.2.set a.1.toNat b) (w64 (a.1 - 1))).bind fun _=>some (.inl (w64 (a.1 - 1),(a.2.set a.1.toNat b).set (w64 (a.1 - 1)).toNat j))) (some (.inr a.2))
noncomputable def q71 (b : Int) (c : Int) (a : Int × List Int) : Option ((Int × List Int) ⊕ (List Int)):=
  cond (decide (a.1 < b)) (((loop (q72 c) (a.1,a.2)).bind fun d=>some d).bind fun f=>some (.inl (w64 (a.1 + 1),f))) (some (.inr a.2))
noncomputable def q70 (b : List Int) (a : Int) (c : Int) : Option (List Int):=
  (loop (q71 c a) (w64 (a + 1),b)).bind fun d=>some d
noncomputable def q7o (d : Int) (b : Int) (a : Int × List Int) : Option ((Int × List Int) ⊕ (List Int)):=
  cond (decide ((w64 ((w64 (2 * a.1)) + 1)) ≥ d)) (some (.inr a.2)) ((cond (decide ((w64 ((w64 ((w64 (2 * a.1)) + 1)) + 1)) < d)) ((idx a.2 (w64 (b + (w64 ((w64 (2 * a.1)) + 1))))).bind fun g=>(idx a.2 (w64 ((w64 (b + (w64 ((w64 (2 * a.1)) + 1)))) + 1))).bind fun h=>(Zc g h).bind fun j=>some j) (some false)).bind fun k=>(cond k (some (w64 ((w64 ((w64 (2 * a.1)) + 1)) + 1))) (some (w64 ((w64 (2 * a.1)) + 1)))).bind fun c=>(idx a.2 (w64 (b + a.1))).bind fun l=>(idx a.2 (w64 (b + c))).bind fun m=>(Zc l m).bind fun n=>cond (!n) (some (.inr a.2)) ((idx a.2 (w64 (b + c))).bind fun f=>(idx a.2 (w64 (b + a.1))).bind fun o=>(idx a.2 (w64 (b + a.1))).bind fun _=>(idx (a.2.set (w64 (b + a.1)).toNat f) (w64 (b + c))).bind fun _=>some (.inl (c,(a.2.set (w64 (b + a.1)).toNat f).set (w64 (b + c)).toNat o))))
noncomputable def q4k (a : List Int) (b : Int) (c : Int) (d : Int) : Option (List Int):=
  (loop (q7o c d) (b,a)).bind fun f=>some f
noncomputable def q6y (d : Int) (b : Int) (a : Int × List Int) : Option ((Int × List Int) ⊕ (List Int)):=
  cond (decide (a.1 ≥ 0)) ((q4k a.2 a.1 (w64 (d - b)) b).bind fun c=>(K4 c.length a.2.length).bind fun _=>some (.inl (w64 (a.1 - 1),c))) (some (.inr a.2))
noncomputable def q6z (b : Int) (a : Int × List Int) : Option ((Int × List Int) ⊕ (List Int)):=
  cond (decide (a.1 ≥ 0)) ((idx a.2 (w64 (b + a.1))).bind fun c=>(idx a.2 b).bind fun d=>(idx a.2 b).bind fun _=>(idx (a.2.set b.toNat c) (w64 (b + a.1))).bind fun _=>(q4k ((a.2.set b.toNat c).set (w64 (b + a.1)).toNat d) 0 a.1 b).bind fun f=>(K4 f.length ((a.2.set b.toNat c).set (w64 (b + a.1)).toNat d).length).bind fun _=>some (.inl (w64 (a.1 - 1),f))) (some (.inr a.2))
noncomputable def q6x (c : List Int) (a : Int) (b : Int) : Option (List Int):=
  (loop (q6y b a) (w64 (Int.tdiv (w64 ((w64 (b - a)) - 1)) 2),c)).bind fun d=>(loop (q6z a) (w64 ((w64 (b - a)) - 1),d)).bind fun f=>some f
noncomputable def q36 (c : List Int) (a : Int) (b : Int) (d : Int) : Option (Int × Int × Int):=
  (idx c b).bind fun f=>(idx c a).bind fun g=>(Zc f g).bind fun h=>cond h (some (b,a,w64 (d + 1))) (some (a,b,d))
noncomputable def q4e (a : List Int) (f : Int) (g : Int) (h : Int) (j : Int) : Option (Int × Int):=
  (q36 a f g j).bind fun b=>(q36 a b.2.1 h b.2.2).bind fun c=>(q36 a b.1 c.1 c.2.2).bind fun d=>some (d.2.1,d.2.2)
noncomputable def q35 (c : List Int) (a : Int) (d : Int) : Option (Int × Int):=
  (q4e c (w64 (a - 1)) a (w64 (a + 1)) d).bind fun b=>some (b.1,b.2)
noncomputable def q6w (d : List Int) (a : Int) (b : Int) : Option (Int × Int):=
  (cond (decide ((w64 (b - a)) ≥ 8)) ((cond (decide ((w64 (b - a)) ≥ 50)) ((q35 d (w64 (a + (w64 ((w64 (Int.tdiv (w64 (b - a)) 4)) * 1)))) 0).bind fun g=>(q35 d (w64 (a + (w64 ((w64 (Int.tdiv (w64 (b - a)) 4)) * 2)))) g.2).bind fun h=>(q35 d (w64 (a + (w64 ((w64 (Int.tdiv (w64 (b - a)) 4)) * 3)))) h.2).bind fun j=>some (g.1,h.1,j.1,j.2)) (some (w64 (a + (w64 ((w64 (Int.tdiv (w64 (b - a)) 4)) * 1))),w64 (a + (w64 ((w64 (Int.tdiv (w64 (b - a)) 4)) * 2))),w64 (a + (w64 ((w64 (Int.tdiv (w64 (b - a)) 4)) * 3))),0))).bind fun f=>(q4e d f.1 f.2.1 f.2.2.1 f.2.2.2).bind fun k=>some (k.1,k.2)) (some (w64 (a + (w64 ((w64 (Int.tdiv (w64 (b - a)) 4)) * 2))),0))).bind fun c=>cond (c.2 == 0) (some (c.1,1)) (cond (c.2 == 12) (some (c.1,2)) (some (c.1,0)))
noncomputable def qaq (a : Int × Int × List Int) : Option ((Int × Int × List Int) ⊕ (List Int)):=
  cond (decide (a.1 < a.2.1)) ((idx a.2.2 a.2.1).bind fun b=>(idx a.2.2 a.1).bind fun c=>(idx a.2.2 a.1).bind fun _=>(idx (a.2.2.set a.1.toNat b) a.2.1).bind fun _=>some (.inl (w64 (a.1 + 1),w64 (a.2.1 - 1),(a.2.2.set a.1.toNat b).set a.2.1.toNat c))) (some (.inr a.2.2))
noncomputable def q7m (a : List Int) (b : Int) (c : Int) : Option (List Int):=
  (loop qaq (b,w64 (c - 1),a)).bind fun d=>some d
noncomputable def q76 (c : Int) (b : Int × Int × List Int) (a : Int) : Option ((Int) ⊕ (Int)):=
  (cond (decide (a < c)) ((idx b.2.2 a).bind fun d=>(idx b.2.2 (w64 (a - 1))).bind fun f=>(Zc d f).bind fun g=>some (!g)) (some false)).bind fun h=>cond h (some (.inl (w64 (a + 1)))) (some (.inr a))
noncomputable def qad (a : Int × List Int) : Option ((Int × List Int) ⊕ (List Int)):=
  cond (decide (a.1 ≥ 1)) ((idx a.2 a.1).bind fun c=>(idx a.2 (w64 (a.1 - 1))).bind fun d=>(Zc c d).bind fun f=>cond (!f) (some (.inr a.2)) ((idx a.2 (w64 (a.1 - 1))).bind fun b=>(idx a.2 a.1).bind fun g=>(idx a.2 a.1).bind fun _=>(idx (a.2.set a.1.toNat b) (w64 (a.1 - 1))).bind fun _=>some (.inl (w64 (a.1 - 1),(a.2.set a.1.toNat b).set (w64 (a.1 - 1)).toNat g)))) (some (.inr a.2))
noncomputable def q77 (d : Int) (b : Int) (a : Int × List Int) : Option ((Int × List Int) ⊕ (Int × List Int)):=
  cond (decide (a.1 < d)) ((idx a.2 a.1).bind fun f=>(idx a.2 (w64 (a.1 - 1))).bind fun g=>(Zc f g).bind fun h=>cond (!h) (some (.inr (b,a.2))) ((idx a.2 (w64 (a.1 - 1))).bind fun c=>(idx a.2 a.1).bind fun j=>(idx a.2 a.1).bind fun _=>(idx (a.2.set a.1.toNat c) (w64 (a.1 - 1))).bind fun _=>some (.inl (w64 (a.1 + 1),(a.2.set a.1.toNat c).set (w64 (a.1 - 1)).toNat j)))) (some (.inr (b,a.2)))
noncomputable def q4h (c : Int) (g : Int) (b : Int × Int × List Int) : Option ((Int × Int × List Int) ⊕ ((List Int) ⊕ (Bool × List Int))):=
  cond (decide (b.2.1 < 5)) (((loop (q76 c b) b.1).bind fun a=>cond (a == c) (some (.inr (true,b.2.2))) (cond (decide ((w64 (c - g)) < 50)) (some (.inr (false,b.2.2))) ((idx b.2.2 (w64 (a - 1))).bind fun d=>(idx b.2.2 a).bind fun h=>(idx b.2.2 a).bind fun _=>(idx (b.2.2.set a.toNat d) (w64 (a - 1))).bind fun _=>(cond (decide ((w64 (a - g)) ≥ 2)) ((loop qad (w64 (a - 1),(b.2.2.set a.toNat d).set (w64 (a - 1)).toNat h)).bind fun f=>some f) (some ((b.2.2.set a.toNat d).set (w64 (a - 1)).toNat h))).bind fun j=>cond (decide ((w64 (c - a)) ≥ 2)) ((loop (q77 c a) (w64 (a + 1),j)).bind fun f=>some (.inl f)) (some (.inl (a,j))))) : Option ((Int × List Int) ⊕ (Bool × List Int))).bind fun l=>(match l with | .inl k=>some (.inl (k.1,w64 (b.2.1 + 1),k.2)) | .inr m=>some (.inr (.inr m)))) (some (.inr (.inl b.2.2)))
noncomputable def q4g (b : List Int) (a : Int) (c : Int) : Option (Bool × List Int):=
  (loop (q4h c a) (w64 (a + 1),0,b) : Option ((List Int) ⊕ (Bool × List Int))).bind fun d=>(match d with | .inl f=>some (false,f) | .inr g=>some g)
noncomputable def q7a (b : Int × Int × List Int) (c : Int) (a : Int) : Option ((Int) ⊕ (Int)):=
  (cond (decide (a≤b.2.1)) ((idx b.2.2 c).bind fun d=>(idx b.2.2 a).bind fun f=>(Zc d f).bind fun g=>some (!g)) (some false)).bind fun h=>cond h (some (.inl (w64 (a + 1)))) (some (.inr a))
noncomputable def q7b (c : Int) (b : Int × Int × List Int) (d : Int) (a : Int) : Option ((Int) ⊕ (Int)):=
  (cond (decide (c≤a)) ((idx b.2.2 d).bind fun f=>(idx b.2.2 a).bind fun g=>(Zc f g).bind fun h=>some h) (some false)).bind fun j=>cond j (some (.inl (w64 (a - 1)))) (some (.inr a))
noncomputable def q79 (d : Int) (a : Int × Int × List Int) : Option ((Int × Int × List Int) ⊕ (Int × List Int)):=
  (loop (q7a a d) a.1).bind fun b=>(loop (q7b b a d) a.2.1).bind fun c=>cond (decide (b > c)) (some (.inr (b,a.2.2))) ((idx a.2.2 c).bind fun f=>(idx a.2.2 b).bind fun g=>(idx a.2.2 b).bind fun _=>(idx (a.2.2.set b.toNat f) c).bind fun _=>some (.inl (w64 (b + 1),w64 (c - 1),(a.2.2.set b.toNat f).set c.toNat g)))
noncomputable def q78 (b : List Int) (a : Int) (g : Int) (c : Int) : Option (Int × List Int):=
  (idx b c).bind fun d=>(idx b a).bind fun h=>(idx b a).bind fun _=>(idx (b.set a.toNat d) c).bind fun _=>(loop (q79 a) (w64 (a + 1),w64 (g - 1),(b.set a.toNat d).set c.toNat h)).bind fun f=>some (f.1,f.2)
noncomputable def q7d (h : Int) (c : List Int) (b : Int) (d : Int) (f : Int) (g : Int) (a : Int) : Option ((Int) ⊕ (Int)):=
  (cond (decide (a≤(w64 (h - 1)))) ((idx ((c.set b.toNat d).set f.toNat g) a).bind fun j=>(idx ((c.set b.toNat d).set f.toNat g) b).bind fun k=>(Zc j k).bind fun l=>some l) (some false)).bind fun m=>cond m (some (.inl (w64 (a + 1)))) (some (.inr a))
noncomputable def q7e (h : Int) (c : List Int) (b : Int) (d : Int) (f : Int) (g : Int) (a : Int) : Option ((Int) ⊕ (Int)):=
  (cond (decide (h≤a)) ((idx ((c.set b.toNat d).set f.toNat g) a).bind fun j=>(idx ((c.set b.toNat d).set f.toNat g) b).bind fun k=>(Zc j k).bind fun l=>some (!l)) (some false)).bind fun m=>cond m (some (.inl (w64 (a - 1)))) (some (.inr a))
noncomputable def q7g (b : Int × Int × List Int) (c : Int) (a : Int) : Option ((Int) ⊕ (Int)):=
  (cond (decide (a≤b.2.1)) ((idx b.2.2 a).bind fun d=>(idx b.2.2 c).bind fun f=>(Zc d f).bind fun g=>some g) (some false)).bind fun h=>cond h (some (.inl (w64 (a + 1)))) (some (.inr a))
noncomputable def q7h (c : Int) (b : Int × Int × List Int) (d : Int) (a : Int) : Option ((Int) ⊕ (Int)):=
  (cond (decide (c≤a)) ((idx b.2.2 a).bind fun f=>(idx b.2.2 d).bind fun g=>(Zc f g).bind fun h=>some (!h)) (some false)).bind fun j=>cond j (some (.inl (w64 (a - 1)))) (some (.inr a))
noncomputable def q7f (d : Int) (a : Int × Int × List Int) : Option ((Int × Int × List Int) ⊕ (Int × List Int)):=
  (loop (q7g a d) a.1).bind fun b=>(loop (q7h b a d) a.2.1).bind fun c=>cond (decide (b > c)) (some (.inr (c,a.2.2))) ((idx a.2.2 c).bind fun f=>(idx a.2.2 b).bind fun g=>(idx a.2.2 b).bind fun _=>(idx (a.2.2.set b.toNat f) c).bind fun _=>some (.inl (w64 (b + 1),w64 (c - 1),(a.2.2.set b.toNat f).set c.toNat g)))
noncomputable def q7c (b : List Int) (a : Int) (k : Int) (c : Int) : Option (Int × Bool × List Int):=
  (idx b c).bind fun d=>(idx b a).bind fun f=>(idx b a).bind fun _=>(idx (b.set a.toNat d) c).bind fun _=>(loop (q7d k b a d c f) (w64 (a + 1))).bind fun j=>(loop (q7e j b a d c f) (w64 (k - 1))).bind fun g=>cond (decide (j > g)) ((idx ((b.set a.toNat d).set c.toNat f) a).bind fun l=>(idx ((b.set a.toNat d).set c.toNat f) g).bind fun o=>(idx ((b.set a.toNat d).set c.toNat f) g).bind fun _=>(idx (((b.set a.toNat d).set c.toNat f).set g.toNat l) a).bind fun _=>some (g,true,(((b.set a.toNat d).set c.toNat f).set g.toNat l).set a.toNat o)) ((idx ((b.set a.toNat d).set c.toNat f) g).bind fun m=>(idx ((b.set a.toNat d).set c.toNat f) j).bind fun p=>(idx ((b.set a.toNat d).set c.toNat f) j).bind fun _=>(idx (((b.set a.toNat d).set c.toNat f).set j.toNat m) g).bind fun _=>(loop (q7f a) (w64 (j + 1),w64 (g - 1),(((b.set a.toNat d).set c.toNat f).set j.toNat m).set g.toNat p)).bind fun h=>(idx h.2 a).bind fun n=>(idx h.2 h.1).bind fun q=>(idx h.2 h.1).bind fun _=>(idx (h.2.set h.1.toNat n) a).bind fun _=>some (h.1,false,(h.2.set h.1.toNat n).set a.toNat q))
noncomputable def q20 (a : Int) : Option Int:=
  (q12 (IntKind.wrap .u64 a)).bind fun b=>(shlK .u64 1 b).bind fun c=>some c
noncomputable def q21 (a : Int) : Option Int:=
  some (xorI .u64 (xorI .u64 (xorI .u64 a (IntKind.wrap .u64 (a * (2 ^ 13)))) (Int.fdiv (xorI .u64 a (IntKind.wrap .u64 (a * (2 ^ 13)))) (2 ^ 7))) (IntKind.wrap .u64 ((xorI .u64 (xorI .u64 a (IntKind.wrap .u64 (a * (2 ^ 13)))) (Int.fdiv (xorI .u64 a (IntKind.wrap .u64 (a * (2 ^ 13)))) (2 ^ 7))) * (2 ^ 17))))
noncomputable def q6v (b : Int) (d : Int) (f : Int) (a : Int × List Int × Int) : Option ((Int × List Int × Int) ⊕ (List Int)):=
  cond (decide (a.1≤(w64 ((w64 (b + (w64 ((w64 (Int.tdiv (w64 (d - b)) 4)) * 2)))) + 1)))) ((q21 a.2.2).bind fun c=>(cond (decide ((w64 (andI .u64 c (IntKind.wrap .u64 (f - 1)))) ≥ (w64 (d - b)))) (some (w64 ((w64 (andI .u64 c (IntKind.wrap .u64 (f - 1)))) - (w64 (d - b))))) (some (w64 (andI .u64 c (IntKind.wrap .u64 (f - 1)))))).bind fun g=>(idx a.2.1 (w64 (b + g))).bind fun h=>(idx a.2.1 a.1).bind fun j=>(idx a.2.1 a.1).bind fun _=>(idx (a.2.1.set a.1.toNat h) (w64 (b + g))).bind fun _=>some (.inl (w64 (a.1 + 1),(a.2.1.set a.1.toNat h).set (w64 (b + g)).toNat j,c))) (some (.inr a.2.1))
noncomputable def q6u (c : List Int) (a : Int) (b : Int) : Option (List Int):=
  cond (decide ((w64 (b - a)) ≥ 8)) ((q20 (w64 (b - a))).bind fun d=>(loop (q6v a b d) (w64 ((w64 (a + (w64 ((w64 (Int.tdiv (w64 (b - a)) 4)) * 2)))) - 1),c,IntKind.wrap .u64 (w64 (b - a)))).bind fun f=>some f) (some c)
noncomputable def q4i (rec : List Int→Int→Int→Int→Option (List Int)) (a : Int × Int × Int × Bool × Bool × List Int) : Option ((Int × Int × Int × Bool × Bool × List Int) ⊕ (List Int)):=
  cond (decide ((w64 (a.2.1 - a.1))≤12)) ((q70 a.2.2.2.2.2 a.1 a.2.1).bind fun k=>(K4 k.length a.2.2.2.2.2.length).bind fun _=>some (.inr k)) (cond (a.2.2.1 == 0) ((q6x a.2.2.2.2.2 a.1 a.2.1).bind fun l=>(K4 l.length a.2.2.2.2.2.length).bind fun _=>some (.inr l)) ((cond (!a.2.2.2.1) ((q6u a.2.2.2.2.2 a.1 a.2.1).bind fun m=>(K4 m.length a.2.2.2.2.2.length).bind fun _=>some (w64 (a.2.2.1 - 1),m)) (some (a.2.2.1,a.2.2.2.2.2))).bind fun c=>(q6w c.2 a.1 a.2.1).bind fun g=>(cond (g.2 == 2) ((q7m c.2 a.1 a.2.1).bind fun n=>(K4 n.length c.2.length).bind fun _=>some (w64 ((w64 (a.2.1 - 1)) - (w64 (g.1 - a.1))),1,n)) (some (g.1,g.2,c.2))).bind fun d=>(cond a.2.2.2.1 (some a.2.2.2.2.1) (some false)).bind fun q=>(cond q (some (d.2.1 == 1)) (some false)).bind fun r=>(cond r ((q4g d.2.2 a.1 a.2.1).bind fun h=>(K4 h.2.length d.2.2.length).bind fun _=>cond h.1 (some (.inr h.2)) (some (.inl h.2))) (some (.inl d.2.2)) : Option ((List Int) ⊕ (List Int))).bind fun s=>(match s with | .inl f=>(cond (decide (a.1 > 0)) ((idx f (w64 (a.1 - 1))).bind fun t=>(idx f d.1).bind fun u=>(Zc t u).bind fun v=>some (!v)) (some false)).bind fun w=>cond w ((q78 f a.1 a.2.1 d.1).bind fun j=>(K4 j.2.length f.length).bind fun _=>some (.inl (j.1,a.2.1,c.1,a.2.2.2.1,a.2.2.2.2.1,j.2))) ((q7c f a.1 a.2.1 d.1).bind fun b=>(K4 b.2.2.length f.length).bind fun _=>cond (decide ((w64 (b.1 - a.1)) < (w64 (a.2.1 - b.1)))) ((rec b.2.2 a.1 b.1 c.1).bind fun o=>(K4 o.length b.2.2.length).bind fun _=>some (.inl (w64 (b.1 + 1),a.2.1,c.1,decide ((w64 (b.1 - a.1)) ≥ (w64 (Int.tdiv (w64 (a.2.1 - a.1)) 8))),b.2.1,o))) ((rec b.2.2 (w64 (b.1 + 1)) a.2.1 c.1).bind fun p=>(K4 p.length b.2.2.length).bind fun _=>some (.inl (a.1,b.1,c.1,decide ((w64 (a.2.1 - b.1)) ≥ (w64 (Int.tdiv (w64 (a.2.1 - a.1)) 8))),b.2.1,p)))) | .inr x=>some (.inr x))))
noncomputable def q4j (rec : List Int→Int→Int→Int→Option (List Int)) (a : List Int) (b : Int) (c : Int) (d : Int) : Option (List Int):=
  (loop (q4i rec) (b,c,d,true,true,a)).bind fun f=>some f
noncomputable def q7l : Nat→List Int→Int→Int→Int→Option (List Int)
  | 0,_,_,_,_=>none
  | n + 1,a,b,c,d=>q4j (q7l n)  a b c d
noncomputable def U7 (a : List Int) : Option (List Int):=
  (q12 (IntKind.wrap .u64 (a.length : Int))).bind fun c=>(lim (fun n=>q7l n a 0 (a.length : Int) c)).bind fun b=>(K4 b.length a.length).bind fun _=>some b
noncomputable def q1z (a : Int × (Nat × Nat) × Int × List Int) : Option ((Int × (Nat × Nat) × Int × List Int) ⊕ (Int × List Int)):=
  cond (decide (a.2.2.1 < (a.2.1.2 : Int))) (((idxW a.2.2.2 a.2.1 a.2.2.1).bind fun c=>(idxW a.2.2.2 a.2.1 (w64 (a.2.2.1 - 1))).bind fun d=>cond (c != d) ((idxW a.2.2.2 a.2.1 a.2.2.1).bind fun f=>(idx a.2.2.2 a.1).bind fun _=>some (w64 (a.1 + 1),a.2.1,a.2.2.2.set a.1.toNat f)) (some (a.1,a.2.1,a.2.2.2))).bind fun b=>some (.inl (b.1,b.2.1,w64 (a.2.2.1 + 1),b.2.2))) (some (.inr (a.1,a.2.2.2)))
noncomputable def Jj (a : List Int) (b : Int) : Option ((Int) ⊕ ((Unit) ⊕ ((Nat × Nat) × List Int))):=
  cond (decide (b < (a.length : Int))) ((idx a b).bind fun d=>(idx a (w64 (b - 1))).bind fun f=>cond (d == f) ((sub2 a.length b a.length).bind fun g=>(loop q1z (b,g,1,a)).bind fun c=>(sub2 c.2.length c.1 c.2.length).bind fun h=>(sub2 c.2.length 0 c.1).bind fun j=>some (.inr (.inr (j,clrw c.2 h 0)))) (some (.inl (w64 (b + 1))))) (some (.inr (.inl ())))
noncomputable def q14 (a : List Int) : Option ((Nat × Nat) × List Int):=
  cond (decide ((a.length : Int) < 2)) (some ((0,a.length),a)) ((loop (Jj a) 1 : Option ((Unit) ⊕ ((Nat × Nat) × List Int))).bind fun b=>(match b with | .inl _=>some ((0,a.length),a) | .inr c=>some c))
structure qi where
  X0 : Int
  Y0 : Int
  X1 : Int
  Y1 : Int
  deriving DecidableEq
def Q2 (x : qi) : List DV:=[.int .i64 x.X0,.int .i64 x.Y0,.int .i64 x.X1,.int .i64 x.Y1]
noncomputable def q4b (b : List qi) (c : qi→Option Bool) (a : Int) : Option ((Int) ⊕ ((Unit) ⊕ (Int))):=
  cond (decide (a < (b.length : Int))) ((idx b a).bind fun d=>(c d).bind fun f=>cond f (some (.inr (.inr a))) (some (.inl (w64 (a + 1))))) (some (.inr (.inl ())))
noncomputable def qdo (a : List qi) (b : qi→Option Bool) : Option Int:=
  (loop (q4b a b) 0 : Option ((Unit) ⊕ (Int))).bind fun c=>(match c with | .inl _=>some (-1) | .inr d=>some d)
noncomputable def q9w (a : List qi) (b : qi→Option Bool) : Option Bool:=
  (qdo a b).bind fun c=>some (decide (c ≥ 0))
noncomputable def q2z (a : Int) : Option Bool:=
  (cond (decide (a ≥ (-1000000))) (some (decide (a≤1000000))) (some false)).bind fun b=>some b
noncomputable def q6i (a : qi) : Option Bool:=
  (cond (decide (a.X0 < a.X1)) (some (decide (a.Y0 < a.Y1))) (some false)).bind fun b=>(cond b ((q2z a.X0).bind fun c=>some c) (some false)).bind fun d=>(cond d ((q2z a.X1).bind fun f=>some f) (some false)).bind fun g=>(cond g ((q2z a.Y0).bind fun h=>some h) (some false)).bind fun j=>(cond j ((q2z a.Y1).bind fun k=>some k) (some false)).bind fun l=>some l
noncomputable def q2y (a : qi) : Option Bool:=
  (q6i a).bind fun b=>some (!b)
def Kp (x : List qi) : List DV:=[.sl 4 (x.map Q2)]
structure qk where
  Lo : Int
  Hi : Int
  deriving DecidableEq
def Qk (x : qk) : List DV:=[.int .i64 x.Lo,.int .i64 x.Hi]
noncomputable def q34 (b : List qk) (c : qk→Option Bool) (a : Int) : Option ((Int) ⊕ ((Unit) ⊕ (Int))):=
  cond (decide (a < (b.length : Int))) ((idx b a).bind fun d=>(c d).bind fun f=>cond f (some (.inr (.inr a))) (some (.inl (w64 (a + 1))))) (some (.inr (.inl ())))
noncomputable def qa0 (a : List qk) (b : qk→Option Bool) : Option Int:=
  (loop (q34 a b) 0 : Option ((Unit) ⊕ (Int))).bind fun c=>(match c with | .inl _=>some (-1) | .inr d=>some d)
noncomputable def q9y (a : List qk) (b : qk→Option Bool) : Option Bool:=
  (qa0 a b).bind fun c=>some (decide (c ≥ 0))
noncomputable def q3b (a : qk) : Option Bool:=
  (cond (decide (a.Lo < a.Hi)) (some (decide (a.Lo ≥ (-1000000)))) (some false)).bind fun b=>(cond b (some (decide (a.Hi≤1000000))) (some false)).bind fun c=>some c
noncomputable def qdz (a : qk) : Option Bool:=
  (q3b a).bind fun b=>some (!b)
def q1a (x : List qk) : List DV:=[.sl 2 (x.map Qk)]
structure qn where
  at_ : Int
  list_ : Int
  by_ : Int
  deriving DecidableEq
def Qq (x : qn) : List DV:=[.int .i64 x.at_,.int .i64 x.list_,.int .i64 x.by_]
noncomputable def qb2 (a : qn) (b : qn) : Option Int:=
  some (w64 (a.at_ - b.at_))
noncomputable def qa9 (c : Int) (d : qn→qn→Option Int) (a : Int × List qn) : Option ((Int × List qn) ⊕ (List qn)):=
  (cond (decide (a.1 > c)) ((idx a.2 a.1).bind fun f=>(idx a.2 (w64 (a.1 - 1))).bind fun g=>(d f g).bind fun h=>some (decide (h < 0))) (some false)).bind fun j=>cond j ((idx a.2 (w64 (a.1 - 1))).bind fun b=>(idx a.2 a.1).bind fun k=>(idx a.2 a.1).bind fun _=>(idx (a.2.set a.1.toNat b) (w64 (a.1 - 1))).bind fun _=>some (.inl (w64 (a.1 - 1),(a.2.set a.1.toNat b).set (w64 (a.1 - 1)).toNat k))) (some (.inr a.2))
noncomputable def qa8 (b : Int) (c : Int) (d : qn→qn→Option Int) (a : Int × List qn) : Option ((Int × List qn) ⊕ (List qn)):=
  cond (decide (a.1 < b)) (((loop (qa9 c d) (a.1,a.2)).bind fun f=>some f).bind fun g=>some (.inl (w64 (a.1 + 1),g))) (some (.inr a.2))
noncomputable def qa7 (b : qn→qn→Option Int) (c : List qn) (a : Int) (d : Int) : Option (List qn):=
  (loop (qa8 d a b) (w64 (a + 1),c)).bind fun f=>some f
noncomputable def qar (d : Int) (b : Int) (f : qn→qn→Option Int) (a : Int × List qn) : Option ((Int × List qn) ⊕ (List qn)):=
  cond (decide ((w64 ((w64 (2 * a.1)) + 1)) ≥ d)) (some (.inr a.2)) ((cond (decide ((w64 ((w64 ((w64 (2 * a.1)) + 1)) + 1)) < d)) ((idx a.2 (w64 (b + (w64 ((w64 (2 * a.1)) + 1))))).bind fun h=>(idx a.2 (w64 ((w64 (b + (w64 ((w64 (2 * a.1)) + 1)))) + 1))).bind fun j=>(f h j).bind fun k=>some (decide (k < 0))) (some false)).bind fun l=>(cond l (some (w64 ((w64 ((w64 (2 * a.1)) + 1)) + 1))) (some (w64 ((w64 (2 * a.1)) + 1)))).bind fun c=>(idx a.2 (w64 (b + a.1))).bind fun m=>(idx a.2 (w64 (b + c))).bind fun n=>(f m n).bind fun o=>cond (!(decide (o < 0))) (some (.inr a.2)) ((idx a.2 (w64 (b + c))).bind fun g=>(idx a.2 (w64 (b + a.1))).bind fun p=>(idx a.2 (w64 (b + a.1))).bind fun _=>(idx (a.2.set (w64 (b + a.1)).toNat g) (w64 (b + c))).bind fun _=>some (.inl (c,(a.2.set (w64 (b + a.1)).toNat g).set (w64 (b + c)).toNat p))))
noncomputable def q7n (a : qn→qn→Option Int) (b : List qn) (c : Int) (d : Int) (f : Int) : Option (List qn):=
  (loop (qar d f a) (c,b)).bind fun g=>some g
noncomputable def qa5 (d : qn→qn→Option Int) (f : Int) (b : Int) (a : Int × List qn) : Option ((Int × List qn) ⊕ (List qn)):=
  cond (decide (a.1 ≥ 0)) ((q7n d a.2 a.1 (w64 (f - b)) b).bind fun c=>(K4 c.length a.2.length).bind fun _=>some (.inl (w64 (a.1 - 1),c))) (some (.inr a.2))
noncomputable def qa6 (b : Int) (g : qn→qn→Option Int) (a : Int × List qn) : Option ((Int × List qn) ⊕ (List qn)):=
  cond (decide (a.1 ≥ 0)) ((idx a.2 (w64 (b + a.1))).bind fun c=>(idx a.2 b).bind fun d=>(idx a.2 b).bind fun _=>(idx (a.2.set b.toNat c) (w64 (b + a.1))).bind fun _=>(q7n g ((a.2.set b.toNat c).set (w64 (b + a.1)).toNat d) 0 a.1 b).bind fun f=>(K4 f.length ((a.2.set b.toNat c).set (w64 (b + a.1)).toNat d).length).bind fun _=>some (.inl (w64 (a.1 - 1),f))) (some (.inr a.2))
noncomputable def qa4 (c : qn→qn→Option Int) (d : List qn) (a : Int) (b : Int) : Option (List qn):=
  (loop (qa5 c b a) (w64 (Int.tdiv (w64 ((w64 (b - a)) - 1)) 2),d)).bind fun f=>(loop (qa6 a c) (w64 ((w64 (b - a)) - 1),f)).bind fun g=>some g
noncomputable def q4f (f : qn→qn→Option Int) (c : List qn) (a : Int) (b : Int) (d : Int) : Option (Int × Int × Int):=
  (idx c b).bind fun g=>(idx c a).bind fun h=>(f g h).bind fun j=>cond (decide (j < 0)) (some (b,a,w64 (d + 1))) (some (a,b,d))
noncomputable def q73 (a : qn→qn→Option Int) (b : List qn) (g : Int) (h : Int) (j : Int) (k : Int) : Option (Int × Int):=
  (q4f a b g h k).bind fun c=>(q4f a b c.2.1 j c.2.2).bind fun d=>(q4f a b c.1 d.1 d.2.2).bind fun f=>some (f.2.1,f.2.2)
noncomputable def q4d (c : qn→qn→Option Int) (d : List qn) (a : Int) (f : Int) : Option (Int × Int):=
  (q73 c d (w64 (a - 1)) a (w64 (a + 1)) f).bind fun b=>some (b.1,b.2)
noncomputable def qa3 (d : List qn) (a : Int) (b : Int) (f : qn→qn→Option Int) : Option (Int × Int):=
  (cond (decide ((w64 (b - a)) ≥ 8)) ((cond (decide ((w64 (b - a)) ≥ 50)) ((q4d f d (w64 (a + (w64 ((w64 (Int.tdiv (w64 (b - a)) 4)) * 1)))) 0).bind fun h=>(q4d f d (w64 (a + (w64 ((w64 (Int.tdiv (w64 (b - a)) 4)) * 2)))) h.2).bind fun j=>(q4d f d (w64 (a + (w64 ((w64 (Int.tdiv (w64 (b - a)) 4)) * 3)))) j.2).bind fun k=>some (h.1,j.1,k.1,k.2)) (some (w64 (a + (w64 ((w64 (Int.tdiv (w64 (b - a)) 4)) * 1))),w64 (a + (w64 ((w64 (Int.tdiv (w64 (b - a)) 4)) * 2))),w64 (a + (w64 ((w64 (Int.tdiv (w64 (b - a)) 4)) * 3))),0))).bind fun g=>(q73 f d g.1 g.2.1 g.2.2.1 g.2.2.2).bind fun l=>some (l.1,l.2)) (some (w64 (a + (w64 ((w64 (Int.tdiv (w64 (b - a)) 4)) * 2))),0))).bind fun c=>cond (c.2 == 0) (some (c.1,1)) (cond (c.2 == 12) (some (c.1,2)) (some (c.1,0)))
noncomputable def qap (a : Int × Int × List qn) : Option ((Int × Int × List qn) ⊕ (List qn)):=
  cond (decide (a.1 < a.2.1)) ((idx a.2.2 a.2.1).bind fun b=>(idx a.2.2 a.1).bind fun c=>(idx a.2.2 a.1).bind fun _=>(idx (a.2.2.set a.1.toNat b) a.2.1).bind fun _=>some (.inl (w64 (a.1 + 1),w64 (a.2.1 - 1),(a.2.2.set a.1.toNat b).set a.2.1.toNat c))) (some (.inr a.2.2))
noncomputable def qao (f : qn→qn→Option Int) (a : List qn) (b : Int) (c : Int) : Option (List qn):=
  (loop qap (b,w64 (c - 1),a)).bind fun d=>some d
noncomputable def qaa (c : Int) (b : Int × Int × List qn) (d : qn→qn→Option Int) (a : Int) : Option ((Int) ⊕ (Int)):=
  (cond (decide (a < c)) ((idx b.2.2 a).bind fun f=>(idx b.2.2 (w64 (a - 1))).bind fun g=>(d f g).bind fun h=>some (!(decide (h < 0)))) (some false)).bind fun j=>cond j (some (.inl (w64 (a + 1)))) (some (.inr a))
noncomputable def qab (c : qn→qn→Option Int) (a : Int × List qn) : Option ((Int × List qn) ⊕ (List qn)):=
  cond (decide (a.1 ≥ 1)) ((idx a.2 a.1).bind fun d=>(idx a.2 (w64 (a.1 - 1))).bind fun f=>(c d f).bind fun g=>cond (!(decide (g < 0))) (some (.inr a.2)) ((idx a.2 (w64 (a.1 - 1))).bind fun b=>(idx a.2 a.1).bind fun h=>(idx a.2 a.1).bind fun _=>(idx (a.2.set a.1.toNat b) (w64 (a.1 - 1))).bind fun _=>some (.inl (w64 (a.1 - 1),(a.2.set a.1.toNat b).set (w64 (a.1 - 1)).toNat h)))) (some (.inr a.2))
noncomputable def qac (d : Int) (f : qn→qn→Option Int) (b : Int) (a : Int × List qn) : Option ((Int × List qn) ⊕ (Int × List qn)):=
  cond (decide (a.1 < d)) ((idx a.2 a.1).bind fun g=>(idx a.2 (w64 (a.1 - 1))).bind fun h=>(f g h).bind fun j=>cond (!(decide (j < 0))) (some (.inr (b,a.2))) ((idx a.2 (w64 (a.1 - 1))).bind fun c=>(idx a.2 a.1).bind fun k=>(idx a.2 a.1).bind fun _=>(idx (a.2.set a.1.toNat c) (w64 (a.1 - 1))).bind fun _=>some (.inl (w64 (a.1 + 1),(a.2.set a.1.toNat c).set (w64 (a.1 - 1)).toNat k)))) (some (.inr (b,a.2)))
noncomputable def q75 (c : Int) (d : qn→qn→Option Int) (h : Int) (b : Int × Int × List qn) : Option ((Int × Int × List qn) ⊕ ((List qn) ⊕ (Bool × List qn))):=
  cond (decide (b.2.1 < 5)) (((loop (qaa c b d) b.1).bind fun a=>cond (a == c) (some (.inr (true,b.2.2))) (cond (decide ((w64 (c - h)) < 50)) (some (.inr (false,b.2.2))) ((idx b.2.2 (w64 (a - 1))).bind fun f=>(idx b.2.2 a).bind fun j=>(idx b.2.2 a).bind fun _=>(idx (b.2.2.set a.toNat f) (w64 (a - 1))).bind fun _=>(cond (decide ((w64 (a - h)) ≥ 2)) ((loop (qab d) (w64 (a - 1),(b.2.2.set a.toNat f).set (w64 (a - 1)).toNat j)).bind fun g=>some g) (some ((b.2.2.set a.toNat f).set (w64 (a - 1)).toNat j))).bind fun k=>cond (decide ((w64 (c - a)) ≥ 2)) ((loop (qac c d a) (w64 (a + 1),k)).bind fun g=>some (.inl g)) (some (.inl (a,k))))) : Option ((Int × List qn) ⊕ (Bool × List qn))).bind fun m=>(match m with | .inl l=>some (.inl (l.1,w64 (b.2.1 + 1),l.2)) | .inr n=>some (.inr (.inr n)))) (some (.inr (.inl b.2.2)))
noncomputable def q74 (b : qn→qn→Option Int) (c : List qn) (a : Int) (d : Int) : Option (Bool × List qn):=
  (loop (q75 d b a) (w64 (a + 1),0,c) : Option ((List qn) ⊕ (Bool × List qn))).bind fun f=>(match f with | .inl g=>some (false,g) | .inr h=>some h)
noncomputable def qam (b : Int × Int × List qn) (c : Int) (d : qn→qn→Option Int) (a : Int) : Option ((Int) ⊕ (Int)):=
  (cond (decide (a≤b.2.1)) ((idx b.2.2 c).bind fun f=>(idx b.2.2 a).bind fun g=>(d f g).bind fun h=>some (!(decide (h < 0)))) (some false)).bind fun j=>cond j (some (.inl (w64 (a + 1)))) (some (.inr a))
noncomputable def qan (c : Int) (b : Int × Int × List qn) (d : Int) (f : qn→qn→Option Int) (a : Int) : Option ((Int) ⊕ (Int)):=
  (cond (decide (c≤a)) ((idx b.2.2 d).bind fun g=>(idx b.2.2 a).bind fun h=>(f g h).bind fun j=>some (decide (j < 0))) (some false)).bind fun k=>cond k (some (.inl (w64 (a - 1)))) (some (.inr a))
noncomputable def qal (d : Int) (f : qn→qn→Option Int) (a : Int × Int × List qn) : Option ((Int × Int × List qn) ⊕ (Int × List qn)):=
  (loop (qam a d f) a.1).bind fun b=>(loop (qan b a d f) a.2.1).bind fun c=>cond (decide (b > c)) (some (.inr (b,a.2.2))) ((idx a.2.2 c).bind fun g=>(idx a.2.2 b).bind fun h=>(idx a.2.2 b).bind fun _=>(idx (a.2.2.set b.toNat g) c).bind fun _=>some (.inl (w64 (b + 1),w64 (c - 1),(a.2.2.set b.toNat g).set c.toNat h)))
noncomputable def qak (g : qn→qn→Option Int) (b : List qn) (a : Int) (h : Int) (c : Int) : Option (Int × List qn):=
  (idx b c).bind fun d=>(idx b a).bind fun j=>(idx b a).bind fun _=>(idx (b.set a.toNat d) c).bind fun _=>(loop (qal a g) (w64 (a + 1),w64 (h - 1),(b.set a.toNat d).set c.toNat j)).bind fun f=>some (f.1,f.2)
noncomputable def qaf (h : Int) (c : List qn) (b : Int) (d : qn) (f : Int) (g : qn) (j : qn→qn→Option Int) (a : Int) : Option ((Int) ⊕ (Int)):=
  (cond (decide (a≤(w64 (h - 1)))) ((idx ((c.set b.toNat d).set f.toNat g) a).bind fun k=>(idx ((c.set b.toNat d).set f.toNat g) b).bind fun l=>(j k l).bind fun m=>some (decide (m < 0))) (some false)).bind fun n=>cond n (some (.inl (w64 (a + 1)))) (some (.inr a))
noncomputable def qag (h : Int) (c : List qn) (b : Int) (d : qn) (f : Int) (g : qn) (j : qn→qn→Option Int) (a : Int) : Option ((Int) ⊕ (Int)):=
  (cond (decide (h≤a)) ((idx ((c.set b.toNat d).set f.toNat g) a).bind fun k=>(idx ((c.set b.toNat d).set f.toNat g) b).bind fun l=>(j k l).bind fun m=>some (!(decide (m < 0)))) (some false)).bind fun n=>cond n (some (.inl (w64 (a - 1)))) (some (.inr a))
noncomputable def qai (b : Int × Int × List qn) (c : Int) (d : qn→qn→Option Int) (a : Int) : Option ((Int) ⊕ (Int)):=
  (cond (decide (a≤b.2.1)) ((idx b.2.2 a).bind fun f=>(idx b.2.2 c).bind fun g=>(d f g).bind fun h=>some (decide (h < 0))) (some false)).bind fun j=>cond j (some (.inl (w64 (a + 1)))) (some (.inr a))
noncomputable def qaj (c : Int) (b : Int × Int × List qn) (d : Int) (f : qn→qn→Option Int) (a : Int) : Option ((Int) ⊕ (Int)):=
  (cond (decide (c≤a)) ((idx b.2.2 a).bind fun g=>(idx b.2.2 d).bind fun h=>(f g h).bind fun j=>some (!(decide (j < 0)))) (some false)).bind fun k=>cond k (some (.inl (w64 (a - 1)))) (some (.inr a))
noncomputable def qah (d : Int) (f : qn→qn→Option Int) (a : Int × Int × List qn) : Option ((Int × Int × List qn) ⊕ (Int × List qn)):=
  (loop (qai a d f) a.1).bind fun b=>(loop (qaj b a d f) a.2.1).bind fun c=>cond (decide (b > c)) (some (.inr (c,a.2.2))) ((idx a.2.2 c).bind fun g=>(idx a.2.2 b).bind fun h=>(idx a.2.2 b).bind fun _=>(idx (a.2.2.set b.toNat g) c).bind fun _=>some (.inl (w64 (b + 1),w64 (c - 1),(a.2.2.set b.toNat g).set c.toNat h)))
noncomputable def qae (k : qn→qn→Option Int) (b : List qn) (a : Int) (l : Int) (c : Int) : Option (Int × Bool × List qn):=
  (idx b c).bind fun d=>(idx b a).bind fun f=>(idx b a).bind fun _=>(idx (b.set a.toNat d) c).bind fun _=>(loop (qaf l b a d c f k) (w64 (a + 1))).bind fun j=>(loop (qag j b a d c f k) (w64 (l - 1))).bind fun g=>cond (decide (j > g)) ((idx ((b.set a.toNat d).set c.toNat f) a).bind fun m=>(idx ((b.set a.toNat d).set c.toNat f) g).bind fun p=>(idx ((b.set a.toNat d).set c.toNat f) g).bind fun _=>(idx (((b.set a.toNat d).set c.toNat f).set g.toNat m) a).bind fun _=>some (g,true,(((b.set a.toNat d).set c.toNat f).set g.toNat m).set a.toNat p)) ((idx ((b.set a.toNat d).set c.toNat f) g).bind fun n=>(idx ((b.set a.toNat d).set c.toNat f) j).bind fun q=>(idx ((b.set a.toNat d).set c.toNat f) j).bind fun _=>(idx (((b.set a.toNat d).set c.toNat f).set j.toNat n) g).bind fun _=>(loop (qah a k) (w64 (j + 1),w64 (g - 1),(((b.set a.toNat d).set c.toNat f).set j.toNat n).set g.toNat q)).bind fun h=>(idx h.2 a).bind fun o=>(idx h.2 h.1).bind fun r=>(idx h.2 h.1).bind fun _=>(idx (h.2.set h.1.toNat o) a).bind fun _=>some (h.1,false,(h.2.set h.1.toNat o).set a.toNat r))
noncomputable def qa2 (b : Int) (d : Int) (f : Int) (a : Int × List qn × Int) : Option ((Int × List qn × Int) ⊕ (List qn)):=
  cond (decide (a.1≤(w64 ((w64 (b + (w64 ((w64 (Int.tdiv (w64 (d - b)) 4)) * 2)))) + 1)))) ((q21 a.2.2).bind fun c=>(cond (decide ((w64 (andI .u64 c (IntKind.wrap .u64 (f - 1)))) ≥ (w64 (d - b)))) (some (w64 ((w64 (andI .u64 c (IntKind.wrap .u64 (f - 1)))) - (w64 (d - b))))) (some (w64 (andI .u64 c (IntKind.wrap .u64 (f - 1)))))).bind fun g=>(idx a.2.1 (w64 (b + g))).bind fun h=>(idx a.2.1 a.1).bind fun j=>(idx a.2.1 a.1).bind fun _=>(idx (a.2.1.set a.1.toNat h) (w64 (b + g))).bind fun _=>some (.inl (w64 (a.1 + 1),(a.2.1.set a.1.toNat h).set (w64 (b + g)).toNat j,c))) (some (.inr a.2.1))
noncomputable def qa1 (g : qn→qn→Option Int) (c : List qn) (a : Int) (b : Int) : Option (List qn):=
  cond (decide ((w64 (b - a)) ≥ 8)) ((q20 (w64 (b - a))).bind fun d=>(loop (qa2 a b d) (w64 ((w64 (a + (w64 ((w64 (Int.tdiv (w64 (b - a)) 4)) * 2)))) - 1),c,IntKind.wrap .u64 (w64 (b - a)))).bind fun f=>some f) (some c)
noncomputable def q7j (c : qn→qn→Option Int) (rec : List qn→Int→Int→Int→Option (List qn)) (a : Int × Int × Int × Bool × Bool × List qn) : Option ((Int × Int × Int × Bool × Bool × List qn) ⊕ (List qn)):=
  cond (decide ((w64 (a.2.1 - a.1))≤12)) ((qa7 c a.2.2.2.2.2 a.1 a.2.1).bind fun l=>(K4 l.length a.2.2.2.2.2.length).bind fun _=>some (.inr l)) (cond (a.2.2.1 == 0) ((qa4 c a.2.2.2.2.2 a.1 a.2.1).bind fun m=>(K4 m.length a.2.2.2.2.2.length).bind fun _=>some (.inr m)) ((cond (!a.2.2.2.1) ((qa1 c a.2.2.2.2.2 a.1 a.2.1).bind fun n=>(K4 n.length a.2.2.2.2.2.length).bind fun _=>some (w64 (a.2.2.1 - 1),n)) (some (a.2.2.1,a.2.2.2.2.2))).bind fun d=>(qa3 d.2 a.1 a.2.1 c).bind fun h=>(cond (h.2 == 2) ((qao c d.2 a.1 a.2.1).bind fun o=>(K4 o.length d.2.length).bind fun _=>some (w64 ((w64 (a.2.1 - 1)) - (w64 (h.1 - a.1))),1,o)) (some (h.1,h.2,d.2))).bind fun f=>(cond a.2.2.2.1 (some a.2.2.2.2.1) (some false)).bind fun r=>(cond r (some (f.2.1 == 1)) (some false)).bind fun s=>(cond s ((q74 c f.2.2 a.1 a.2.1).bind fun j=>(K4 j.2.length f.2.2.length).bind fun _=>cond j.1 (some (.inr j.2)) (some (.inl j.2))) (some (.inl f.2.2)) : Option ((List qn) ⊕ (List qn))).bind fun t=>(match t with | .inl g=>(cond (decide (a.1 > 0)) ((idx g (w64 (a.1 - 1))).bind fun u=>(idx g f.1).bind fun v=>(c u v).bind fun w=>some (!(decide (w < 0)))) (some false)).bind fun x=>cond x ((qak c g a.1 a.2.1 f.1).bind fun k=>(K4 k.2.length g.length).bind fun _=>some (.inl (k.1,a.2.1,d.1,a.2.2.2.1,a.2.2.2.2.1,k.2))) ((qae c g a.1 a.2.1 f.1).bind fun b=>(K4 b.2.2.length g.length).bind fun _=>cond (decide ((w64 (b.1 - a.1)) < (w64 (a.2.1 - b.1)))) ((rec b.2.2 a.1 b.1 d.1).bind fun p=>(K4 p.length b.2.2.length).bind fun _=>some (.inl (w64 (b.1 + 1),a.2.1,d.1,decide ((w64 (b.1 - a.1)) ≥ (w64 (Int.tdiv (w64 (a.2.1 - a.1)) 8))),b.2.1,p))) ((rec b.2.2 (w64 (b.1 + 1)) a.2.1 d.1).bind fun q=>(K4 q.length b.2.2.length).bind fun _=>some (.inl (a.1,b.1,d.1,decide ((w64 (a.2.1 - b.1)) ≥ (w64 (Int.tdiv (w64 (a.2.1 - a.1)) 8))),b.2.1,q)))) | .inr y=>some (.inr y))))
noncomputable def q7k (rec : List qn→Int→Int→Int→Option (List qn)) (a : qn→qn→Option Int) (b : List qn) (c : Int) (d : Int) (f : Int) : Option (List qn):=
  (loop (q7j a rec) (c,d,f,true,true,b)).bind fun g=>some g
noncomputable def q7i : Nat→(qn→qn→Option Int)→List qn→Int→Int→Int→Option (List qn)
  | 0,_,_,_,_,_=>none
  | n + 1,a,b,c,d,f=>q7k (q7i n a) a b c d f
noncomputable def q6t (c : qn→qn→Option Int) (a : List qn) : Option (List qn):=
  (q12 (IntKind.wrap .u64 (a.length : Int))).bind fun d=>(lim (fun n=>q7i n c a 0 (a.length : Int) d)).bind fun b=>(K4 b.length a.length).bind fun _=>some b
noncomputable def qdr (a : List qn) : Option (List qn):=
  some a
noncomputable def q4n (b : List qk) (c : Int × List qn) (a : Int × List qn) : Option ((Int × List qn) ⊕ (List qn)):=
  cond (decide (a.1 < (b.length : Int))) ((idx b a.1).bind fun d=>(app 24 a.2 [({at_:=d.Lo,list_:=c.1,by_:=1} : qn),({at_:=d.Hi,list_:=c.1,by_:=(-1)} : qn)]).bind fun f=>some (.inl (w64 (a.1 + 1),f))) (some (.inr a.2))
noncomputable def q15 (b : List (List qk)) (a : Int × List qn) : Option ((Int × List qn) ⊕ (List qn)):=
  cond (decide (a.1 < (b.length : Int))) (((idx b a.1).bind fun c=>(loop (q4n c a) (0,a.2)).bind fun d=>some d).bind fun f=>some (.inl (w64 (a.1 + 1),f))) (some (.inr a.2))
noncomputable def qb3 (b : List (List qk)) : Option (List (List qk) × List qn):=
  (loop (q15 b) (0,[])).bind fun c=>(q6t (fun f g=>qb2 f g) c).bind fun a=>(K4 a.length c.length).bind fun _=>(qdr a).bind fun d=>(K4 d.length a.length).bind fun _=>some (b,d)
noncomputable def qb4 (d : Int) (c : Bool) (b : Int) (a : List qk) : Option (Bool × Int × List qk):=
  (cond (!c) (some true) (some (b == d))).bind fun f=>cond f (some (c,b,a)) ((cond (decide ((a.length : Int) > 0)) ((idx a (w64 ((a.length : Int) - 1))).bind fun g=>some (g.Hi == b)) (some false)).bind fun h=>cond h ((idx a (w64 ((a.length : Int) - 1))).bind fun j=>some (c,b,a.set (w64 ((a.length : Int) - 1)).toNat ({Lo:=j.Lo,Hi:=d} : qk))) ((app 16 a [({Lo:=b,Hi:=d} : qk)]).bind fun k=>some (c,b,k)))
noncomputable def q4o (f : List (List qk) × List qn) (g : Bool→Bool→Option Bool) (a : Int × List Int × Int × Bool × List qk) : Option ((Int × List Int × Int × Bool × List qk) ⊕ (List qk)):=
  cond (decide (a.1 < (f.2.length : Int))) ((idx f.2 a.1).bind fun b=>((qb4 b.at_ a.2.2.2.1 a.2.2.1 a.2.2.2.2).bind fun h=>(idxA 2 a.2.1 b.list_).bind fun c=>(idxA 2 a.2.1 b.list_).bind fun _=>(idxA 2 (a.2.1.set b.list_.toNat (w64 (c + b.by_))) 0).bind fun j=>(idxA 2 (a.2.1.set b.list_.toNat (w64 (c + b.by_))) 1).bind fun k=>(g (decide (j > 0)) (decide (k > 0))).bind fun l=>some (a.2.1.set b.list_.toNat (w64 (c + b.by_)),l,h.2.2)).bind fun d=>some (.inl (w64 (a.1 + 1),d.1,b.at_,d.2.1,d.2.2))) (some (.inr a.2.2.2.2))
noncomputable def q3a (a : List qk) (b : List qk) (d : Bool→Bool→Option Bool) : Option (List qk):=
  (qb3 [a,b]).bind fun c=>(K4 c.1.length [a,b].length).bind fun _=>((loop (q4o c d) (0,[0,0],0,false,[])).bind fun f=>some f).bind fun g=>some g
noncomputable def qb0 (a : Bool) (b : Bool) : Option Bool:=
  some a
noncomputable def q7x (a : List qk) : Option (List qk × Int):=
  cond (decide ((a.length : Int) > 400)) (some ([],4)) ((q9y a (fun b=>qdz b)).bind fun c=>cond c (some ([],8)) ((q3a a [] (fun b d=>qb0 b d)).bind fun f=>some (f,0)))
noncomputable def qdk (b : List qk) (f : List qk) (a : Int) : Option ((Int) ⊕ ((Unit) ⊕ (Bool))):=
  cond (decide (a < (b.length : Int))) ((idx b a).bind fun c=>(idx f a).bind fun d=>cond (!((c.Lo == d.Lo) && ((c.Hi == d.Hi) && true))) (some (.inr (.inr false))) (some (.inl (w64 (a + 1))))) (some (.inr (.inl ())))
noncomputable def q9z (a : List qk) (b : List qk) : Option Bool:=
  cond ((a.length : Int) != (b.length : Int)) (some false) ((loop (qdk a b) 0 : Option ((Unit) ⊕ (Bool))).bind fun c=>(match c with | .inl _=>some true | .inr d=>some d))
noncomputable def q6f (c : Int) (a : Int × List qi) : Option ((Int × List qi) ⊕ (List qi)):=
  cond (decide (a.1 < (a.2.length : Int))) ((idx a.2 a.1).bind fun b=>some (.inl (w64 (a.1 + 1),a.2.set a.1.toNat ({X0:=b.X0,Y0:=b.Y0,X1:=c,Y1:=b.Y1} : qi)))) (some (.inr a.2))
noncomputable def q6g (b : List qk) (f : Int) (c : Int) (g : List qi) (a : Int × List qi) : Option ((Int × List qi) ⊕ (List qk × Int × Int × List qi)):=
  cond (decide (a.1 < (b.length : Int))) ((idx b a.1).bind fun d=>(app 32 a.2 [({X0:=f,Y0:=d.Lo,X1:=c,Y1:=d.Hi} : qi)]).bind fun h=>some (.inl (w64 (a.1 + 1),h))) (some (.inr (b,(g.length : Int),c,a.2)))
noncomputable def q6e (a : List qi) (d : List qk) (f : Int) (h : Int) (g : Int) (b : Int) (c : List qk) : Option (List qk × Int × Int × List qi):=
  (cond (decide ((c.length : Int) > 0)) (some (h == g)) (some false)).bind fun j=>(cond j ((q9z d c).bind fun k=>some k) (some false)).bind fun l=>cond l ((loop (q6f b) (f,a)).bind fun m=>some (d,f,b,m)) ((loop (q6g c g b a) (0,a)).bind fun n=>some n)
noncomputable def J6 (b : List qi) (a : Int × List Int) : Option ((Int × List Int) ⊕ (List Int)):=
  cond (decide (a.1 < (b.length : Int))) ((idx b a.1).bind fun c=>(app 8 a.2 [c.X0,c.X1]).bind fun d=>some (.inl (w64 (a.1 + 1),d))) (some (.inr a.2))
noncomputable def Um (c : List qi) (d : Int) (a : Int × List qk) : Option ((Int × List qk) ⊕ (List qk)):=
  cond (decide (a.1 < (c.length : Int))) (((idx c a.1).bind fun b=>(cond (decide (b.X0≤d)) (some (decide (d < b.X1))) (some false)).bind fun f=>cond f ((app 16 a.2 [({Lo:=b.Y0,Hi:=b.Y1} : qk)]).bind fun g=>some g) (some a.2)).bind fun h=>some (.inl (w64 (a.1 + 1),h))) (some (.inr a.2))
noncomputable def q30 (d : List Int) (g : List qi) (a : Int × List qk × Int × Int × List qi) : Option ((Int × List qk × Int × Int × List qi) ⊕ (List qk × Int × Int × List qi)):=
  cond (decide (a.1 < (d.length : Int))) ((idx d (w64 (a.1 - 1))).bind fun f=>(idx d a.1).bind fun h=>((idx [g] 0).bind fun j=>(loop (Um j f) (0,[])).bind fun k=>some k).bind fun l=>((q7x l).bind fun m=>(q6e a.2.2.2.2 a.2.1 a.2.2.1 a.2.2.2.1 f h m.1).bind fun b=>some (b.1,b.2.1,b.2.2.1,b.2.2.2)).bind fun c=>some (.inl (w64 (a.1 + 1),c.1,c.2.1,c.2.2.1,c.2.2.2))) (some (.inr (a.2.1,a.2.2.1,a.2.2.2.1,a.2.2.2.2)))
noncomputable def q6h (d : List qi) : Option (List qi × Int):=
  (((idx [d] 0).bind fun j=>(loop (J6 j) (0,[])).bind fun b=>some b).bind fun f=>(U7 f).bind fun c=>(K4 c.length f.length).bind fun _=>(q14 c).bind fun a=>(K4 a.2.length c.length).bind fun _=>(q17 a.2.length a.1).bind fun _=>some ((a.2.drop a.1.1).take a.1.2)).bind fun k=>((loop (q30 k d) (1,[],0,0,[])).bind fun b=>some b).bind fun g=>(cond (decide ((g.2.2.2.length : Int) > 400)) (some (4,[])) (some (0,g.2.2.2))).bind fun h=>some (h.2,h.1)
noncomputable def q1x (a : List qi) : Option (List qi × Int):=
  cond (decide ((a.length : Int) > 400)) (some ([],4)) ((q9w a (fun c=>q2y c)).bind fun d=>cond d (some ([],8)) ((q6h a).bind fun b=>some (b.1,b.2)))
noncomputable def qdi (d : List qi) (f : List qi) (a : Int) : Option ((Int) ⊕ ((Unit) ⊕ (Bool))):=
  cond (decide (a < (d.length : Int))) ((idx d a).bind fun b=>(idx f a).bind fun c=>cond (!((b.X0 == c.X0) && ((b.Y0 == c.Y0) && ((b.X1 == c.X1) && ((b.Y1 == c.Y1) && true))))) (some (.inr (.inr false))) (some (.inl (w64 (a + 1))))) (some (.inr (.inl ())))
noncomputable def q6p (a : List qi) (b : List qi) : Option Bool:=
  cond ((a.length : Int) != (b.length : Int)) (some false) ((loop (qdi a b) 0 : Option ((Unit) ⊕ (Bool))).bind fun c=>(match c with | .inl _=>some true | .inr d=>some d))
noncomputable def q7s (c : Int) (a : Int × List qg) : Option ((Int × List qg) ⊕ (List qg)):=
  cond (decide (a.1 < (a.2.length : Int))) ((idx a.2 a.1).bind fun b=>some (.inl (w64 (a.1 + 1),a.2.set a.1.toNat ({Lo:=b.Lo,Hi:=({X:=b.Hi.X,Y:=b.Hi.Y,Z:=c} : Q3)} : qg)))) (some (.inr a.2))
noncomputable def q7t (c : List qi) (f : Int) (d : Int) (g : List qg) (a : Int × List qg) : Option ((Int × List qg) ⊕ (List qi × Int × Int × List qg)):=
  cond (decide (a.1 < (c.length : Int))) ((idx c a.1).bind fun b=>(app 48 a.2 [({Lo:=({X:=b.X0,Y:=b.Y0,Z:=f} : Q3),Hi:=({X:=b.X1,Y:=b.Y1,Z:=d} : Q3)} : qg)]).bind fun h=>some (.inl (w64 (a.1 + 1),h))) (some (.inr (c,(g.length : Int),d,a.2)))
noncomputable def q7r (a : List qg) (d : List qi) (f : Int) (h : Int) (g : Int) (b : Int) (c : List qi) : Option (List qi × Int × Int × List qg):=
  (cond (decide ((c.length : Int) > 0)) (some (h == g)) (some false)).bind fun j=>(cond j ((q6p d c).bind fun k=>some k) (some false)).bind fun l=>cond l ((loop (q7s b) (f,a)).bind fun m=>some (d,f,b,m)) ((loop (q7t c g b a) (0,a)).bind fun n=>some n)
noncomputable def q23 (b : List qg) (a : Int × List Int) : Option ((Int × List Int) ⊕ (List Int)):=
  cond (decide (a.1 < (b.length : Int))) ((idx b a.1).bind fun c=>(app 8 a.2 [c.Lo.Z,c.Hi.Z]).bind fun d=>some (.inl (w64 (a.1 + 1),d))) (some (.inr a.2))
noncomputable def q24 (c : List qg) (d : Int) (a : Int × List qi) : Option ((Int × List qi) ⊕ (List qi)):=
  cond (decide (a.1 < (c.length : Int))) (((idx c a.1).bind fun b=>(cond (decide (b.Lo.Z≤d)) (some (decide (d < b.Hi.Z))) (some false)).bind fun f=>cond f ((app 32 a.2 [({X0:=b.Lo.X,Y0:=b.Lo.Y,X1:=b.Hi.X,Y1:=b.Hi.Y} : qi)]).bind fun g=>some g) (some a.2)).bind fun h=>some (.inl (w64 (a.1 + 1),h))) (some (.inr a.2))
noncomputable def q4m (d : List Int) (h : List qg) (a : Int × List qi × Int × Int × List qg) : Option ((Int × List qi × Int × Int × List qg) ⊕ ((List qi × Int × Int × List qg) ⊕ (List qg × Int))):=
  cond (decide (a.1 < (d.length : Int))) ((idx d (w64 (a.1 - 1))).bind fun g=>(idx d a.1).bind fun j=>((idx [h] 0).bind fun k=>(loop (q24 k g) (0,[])).bind fun l=>some l).bind fun m=>((q1x m).bind fun f=>cond (f.2 != 0) (some (.inr ([],f.2))) ((q7r a.2.2.2.2 a.2.1 a.2.2.1 a.2.2.2.1 g j f.1).bind fun b=>some (.inl (b.1,b.2.1,b.2.2.1,b.2.2.2))) : Option ((List qi × Int × Int × List qg) ⊕ (List qg × Int))).bind fun n=>(match n with | .inl c=>some (.inl (w64 (a.1 + 1),c.1,c.2.1,c.2.2.1,c.2.2.2)) | .inr o=>some (.inr (.inr o)))) (some (.inr (.inl (a.2.1,a.2.2.1,a.2.2.2.1,a.2.2.2.2))))
noncomputable def q7w (f : List qg) : Option (List qg × Int):=
  (((idx [f] 0).bind fun j=>(loop (q23 j) (0,[])).bind fun b=>some b).bind fun g=>(U7 g).bind fun c=>(K4 c.length g.length).bind fun _=>(q14 c).bind fun a=>(K4 a.2.length c.length).bind fun _=>(q17 a.2.length a.1).bind fun _=>some ((a.2.drop a.1.1).take a.1.2)).bind fun k=>((loop (q4m k f) (1,[],0,0,[]) : Option ((List qi × Int × Int × List qg) ⊕ (List qg × Int))).bind fun l=>(match l with | .inl b=>some (.inl b) | .inr d=>some (.inr d)) : Option ((List qi × Int × Int × List qg) ⊕ (List qg × Int))).bind fun m=>(match m with | .inl h=>cond (decide ((h.2.2.2.length : Int) > 400)) (some ([],4)) (some (h.2.2.2,0)) | .inr d=>some d)
noncomputable def qh6 (d : List qg) (f : List qg) (c : Int) : Option ((Int) ⊕ ((Unit) ⊕ (Bool))):=
  cond (decide (c < (d.length : Int))) ((idx d c).bind fun a=>(idx f c).bind fun b=>cond (!((a.Lo.X == b.Lo.X) && ((a.Lo.Y == b.Lo.Y) && ((a.Lo.Z == b.Lo.Z) && ((a.Hi.X == b.Hi.X) && ((a.Hi.Y == b.Hi.Y) && ((a.Hi.Z == b.Hi.Z) && true))))))) (some (.inr (.inr false))) (some (.inl (w64 (c + 1))))) (some (.inr (.inl ())))
noncomputable def qdj (a : List qg) (b : List qg) : Option Bool:=
  cond ((a.length : Int) != (b.length : Int)) (some false) ((loop (qh6 a b) 0 : Option ((Unit) ⊕ (Bool))).bind fun c=>(match c with | .inl _=>some true | .inr d=>some d))
noncomputable def q22 (a : List qg) : Option Int:=
  cond (decide ((a.length : Int) > 400)) (some 4) ((Un a (fun c=>q37 c)).bind fun d=>cond d (some 8) ((q7w a).bind fun b=>(cond (b.2 != 0) (some true) ((qdj b.1 a).bind fun f=>some (!f))).bind fun g=>cond g (some 8) (some 0)))
noncomputable def qbe (a : K1) : Option Bool:=
  some (decide (a.Depth < 0))
noncomputable def q86 (b : List (List qg)) (a : Int) : Option ((Int) ⊕ ((Unit) ⊕ (Int))):=
  cond (decide (a < (b.length : Int))) ((idx b a).bind fun d=>(q22 d).bind fun c=>cond (c != 0) (some (.inr (.inr c))) (some (.inl (w64 (a + 1))))) (some (.inr (.inl ())))
noncomputable def qbd (a : Qv) (b : List (List qg)) : Option Int:=
  (q4x a).bind fun c=>cond (c.2 != 0) (some c.2) (cond (decide ((b.length : Int) > 20)) (some 4) ((loop (q86 b) 0 : Option ((Unit) ⊕ (Int))).bind fun d=>(match d with | .inl _=>(cond (decide ((a.Lines.length : Int) > 0)) (some ((b.length : Int) == 0)) (some false)).bind fun f=>cond f (some 6) ((q6o a.Lines (fun g=>qbe g)).bind fun h=>cond h (some 2) (some 0)) | .inr j=>some j)))
noncomputable def qbf (a : Q3) : Option Bool:=
  (cond (decide ((min (min a.X a.Y) a.Z) ≥ (-1000000))) (some (decide ((max (max a.X a.Y) a.Z)≤1000000))) (some false)).bind fun b=>some b
noncomputable def q4a (b : List qg) (c : qg→Option Bool) (a : Int) : Option ((Int) ⊕ ((Unit) ⊕ (Int))):=
  cond (decide (a < (b.length : Int))) ((idx b a).bind fun d=>(c d).bind fun f=>cond f (some (.inr (.inr a))) (some (.inl (w64 (a + 1))))) (some (.inr (.inl ())))
noncomputable def qdl (a : List qg) (b : qg→Option Bool) : Option Int:=
  (loop (q4a a b) 0 : Option ((Unit) ⊕ (Int))).bind fun c=>(match c with | .inl _=>some (-1) | .inr d=>some d)
noncomputable def q9u (a : List qg) (b : qg→Option Bool) : Option Bool:=
  (qdl a b).bind fun c=>some (decide (c ≥ 0))
noncomputable def q38 (a : qg) : Option Bool:=
  (q7v a).bind fun b=>some (!b)
noncomputable def qau (a : List qg) : Option (List qg × Int):=
  cond (decide ((a.length : Int) > 400)) (some ([],4)) ((q9u a (fun c=>q38 c)).bind fun d=>cond d (some ([],8)) ((q7w a).bind fun b=>some (b.1,b.2)))
noncomputable def q4v (d : List qg) (a : K1) (c : Int × List qg) : Option ((Int × List qg) ⊕ ((List qg) ⊕ (List qg × Int))):=
  cond (decide (c.1 < (d.length : Int))) ((idx d c.1).bind fun b=>(qbf ({X:=w64 (b.Lo.X + (min a.From.X a.To.X)),Y:=w64 (b.Lo.Y + (min a.From.Y a.To.Y)),Z:=w64 (b.Lo.Z + (min a.From.Z a.To.Z))} : Q3)).bind fun f=>(cond (!f) (some true) ((qbf ({X:=w64 (b.Hi.X + (max a.From.X a.To.X)),Y:=w64 (b.Hi.Y + (max a.From.Y a.To.Y)),Z:=w64 (b.Hi.Z + (max a.From.Z a.To.Z))} : Q3)).bind fun g=>some (!g))).bind fun h=>cond h (some (.inr (.inr ([],16)))) ((app 48 c.2 [({Lo:=({X:=w64 (b.Lo.X + (min a.From.X a.To.X)),Y:=w64 (b.Lo.Y + (min a.From.Y a.To.Y)),Z:=w64 (b.Lo.Z + (min a.From.Z a.To.Z))} : Q3),Hi:=({X:=w64 (b.Hi.X + (max a.From.X a.To.X)),Y:=w64 (b.Hi.Y + (max a.From.Y a.To.Y)),Z:=w64 (b.Hi.Z + (max a.From.Z a.To.Z))} : Q3)} : qg)]).bind fun j=>some (.inl (w64 (c.1 + 1),j)))) (some (.inr (.inl c.2)))
noncomputable def q85 (b : K1) (c : List qg) : Option (List qg × Int):=
  (loop (q4v c b) (0,[]) : Option ((List qg) ⊕ (List qg × Int))).bind fun d=>(match d with | .inl f=>(qau f).bind fun a=>some (a.1,a.2) | .inr g=>some g)
noncomputable def q82 (c : Qv) (d : List (List qg)) (a : Int × List (List qg)) : Option ((Int × List (List qg)) ⊕ ((List (List qg)) ⊕ (List (List qg) × Int))):=
  cond (decide (a.1 < (c.Lines.length : Int))) ((idx c.Lines a.1).bind fun f=>(idx d (min f.Depth (w64 ((d.length : Int) - 1)))).bind fun g=>(q85 f g).bind fun b=>(cond (b.2 != 0) (some (.inr ([],b.2))) ((app 24 a.2 [b.1]).bind fun h=>some (.inl h)) : Option ((List (List qg)) ⊕ (List (List qg) × Int))).bind fun j=>(match j with | .inl k=>some (.inl (w64 (a.1 + 1),k)) | .inr l=>some (.inr (.inr l)))) (some (.inr (.inl a.2)))
noncomputable def q81 (b : Qv) (c : List (List qg)) : Option (List (List qg) × Int):=
  (qbd b c).bind fun d=>cond (d != 0) (some ([],d)) ((some ()).bind fun _=>((loop (q82 b c) (0,[]) : Option ((List (List qg)) ⊕ (List (List qg) × Int))).bind fun f=>(match f with | .inl g=>some (.inl g) | .inr a=>some (.inr a)) : Option ((List (List qg)) ⊕ (List (List qg) × Int))).bind fun h=>(match h with | .inl j=>some (j,0) | .inr a=>some a))
noncomputable def q5y (a : Yg) : Option Int:=
  (cond (decide (a.Turn ≥ 24)) (some true) ((Zv a.At (-1000000)).bind fun b=>some (!b))).bind fun c=>cond c (some 8) (some 0)
noncomputable def q5z (d : Qv) (a : Int) : Option ((Int) ⊕ ((Unit) ⊕ (Int))):=
  cond (decide (a < (d.Lines.length : Int))) ((idx d.Lines a).bind fun b=>(idx d.Lines a).bind fun c=>(cond (b.From.X != c.To.X) (some (w64 (0 + 1))) (some 0)).bind fun f=>(cond (b.From.Y != c.To.Y) (some (w64 (f + 1))) (some f)).bind fun g=>(cond (b.From.Z != c.To.Z) (some (w64 (g + 1))) (some g)).bind fun h=>(cond (decide (h > 1)) (some true) ((Zv b.From (-1000000)).bind fun j=>some (!j))).bind fun k=>(cond k (some true) ((Zv c.To (-1000000)).bind fun l=>some (!l))).bind fun m=>cond m (some (.inr (.inr 8))) (some (.inl (w64 (a + 1))))) (some (.inr (.inl ())))
noncomputable def q60 (b : Qv) (a : Int) : Option ((Int) ⊕ ((Unit) ⊕ (Int))):=
  cond (decide (a < (b.Marks.length : Int))) ((idx b.Marks a).bind fun c=>(q5y c.Frame).bind fun d=>cond (d != 0) (some (.inr (.inr 8))) (some (.inl (w64 (a + 1))))) (some (.inr (.inl ())))
noncomputable def q9h (a : Qv) : Option Int:=
  (cond (decide ((a.Lines.length : Int) > 2000)) (some true) (some (decide ((a.Marks.length : Int) > 2000)))).bind fun c=>(cond c (some true) ((q5y a.End.Frame).bind fun d=>some (d != 0))).bind fun f=>cond f (some 8) ((loop (q5z a) 0 : Option ((Unit) ⊕ (Int))).bind fun g=>(match g with | .inl _=>(loop (q60 a) 0 : Option ((Unit) ⊕ (Int))).bind fun h=>(match h with | .inl _=>some 0 | .inr b=>some b) | .inr b=>some b))
noncomputable def q9m (a : qg) : Option Bool:=
  (Zv a.Lo (-1000000)).bind fun b=>(cond b ((Zv a.Hi (-1000000)).bind fun c=>some c) (some false)).bind fun d=>(cond d (some (decide (a.Lo.X < a.Hi.X))) (some false)).bind fun f=>(cond f (some (decide (a.Lo.Y < a.Hi.Y))) (some false)).bind fun g=>(cond g (some (decide (a.Lo.Z < a.Hi.Z))) (some false)).bind fun h=>some h
noncomputable def q3w (b : Int × List Int) (c : List Int) (a : Int) : Option ((Int) ⊕ (Int)):=
  (cond (decide (a > 0)) ((idx b.2 (w64 (a - 1))).bind fun d=>(idx c b.1).bind fun f=>some (decide (d > f))) (some false)).bind fun g=>cond g (some (.inl (w64 (a - 1)))) (some (.inr a))
noncomputable def q3v (d : List Int) (a : Int × List Int) : Option ((Int × List Int) ⊕ (List Int)):=
  cond (decide (a.1 < (d.length : Int))) (((loop (q3w a d) (a.2.length : Int)).bind fun c=>(cond (decide (c > 0)) ((idx a.2 (w64 (c - 1))).bind fun h=>(idx d a.1).bind fun j=>some (h == j)) (some false)).bind fun k=>cond k (some a.2) ((app 8 a.2 [0]).bind fun b=>(sub2 b.length (w64 (c + 1)) b.length).bind fun g=>(sub2 b.length c b.length).bind fun f=>(idx d a.1).bind fun l=>(idx (cpyw b g ((b.drop f.1).take f.2)) c).bind fun _=>some ((cpyw b g ((b.drop f.1).take f.2)).set c.toNat l))).bind fun m=>some (.inl (w64 (a.1 + 1),m))) (some (.inr a.2))
noncomputable def U5 (a : List Int) : Option (List Int):=
  (loop (q3v a) (0,[])).bind fun b=>some b
noncomputable def q44 (b : List qg) (a : Int × List Int) : Option ((Int × List Int) ⊕ (List Int)):=
  cond (decide (a.1 < (b.length : Int))) ((idx b a.1).bind fun c=>(idx b a.1).bind fun d=>(app 8 a.2 [c.Lo.Z,d.Hi.Z]).bind fun f=>some (.inl (w64 (a.1 + 1),f))) (some (.inr a.2))
noncomputable def q45 (b : List qg) (a : Int × List Int) : Option ((Int × List Int) ⊕ (List Int)):=
  cond (decide (a.1 < (b.length : Int))) ((idx b a.1).bind fun c=>(idx b a.1).bind fun d=>(app 8 a.2 [c.Lo.Z,d.Hi.Z]).bind fun f=>some (.inl (w64 (a.1 + 1),f))) (some (.inr a.2))
noncomputable def q9i (a : List qg) (b : List qg) : Option (List Int):=
  (loop (q44 a) (0,[])).bind fun c=>(loop (q45 b) (0,c)).bind fun d=>(U5 d).bind fun f=>some f
noncomputable def q61 (b : List qg) (c : Int) (a : Int × List qi) : Option ((Int × List qi) ⊕ (List qi)):=
  cond (decide (a.1 < (b.length : Int))) (((idx b a.1).bind fun d=>(cond (decide (d.Lo.Z≤c)) ((idx b a.1).bind fun f=>some (decide (c < f.Hi.Z))) (some false)).bind fun g=>cond g ((idx b a.1).bind fun h=>(idx b a.1).bind fun j=>(idx b a.1).bind fun k=>(idx b a.1).bind fun l=>(app 32 a.2 [({X0:=h.Lo.X,Y0:=j.Lo.Y,X1:=k.Hi.X,Y1:=l.Hi.Y} : qi)]).bind fun m=>some m) (some a.2)).bind fun n=>some (.inl (w64 (a.1 + 1),n))) (some (.inr a.2))
noncomputable def U6 (a : List qg) (b : Int) : Option (List qi):=
  (loop (q61 a b) (0,[])).bind fun c=>some c
noncomputable def q3z (b : List qi) (a : Int × List Int) : Option ((Int × List Int) ⊕ (List Int)):=
  cond (decide (a.1 < (b.length : Int))) ((idx b a.1).bind fun c=>(idx b a.1).bind fun d=>(app 8 a.2 [c.X0,d.X1]).bind fun f=>some (.inl (w64 (a.1 + 1),f))) (some (.inr a.2))
noncomputable def q40 (b : List qi) (a : Int × List Int) : Option ((Int × List Int) ⊕ (List Int)):=
  cond (decide (a.1 < (b.length : Int))) ((idx b a.1).bind fun c=>(idx b a.1).bind fun d=>(app 8 a.2 [c.X0,d.X1]).bind fun f=>some (.inl (w64 (a.1 + 1),f))) (some (.inr a.2))
noncomputable def q9e (a : List qi) (b : List qi) : Option (List Int):=
  (loop (q3z a) (0,[])).bind fun c=>(loop (q40 b) (0,c)).bind fun d=>(U5 d).bind fun f=>some f
noncomputable def q41 (b : List qi) (a : Int × List Int) : Option ((Int × List Int) ⊕ (List Int)):=
  cond (decide (a.1 < (b.length : Int))) ((idx b a.1).bind fun c=>(idx b a.1).bind fun d=>(app 8 a.2 [c.Y0,d.Y1]).bind fun f=>some (.inl (w64 (a.1 + 1),f))) (some (.inr a.2))
noncomputable def q42 (b : List qi) (a : Int × List Int) : Option ((Int × List Int) ⊕ (List Int)):=
  cond (decide (a.1 < (b.length : Int))) ((idx b a.1).bind fun c=>(idx b a.1).bind fun d=>(app 8 a.2 [c.Y0,d.Y1]).bind fun f=>some (.inl (w64 (a.1 + 1),f))) (some (.inr a.2))
noncomputable def q9f (a : List qi) (b : List qi) : Option (List Int):=
  (loop (q41 a) (0,[])).bind fun c=>(loop (q42 b) (0,c)).bind fun d=>(U5 d).bind fun f=>some f
noncomputable def q2v (b : List qi) (c : Int) (d : Int) (a : Int) : Option ((Int) ⊕ ((Unit) ⊕ (Bool))):=
  cond (decide (a < (b.length : Int))) ((idx b a).bind fun f=>(cond (decide (f.X0≤c)) ((idx b a).bind fun g=>some (decide (c < g.X1))) (some false)).bind fun h=>(cond h ((idx b a).bind fun j=>some (decide (j.Y0≤d))) (some false)).bind fun k=>(cond k ((idx b a).bind fun l=>some (decide (d < l.Y1))) (some false)).bind fun m=>cond m (some (.inr (.inr true))) (some (.inl (w64 (a + 1))))) (some (.inr (.inl ())))
noncomputable def q5u (a : List qi) (b : Int) (c : Int) : Option Bool:=
  (loop (q2v a b c) 0 : Option ((Unit) ⊕ (Bool))).bind fun d=>(match d with | .inl _=>some false | .inr f=>some f)
noncomputable def q5s (c : Int) (a : Bool) (b : Bool) : Option Bool:=
  cond (c == 1) ((cond a (some b) (some false)).bind fun d=>some d) (cond (c == 2) ((cond a (some true) (some b)).bind fun f=>some f) ((cond a (some (!b)) (some false)).bind fun g=>some g))
noncomputable def q3u (b : List Int) (c : List Bool) (a : Int × List qk) : Option ((Int × List qk) ⊕ (List qk)):=
  cond (decide ((w64 (a.1 + 1)) < (b.length : Int))) (((idx c a.1).bind fun d=>cond (!d) (some a.2) ((cond (decide ((a.2.length : Int) > 0)) ((idx a.2 (w64 ((a.2.length : Int) - 1))).bind fun f=>(idx b a.1).bind fun g=>some (f.Hi == g)) (some false)).bind fun h=>cond h ((idx b (w64 (a.1 + 1))).bind fun j=>(idx a.2 (w64 ((a.2.length : Int) - 1))).bind fun k=>some (a.2.set (w64 ((a.2.length : Int) - 1)).toNat ({Lo:=k.Lo,Hi:=j} : qk))) ((idx b a.1).bind fun l=>(idx b (w64 (a.1 + 1))).bind fun m=>(app 16 a.2 [({Lo:=l,Hi:=m} : qk)]).bind fun n=>some n))).bind fun o=>some (.inl (w64 (a.1 + 1),o))) (some (.inr a.2))
noncomputable def q3t (a : List Int) (b : List Bool) : Option (List qk):=
  (loop (q3u a b) (0,[])).bind fun c=>some c
noncomputable def qd0 (b : List qk) (f : List qk) (a : Int) : Option ((Int) ⊕ ((Unit) ⊕ (Bool))):=
  cond (decide (a < (b.length : Int))) ((idx b a).bind fun c=>(idx f a).bind fun d=>cond (!((c.Lo == d.Lo) && ((c.Hi == d.Hi) && true))) (some (.inr (.inr false))) (some (.inl (w64 (a + 1))))) (some (.inr (.inl ())))
noncomputable def q5t (a : List qk) (b : List qk) : Option Bool:=
  cond ((a.length : Int) != (b.length : Int)) (some false) ((loop (qd0 a b) 0 : Option ((Unit) ⊕ (Bool))).bind fun c=>(match c with | .inl _=>some true | .inr d=>some d))
noncomputable def q3x (b : List Int) (c : List Int) (d : List qk × Int × Int × List qi) (f : List qi) (g : List qi) (h : Int) (a : Int × List Bool) : Option ((Int × List Bool) ⊕ (List Bool)):=
  cond (decide (a.1 < (b.length : Int))) ((idx c d.2.2.1).bind fun j=>(idx b a.1).bind fun k=>(q5u f j k).bind fun l=>(idx c d.2.2.1).bind fun m=>(idx b a.1).bind fun n=>(q5u g m n).bind fun o=>(q5s h l o).bind fun p=>(app 1 a.2 [p]).bind fun q=>some (.inl (w64 (a.1 + 1),q))) (some (.inr a.2))
noncomputable def q3y (c : List Int) (d : List qk × Int × Int × List qi) (a : Int × List qi) : Option ((Int × List qi) ⊕ (List qi)):=
  cond (decide (a.1 < (a.2.length : Int))) ((idx c (w64 (d.2.2.1 + 1))).bind fun f=>(idx a.2 a.1).bind fun b=>some (.inl (w64 (a.1 + 1),a.2.set a.1.toNat ({X0:=b.X0,Y0:=b.Y0,X1:=f,Y1:=b.Y1} : qi)))) (some (.inr a.2))
noncomputable def q5v (b : List qk) (d : List Int) (c : List qk × Int × Int × List qi) (a : Int × List qi) : Option ((Int × List qi) ⊕ (List qk × Int × List qi)):=
  cond (decide (a.1 < (b.length : Int))) ((idx d c.2.2.1).bind fun f=>(idx b a.1).bind fun g=>(idx d (w64 (c.2.2.1 + 1))).bind fun h=>(idx b a.1).bind fun j=>(app 32 a.2 [({X0:=f,Y0:=g.Lo,X1:=h,Y1:=j.Hi} : qi)]).bind fun k=>some (.inl (w64 (a.1 + 1),k))) (some (.inr (b,(c.2.2.2.length : Int),a.2)))
noncomputable def q2w (b : List Int) (d : List Int) (g : List qi) (h : List qi) (j : Int) (a : List qk × Int × Int × List qi) : Option ((List qk × Int × Int × List qi) ⊕ (List qi)):=
  cond (decide ((w64 (a.2.2.1 + 1)) < (b.length : Int))) (((loop (q3x d b a g h j) (0,[])).bind fun k=>(q3t d k).bind fun f=>(cond (decide (a.2.2.1 > 0)) ((q5t f a.1).bind fun l=>some l) (some false)).bind fun m=>cond m ((loop (q3y b a) (a.2.1,a.2.2.2)).bind fun n=>some (a.1,a.2.1,n)) ((loop (q5v f b a) (0,a.2.2.2)).bind fun o=>some o)).bind fun c=>some (.inl (c.1,c.2.1,w64 (a.2.2.1 + 1),c.2.2))) (some (.inr a.2.2.2))
noncomputable def Jh (c : Int) (a : List qi) (b : List qi) : Option (List qi):=
  (q9e a b).bind fun d=>(q9f a b).bind fun f=>(loop (q2w d f a b c) ([],0,0,[])).bind fun g=>some g
noncomputable def qd1 (d : List qi) (f : List qi) (a : Int) : Option ((Int) ⊕ ((Unit) ⊕ (Bool))):=
  cond (decide (a < (d.length : Int))) ((idx d a).bind fun b=>(idx f a).bind fun c=>cond (!((b.X0 == c.X0) && ((b.Y0 == c.Y0) && ((b.X1 == c.X1) && ((b.Y1 == c.Y1) && true))))) (some (.inr (.inr false))) (some (.inl (w64 (a + 1))))) (some (.inr (.inl ())))
noncomputable def q5x (a : List qi) (b : List qi) : Option Bool:=
  cond ((a.length : Int) != (b.length : Int)) (some false) ((loop (qd1 a b) 0 : Option ((Unit) ⊕ (Bool))).bind fun c=>(match c with | .inl _=>some true | .inr d=>some d))
noncomputable def q47 (c : List Int) (d : List qi × Int × Int × List qg) (a : Int × List qg) : Option ((Int × List qg) ⊕ (List qg)):=
  cond (decide (a.1 < (a.2.length : Int))) ((idx c (w64 (d.2.2.1 + 1))).bind fun f=>(idx a.2 a.1).bind fun b=>some (.inl (w64 (a.1 + 1),a.2.set a.1.toNat ({Lo:=b.Lo,Hi:=({X:=b.Hi.X,Y:=b.Hi.Y,Z:=f} : Q3)} : qg)))) (some (.inr a.2))
noncomputable def q65 (b : List qi) (d : List Int) (c : List qi × Int × Int × List qg) (a : Int × List qg) : Option ((Int × List qg) ⊕ (List qi × Int × List qg)):=
  cond (decide (a.1 < (b.length : Int))) ((idx b a.1).bind fun f=>(idx b a.1).bind fun g=>(idx d c.2.2.1).bind fun h=>(idx b a.1).bind fun j=>(idx b a.1).bind fun k=>(idx d (w64 (c.2.2.1 + 1))).bind fun l=>(app 48 a.2 [({Lo:=({X:=f.X0,Y:=g.Y0,Z:=h} : Q3),Hi:=({X:=j.X1,Y:=k.Y1,Z:=l} : Q3)} : qg)]).bind fun m=>some (.inl (w64 (a.1 + 1),m))) (some (.inr (b,(c.2.2.2.length : Int),a.2)))
noncomputable def q1w (b : List Int) (f : List qg) (g : List qg) (h : Int) (a : List qi × Int × Int × List qg) : Option ((List qi × Int × Int × List qg) ⊕ ((List qg) ⊕ (List qg × Bool))):=
  cond (decide ((w64 (a.2.2.1 + 1)) < (b.length : Int))) (((idx b a.2.2.1).bind fun j=>(U6 f j).bind fun k=>(idx b a.2.2.1).bind fun l=>(U6 g l).bind fun m=>(Jh h k m).bind fun c=>(cond (decide ((c.length : Int) > 400)) (some true) ((idx b a.2.2.1).bind fun n=>(U6 f n).bind fun o=>(Jh 2 o []).bind fun p=>some (decide ((p.length : Int) > 400)))).bind fun q=>(cond q (some true) ((idx b a.2.2.1).bind fun r=>(U6 g r).bind fun s=>(Jh 2 s []).bind fun t=>some (decide ((t.length : Int) > 400)))).bind fun u=>cond u (some (.inr ([],false))) ((cond (decide (a.2.2.1 > 0)) ((q5x c a.1).bind fun v=>some v) (some false)).bind fun w=>cond w ((loop (q47 b a) (a.2.1,a.2.2.2)).bind fun x=>some (.inl (a.1,a.2.1,x))) ((loop (q65 c b a) (0,a.2.2.2)).bind fun y=>some (.inl y))) : Option ((List qi × Int × List qg) ⊕ (List qg × Bool))).bind fun z=>(match z with | .inl d=>some (.inl (d.1,d.2.1,w64 (a.2.2.1 + 1),d.2.2)) | .inr x1=>some (.inr (.inr x1)))) (some (.inr (.inl a.2.2.2)))
noncomputable def q46 (d : Int) (a : List qg) (b : List qg) : Option (List qg × Bool):=
  (q9i a b).bind fun f=>(loop (q1w f a b d) ([],0,0,[]) : Option ((List qg) ⊕ (List qg × Bool))).bind fun g=>(match g with | .inl c=>some (c,decide ((c.length : Int)≤400)) | .inr h=>some h)
noncomputable def qd4 (d : List qg) (f : List qg) (c : Int) : Option ((Int) ⊕ ((Unit) ⊕ (Bool))):=
  cond (decide (c < (d.length : Int))) ((idx d c).bind fun a=>(idx f c).bind fun b=>cond (!((a.Lo.X == b.Lo.X) && ((a.Lo.Y == b.Lo.Y) && ((a.Lo.Z == b.Lo.Z) && ((a.Hi.X == b.Hi.X) && ((a.Hi.Y == b.Hi.Y) && ((a.Hi.Z == b.Hi.Z) && true))))))) (some (.inr (.inr false))) (some (.inl (w64 (c + 1))))) (some (.inr (.inl ())))
noncomputable def q9l (a : List qg) (b : List qg) : Option Bool:=
  cond ((a.length : Int) != (b.length : Int)) (some false) ((loop (qd4 a b) 0 : Option ((Unit) ⊕ (Bool))).bind fun c=>(match c with | .inl _=>some true | .inr d=>some d))
noncomputable def q63 (b : List qg) (a : Int) : Option ((Int) ⊕ ((Unit) ⊕ (Int))):=
  cond (decide (a < (b.length : Int))) ((idx b a).bind fun c=>(q9m c).bind fun d=>cond (!d) (some (.inr (.inr 8))) (some (.inl (w64 (a + 1))))) (some (.inr (.inl ())))
noncomputable def q62 (a : List qg) : Option Int:=
  cond (decide ((a.length : Int) > 400)) (some 4) ((loop (q63 a) 0 : Option ((Unit) ⊕ (Int))).bind fun c=>(match c with | .inl _=>(q46 2 a []).bind fun b=>(cond (!b.2) (some true) ((q9l b.1 a).bind fun d=>some (!d))).bind fun f=>cond f (some 8) (some 0) | .inr g=>some g))
noncomputable def qd5 (b : K1) (a : List (List qg)) : Option (List qg):=
  (idx a (min b.Depth (w64 ((a.length : Int) - 1)))).bind fun c=>some c
noncomputable def q43 (a : Q3) (b : Q3) : Option Q3:=
  some ({X:=w64 (a.X + b.X),Y:=w64 (a.Y + b.Y),Z:=w64 (a.Z + b.Z)} : Q3)
noncomputable def q48 (a : Int) : Option Int:=
  cond (decide (a < 0)) (some (-1)) (cond (decide (a > 0)) (some 1) (some 0))
def qc8 (x : Q3) : List DV:=[.int .i64 x.X,.int .i64 x.Y,.int .i64 x.Z]
noncomputable def q69 (c : K1) (d : Int) (f : Int) (g : Int) (a : List Q3 × Int × Int × Int) : Option ((List Q3 × Int × Int × Int) ⊕ (List Q3)):=
  cond (!((a.2.1 == c.To.X) && ((a.2.2.1 == c.To.Y) && ((a.2.2.2 == c.To.Z) && true)))) ((q43 ({X:=a.2.1,Y:=a.2.2.1,Z:=a.2.2.2} : Q3) ({X:=d,Y:=f,Z:=g} : Q3)).bind fun b=>(app 24 a.1 [b]).bind fun h=>some (.inl (h,b.X,b.Y,b.Z))) (some (.inr a.1))
noncomputable def q9n (a : K1) : Option (List Q3):=
  (q48 (w64 (a.To.X - a.From.X))).bind fun b=>(q48 (w64 (a.To.Y - a.From.Y))).bind fun c=>(q48 (w64 (a.To.Z - a.From.Z))).bind fun d=>(loop (q69 a b c d) ([a.From],a.From.X,a.From.Y,a.From.Z)).bind fun f=>some f
noncomputable def qbb (a : K1) (b : List qg) : Option (List qg × Int):=
  (q4x ({Lines:=[a],Marks:=[],End:=({Frame:=({Turn:=0,At:=({X:=0,Y:=0,Z:=0} : Q3)} : Yg),Drawn:=0} : Jw)} : Qv)).bind fun c=>cond (c.2 != 0) (some ([],c.2)) ((q22 b).bind fun d=>cond (d != 0) (some ([],d)) ((q85 a b).bind fun f=>some (f.1,f.2)))
noncomputable def qdv (b : List qg) (a : Int × List Int) : Option ((Int × List Int) ⊕ (List Int)):=
  cond (decide (a.1 < (b.length : Int))) ((idx b a.1).bind fun c=>(app 8 a.2 [c.Lo.Z,c.Hi.Z]).bind fun d=>some (.inl (w64 (a.1 + 1),d))) (some (.inr a.2))
noncomputable def qdw (b : List qg) (a : Int × List Int) : Option ((Int × List Int) ⊕ (List Int)):=
  cond (decide (a.1 < (b.length : Int))) ((idx b a.1).bind fun c=>(app 8 a.2 [c.Lo.Z,c.Hi.Z]).bind fun d=>some (.inl (w64 (a.1 + 1),d))) (some (.inr a.2))
noncomputable def qdx (c : List qg) (d : Int) (a : Int × List qi) : Option ((Int × List qi) ⊕ (List qi)):=
  cond (decide (a.1 < (c.length : Int))) (((idx c a.1).bind fun b=>(cond (decide (b.Lo.Z≤d)) (some (decide (d < b.Hi.Z))) (some false)).bind fun f=>cond f ((app 32 a.2 [({X0:=b.Lo.X,Y0:=b.Lo.Y,X1:=b.Hi.X,Y1:=b.Hi.Y} : qi)]).bind fun g=>some g) (some a.2)).bind fun h=>some (.inl (w64 (a.1 + 1),h))) (some (.inr a.2))
noncomputable def qdy (c : List qg) (d : Int) (a : Int × List qi) : Option ((Int × List qi) ⊕ (List qi)):=
  cond (decide (a.1 < (c.length : Int))) (((idx c a.1).bind fun b=>(cond (decide (b.Lo.Z≤d)) (some (decide (d < b.Hi.Z))) (some false)).bind fun f=>cond f ((app 32 a.2 [({X0:=b.Lo.X,Y0:=b.Lo.Y,X1:=b.Hi.X,Y1:=b.Hi.Y} : qi)]).bind fun g=>some g) (some a.2)).bind fun h=>some (.inl (w64 (a.1 + 1),h))) (some (.inr a.2))
noncomputable def q4l (f : List Int) (l : List qg) (m : List qg) (o : List qi→List qi→Option (List qi × Int)) (a : Int × List qi × Int × Int × List qg) : Option ((Int × List qi × Int × Int × List qg) ⊕ ((List qi × Int × Int × List qg) ⊕ (List qg × Int))):=
  cond (decide (a.1 < (f.length : Int))) ((idx f (w64 (a.1 - 1))).bind fun g=>(idx f a.1).bind fun p=>((idx [l,m] 0).bind fun q=>(loop (qdx q g) (0,[])).bind fun h=>some h).bind fun r=>((idx [l,m] 1).bind fun s=>(loop (qdy s g) (0,[])).bind fun h=>some h).bind fun t=>((q1x r).bind fun b=>(cond (b.2 == 0) ((q1x t).bind fun j=>cond (j.2 == 0) ((o b.1 j.1).bind fun n=>some (n.1,n.2)) (some (b.1,j.2))) (some (b.1,b.2))).bind fun k=>cond (k.2 != 0) (some (.inr ([],k.2))) ((q7r a.2.2.2.2 a.2.1 a.2.2.1 a.2.2.2.1 g p k.1).bind fun c=>some (.inl (c.1,c.2.1,c.2.2.1,c.2.2.2))) : Option ((List qi × Int × Int × List qg) ⊕ (List qg × Int))).bind fun u=>(match u with | .inl d=>some (.inl (w64 (a.1 + 1),d.1,d.2.1,d.2.2.1,d.2.2.2)) | .inr v=>some (.inr (.inr v)))) (some (.inr (.inl (a.2.1,a.2.2.1,a.2.2.2.1,a.2.2.2.2))))
noncomputable def qay (k : List qi→List qi→Option (List qi × Int)) (c : List qg) (d : List qg) : Option (List qg × Int):=
  (((idx [c,d] 0).bind fun l=>(loop (qdv l) (0,[])).bind fun b=>some b).bind fun m=>((idx [c,d] 1).bind fun n=>(loop (qdw n) (0,m)).bind fun b=>some b).bind fun h=>(U7 h).bind fun f=>(K4 f.length h.length).bind fun _=>(q14 f).bind fun a=>(K4 a.2.length f.length).bind fun _=>(q17 a.2.length a.1).bind fun _=>some ((a.2.drop a.1.1).take a.1.2)).bind fun o=>((loop (q4l o c d k) (1,[],0,0,[]) : Option ((List qi × Int × Int × List qg) ⊕ (List qg × Int))).bind fun p=>(match p with | .inl b=>some (.inl b) | .inr g=>some (.inr g)) : Option ((List qi × Int × Int × List qg) ⊕ (List qg × Int))).bind fun q=>(match q with | .inl j=>cond (decide ((j.2.2.2.length : Int) > 400)) (some ([],4)) (some (j.2.2.2,0)) | .inr g=>some g)
noncomputable def qax (a : List qg) (b : List qg) (g : List qi→List qi→Option (List qi × Int)) : Option (List qg × Int):=
  (q22 a).bind fun c=>cond (c != 0) (some ([],c)) ((q22 b).bind fun d=>cond (d != 0) (some ([],d)) ((qay g a b).bind fun f=>some (f.1,f.2)))
noncomputable def q4c (b : List qi) (c : qi→Option Bool) (a : Int) : Option ((Int) ⊕ ((Unit) ⊕ (Int))):=
  cond (decide (a < (b.length : Int))) ((idx b a).bind fun d=>(c d).bind fun f=>cond f (some (.inr (.inr a))) (some (.inl (w64 (a + 1))))) (some (.inr (.inl ())))
noncomputable def qdp (a : List qi) (b : qi→Option Bool) : Option Int:=
  (loop (q4c a b) 0 : Option ((Unit) ⊕ (Int))).bind fun c=>(match c with | .inl _=>some (-1) | .inr d=>some d)
noncomputable def q9x (a : List qi) (b : qi→Option Bool) : Option Bool:=
  (qdp a b).bind fun c=>some (decide (c ≥ 0))
noncomputable def q2x (a : qi) : Option Bool:=
  (q6i a).bind fun b=>some (!b)
noncomputable def q6c (a : List qi) : Option Int:=
  cond (decide ((a.length : Int) > 400)) (some 4) ((q9x a (fun c=>q2x c)).bind fun d=>cond d (some 8) ((q6h a).bind fun b=>(cond (b.2 != 0) (some true) ((q6p b.1 a).bind fun f=>some (!f))).bind fun g=>cond g (some 8) (some 0)))
noncomputable def q9p (b : List qi) (c : List qi) : Option Int:=
  (q6c b).bind fun a=>cond (a != 0) (some a) ((q6c c).bind fun d=>some d)
noncomputable def qd7 (b : List qi) (a : Int × List Int) : Option ((Int × List Int) ⊕ (List Int)):=
  cond (decide (a.1 < (b.length : Int))) ((idx b a.1).bind fun c=>(app 8 a.2 [c.X0,c.X1]).bind fun d=>some (.inl (w64 (a.1 + 1),d))) (some (.inr a.2))
noncomputable def qd8 (b : List qi) (a : Int × List Int) : Option ((Int × List Int) ⊕ (List Int)):=
  cond (decide (a.1 < (b.length : Int))) ((idx b a.1).bind fun c=>(app 8 a.2 [c.X0,c.X1]).bind fun d=>some (.inl (w64 (a.1 + 1),d))) (some (.inr a.2))
noncomputable def qd9 (c : List qi) (d : Int) (a : Int × List qk) : Option ((Int × List qk) ⊕ (List qk)):=
  cond (decide (a.1 < (c.length : Int))) (((idx c a.1).bind fun b=>(cond (decide (b.X0≤d)) (some (decide (d < b.X1))) (some false)).bind fun f=>cond f ((app 16 a.2 [({Lo:=b.Y0,Hi:=b.Y1} : qk)]).bind fun g=>some g) (some a.2)).bind fun h=>some (.inl (w64 (a.1 + 1),h))) (some (.inr a.2))
noncomputable def qda (c : List qi) (d : Int) (a : Int × List qk) : Option ((Int × List qk) ⊕ (List qk)):=
  cond (decide (a.1 < (c.length : Int))) (((idx c a.1).bind fun b=>(cond (decide (b.X0≤d)) (some (decide (d < b.X1))) (some false)).bind fun f=>cond f ((app 16 a.2 [({Lo:=b.Y0,Hi:=b.Y1} : qk)]).bind fun g=>some g) (some a.2)).bind fun h=>some (.inl (w64 (a.1 + 1),h))) (some (.inr a.2))
noncomputable def q49 (d : List Int) (j : List qi) (k : List qi) (l : List qk→List qk→Option (List qk × Int)) (a : Int × List qk × Int × Int × List qi) : Option ((Int × List qk × Int × Int × List qi) ⊕ ((List qk × Int × Int × List qi) ⊕ (List qi × Int))):=
  cond (decide (a.1 < (d.length : Int))) ((idx d (w64 (a.1 - 1))).bind fun f=>(idx d a.1).bind fun m=>((idx [j,k] 0).bind fun n=>(loop (qd9 n f) (0,[])).bind fun g=>some g).bind fun o=>((idx [j,k] 1).bind fun p=>(loop (qda p f) (0,[])).bind fun g=>some g).bind fun q=>((l o q).bind fun h=>cond (h.2 != 0) (some (.inr ([],h.2))) ((q6e a.2.2.2.2 a.2.1 a.2.2.1 a.2.2.2.1 f m h.1).bind fun b=>some (.inl (b.1,b.2.1,b.2.2.1,b.2.2.2))) : Option ((List qk × Int × Int × List qi) ⊕ (List qi × Int))).bind fun r=>(match r with | .inl c=>some (.inl (w64 (a.1 + 1),c.1,c.2.1,c.2.2.1,c.2.2.2)) | .inr s=>some (.inr (.inr s)))) (some (.inr (.inl (a.2.1,a.2.2.1,a.2.2.2.1,a.2.2.2.2))))
noncomputable def q9q (c : List qi) (d : List qi) (m : List qk→List qk→Option (List qk × Int)) : Option (List qi × Int):=
  (q9p c d).bind fun h=>cond (h != 0) (some ([],h)) ((((idx [c,d] 0).bind fun n=>(loop (qd7 n) (0,[])).bind fun b=>some b).bind fun o=>((idx [c,d] 1).bind fun p=>(loop (qd8 p) (0,o)).bind fun b=>some b).bind fun j=>(U7 j).bind fun f=>(K4 f.length j.length).bind fun _=>(q14 f).bind fun a=>(K4 a.2.length f.length).bind fun _=>(q17 a.2.length a.1).bind fun _=>some ((a.2.drop a.1.1).take a.1.2)).bind fun q=>((loop (q49 q c d m) (1,[],0,0,[]) : Option ((List qk × Int × Int × List qi) ⊕ (List qi × Int))).bind fun r=>(match r with | .inl b=>some (.inl b) | .inr g=>some (.inr g)) : Option ((List qk × Int × Int × List qi) ⊕ (List qi × Int))).bind fun s=>(match s with | .inl k=>(cond (decide ((k.2.2.2.length : Int) > 400)) (some (4,[])) (some (0,k.2.2.2))).bind fun l=>some (l.2,l.1) | .inr g=>some g))
noncomputable def q25 (b : List qk) (a : Int) : Option ((Int) ⊕ ((Unit) ⊕ (Int))):=
  cond (decide (a < (b.length : Int))) ((idx b a).bind fun c=>(q3b c).bind fun d=>(cond (!d) (some true) ((cond (decide (a > 0)) ((idx b (w64 (a - 1))).bind fun f=>some (decide (f.Hi ≥ c.Lo))) (some false)).bind fun g=>some g)).bind fun h=>cond h (some (.inr (.inr 8))) (some (.inl (w64 (a + 1))))) (some (.inr (.inl ())))
noncomputable def q39 (a : List qk) : Option Int:=
  cond (decide ((a.length : Int) > 400)) (some 4) ((loop (q25 a) 0 : Option ((Unit) ⊕ (Int))).bind fun b=>(match b with | .inl _=>some 0 | .inr c=>some c))
noncomputable def qb1 (a : List qk) (b : List qk) (g : Bool→Bool→Option Bool) : Option (List qk × Int):=
  (q39 a).bind fun c=>cond (c != 0) (some ([],c)) ((q39 b).bind fun d=>cond (d != 0) (some ([],d)) ((q3a a b g).bind fun f=>cond (decide ((f.length : Int) > 400)) (some ([],4)) (some (f,0))))
noncomputable def qe0 (a : Bool) (b : Bool) : Option Bool:=
  (cond a (some true) (some b)).bind fun c=>some c
noncomputable def q7y (b : List qk) (c : List qk) : Option (List qk × Int):=
  (qb1 b c (fun d f=>qe0 d f)).bind fun a=>some (a.1,a.2)
noncomputable def q6d (b : List qi) (c : List qi) : Option (List qi × Int):=
  (q9q b c (fun d f=>q7y d f)).bind fun a=>some (a.1,a.2)
noncomputable def qav (b : List qg) (c : List qg) : Option (List qg × Int):=
  (qax b c (fun d f=>q6d d f)).bind fun a=>some (a.1,a.2)
noncomputable def q4u (c : List (List qg) × Int) (a : List qg × Int) : Option ((List qg × Int) ⊕ ((List qg) ⊕ (List qg × Int))):=
  cond (decide (a.2 < (c.1.length : Int))) ((idx c.1 a.2).bind fun d=>(qav a.1 d).bind fun b=>cond (b.2 != 0) (some (.inr (.inr ([],b.2)))) (some (.inl (b.1,w64 (a.2 + 1))))) (some (.inr (.inl a.1)))
noncomputable def q4t (b : Qv) (c : List (List qg)) : Option (List qg × Int):=
  (q81 b c).bind fun a=>cond (a.2 != 0) (some ([],a.2)) ((loop (q4u a) ([],0) : Option ((List qg) ⊕ (List qg × Int))).bind fun d=>(match d with | .inl f=>some (f,0) | .inr g=>some g))
noncomputable def qbc (a : K1) (b : K1) : Option Bool:=
  (cond (!((a.From.X == b.From.X) && ((a.From.Y == b.From.Y) && ((a.From.Z == b.From.Z) && true)))) (some (!((a.From.X == b.To.X) && ((a.From.Y == b.To.Y) && ((a.From.Z == b.To.Z) && true))))) (some false)).bind fun c=>(cond c (some (!((a.To.X == b.From.X) && ((a.To.Y == b.From.Y) && ((a.To.Z == b.From.Z) && true))))) (some false)).bind fun d=>(cond d (some (!((a.To.X == b.To.X) && ((a.To.Y == b.To.Y) && ((a.To.Z == b.To.Z) && true))))) (some false)).bind fun f=>some f
noncomputable def q87 (a : qg) (b : qg) : Option Bool:=
  (cond (decide (b.Lo.X < a.Hi.X)) (some (decide (a.Lo.X < b.Hi.X))) (some false)).bind fun c=>(cond c (some (decide (b.Lo.Y < a.Hi.Y))) (some false)).bind fun d=>(cond d (some (decide (a.Lo.Y < b.Hi.Y))) (some false)).bind fun f=>(cond f (some (decide (b.Lo.Z < a.Hi.Z))) (some false)).bind fun g=>(cond g (some (decide (a.Lo.Z < b.Hi.Z))) (some false)).bind fun h=>some h
noncomputable def qbh (a : qg) (b : List qg) : Option Bool:=
  (Un b (fun c=>q87 c a)).bind fun d=>some d
noncomputable def qbg (a : List qg) (b : List qg) : Option Bool:=
  (Un a (fun c=>qbh c b)).bind fun d=>some d
def Uc (x : Int × Int) : List DV:=[.int .i64 x.1,.int .i64 x.2]
noncomputable def q4q (b : Int × (List ((Int × Int) × Bool))) (c : Qv) (d : List (List qg) × Int) (a : Int × (List ((Int × Int) × Bool))) : Option ((Int × (List ((Int × Int) × Bool))) ⊕ ((List ((Int × Int) × Bool)))):=
  cond (decide (a.1 < b.1)) (((idx c.Lines a.1).bind fun f=>(idx c.Lines b.1).bind fun g=>(qbc f g).bind fun h=>(cond h ((idx d.1 a.1).bind fun j=>(idx d.1 b.1).bind fun k=>(qbg j k).bind fun l=>some l) (some false)).bind fun m=>cond m (some (Ul (a.1,b.1) true a.2)) (some a.2)).bind fun n=>some (.inl (w64 (a.1 + 1),n))) (some (.inr a.2))
noncomputable def q84 (b : List (List qg) × Int) (c : Qv) (a : Int × (List ((Int × Int) × Bool))) : Option ((Int × (List ((Int × Int) × Bool))) ⊕ ((List ((Int × Int) × Bool)))):=
  cond (decide (a.1 < (b.1.length : Int))) (((loop (q4q a c b) (0,a.2)).bind fun d=>some d).bind fun f=>some (.inl (w64 (a.1 + 1),f))) (some (.inr a.2))
noncomputable def q4s (c : List (List qg) × Int) (b : Int × (List (Int × Int))) (d : (List ((Int × Int) × Bool))) (a : Int × (List (Int × Int))) : Option ((Int × (List (Int × Int))) ⊕ ((List (Int × Int)))):=
  cond (decide (a.1 < (c.1.length : Int))) ((cond (Z9 false (b.1,a.1) d) ((app 16 a.2 [(b.1,a.1)]).bind fun f=>some f) (some a.2)).bind fun g=>some (.inl (w64 (a.1 + 1),g))) (some (.inr a.2))
noncomputable def q4r (b : List (List qg) × Int) (c : (List ((Int × Int) × Bool))) (a : Int × (List (Int × Int))) : Option ((Int × (List (Int × Int))) ⊕ ((List (Int × Int)))):=
  cond (decide (a.1 < (b.1.length : Int))) (((loop (q4s b a c) (0,a.2)).bind fun d=>some d).bind fun f=>some (.inl (w64 (a.1 + 1),f))) (some (.inr a.2))
noncomputable def q83 (b : Qv) (c : List (List qg)) : Option ((List (Int × Int)) × Int):=
  (q81 b c).bind fun a=>cond (a.2 != 0) (some ([],a.2)) ((loop (q84 a b) (0,[])).bind fun d=>(loop (q4r a d) (0,[])).bind fun f=>some (f,0))
noncomputable def q6a (b : List (Int × Int)) (f : List (Int × Int)) (a : Int) : Option ((Int) ⊕ ((Unit) ⊕ (Bool))):=
  cond (decide (a < (b.length : Int))) ((idx b a).bind fun c=>(idx f a).bind fun d=>cond (!((c.1 == d.1) && ((c.2 == d.2) && true))) (some (.inr (.inr false))) (some (.inl (w64 (a + 1))))) (some (.inr (.inl ())))
noncomputable def q9o (a : List (Int × Int)) (b : List (Int × Int)) : Option Bool:=
  cond ((a.length : Int) != (b.length : Int)) (some false) ((loop (q6a a b) 0 : Option ((Unit) ⊕ (Bool))).bind fun c=>(match c with | .inl _=>some true | .inr d=>some d))
noncomputable def q1o (a : Int) (b : Int) (c : Int) (d : Int) : Option K1:=
  some ({From:=({X:=a,Y:=b,Z:=0} : Q3),To:=({X:=c,Y:=d,Z:=0} : Q3),Depth:=0} : K1)
noncomputable def q5k : Option (List qg):=
  some [({Lo:=({X:=0,Y:=0,Z:=0} : Q3),Hi:=({X:=1,Y:=1,Z:=1} : Q3)} : qg)]
noncomputable def qdu (a : qg) : Option (Int × Int × Int):=
  some (w64 (a.Hi.X - a.Lo.X),w64 (a.Hi.Y - a.Lo.Y),w64 (a.Hi.Z - a.Lo.Z))
noncomputable def q7q (c : List qg) (a : Int × Int) : Option ((Int × Int) ⊕ (Int)):=
  cond (decide (a.2 < (c.length : Int))) ((idx c a.2).bind fun d=>(qdu d).bind fun b=>some (.inl (w64 (a.1 + (w64 ((w64 (b.1 * b.2.1)) * b.2.2))),w64 (a.2 + 1)))) (some (.inr a.1))
noncomputable def qaw (a : List qg) : Option (Int × Int):=
  (q22 a).bind fun b=>cond (b != 0) (some (0,b)) ((loop (q7q a) (0,0)).bind fun c=>some (c,0))
noncomputable def q91 : Option Bool:=
  (q1o 0 0 3 0).bind fun f=>q5k.bind fun g=>(qbb f g).bind fun a=>(q1o 0 0 1 0).bind fun h=>(q1o 1 0 2 0).bind fun j=>(q1o 2 0 2 1).bind fun k=>q5k.bind fun l=>(q4t ({Lines:=[h,j,k],Marks:=[],End:=({Frame:=({Turn:=0,At:=({X:=0,Y:=0,Z:=0} : Q3)} : Yg),Drawn:=0} : Jw)} : Qv) [l]).bind fun b=>(qaw b.1).bind fun c=>(q1o 0 0 2 0).bind fun m=>(q1o 1 (-1) 1 1).bind fun n=>q5k.bind fun o=>(q83 ({Lines:=[m,n],Marks:=[],End:=({Frame:=({Turn:=0,At:=({X:=0,Y:=0,Z:=0} : Q3)} : Yg),Drawn:=0} : Jw)} : Qv) [o]).bind fun d=>cond (a.2 == 0) ((q9l a.1 [({Lo:=({X:=0,Y:=0,Z:=0} : Q3),Hi:=({X:=4,Y:=1,Z:=1} : Q3)} : qg)]).bind fun p=>(cond p (some (b.2 == 0)) (some false)).bind fun q=>(cond q (some (c.2 == 0)) (some false)).bind fun r=>(cond r (some (c.1 == 4)) (some false)).bind fun s=>(cond s (some (d.2 == 0)) (some false)).bind fun t=>cond t ((q9o d.1 [(0,1)]).bind fun u=>some u) (some false)) (some false)
noncomputable def q5h (c : Qv) (b : Int) : Option ((Int) ⊕ ((Unit) ⊕ (Bool))):=
  cond (decide (b < (c.Lines.length : Int))) ((idx c.Lines b).bind fun a=>(cond (decide (a.Depth < 0)) (some true) ((Zv a.From (-1000)).bind fun d=>some (!d))).bind fun f=>(cond f (some true) (some (decide ((max (max a.From.X a.From.Y) a.From.Z) > 1000)))).bind fun g=>cond g (some (.inr (.inr false))) (some (.inl (w64 (b + 1))))) (some (.inr (.inl ())))
noncomputable def q5i (b : List (List qg)) (a : Int) : Option ((Int) ⊕ ((Unit) ⊕ (Bool))):=
  cond (decide (a < (b.length : Int))) ((idx b a).bind fun c=>(q62 c).bind fun d=>cond (d != 0) (some (.inr (.inr false))) (some (.inl (w64 (a + 1))))) (some (.inr (.inl ())))
noncomputable def q5g (b : Qv) (a : List (List qg)) : Option Bool:=
  (q66 b a).bind fun d=>(cond d (some true) ((q9h b).bind fun f=>some (f != 0))).bind fun g=>(cond g (some true) (some (decide ((a.length : Int) < 1)))).bind fun h=>(cond h (some true) (some (decide ((a.length : Int) > 5)))).bind fun j=>cond j (some false) ((loop (q5h b) 0 : Option ((Unit) ⊕ (Bool))).bind fun k=>(match k with | .inl _=>(loop (q5i a) 0 : Option ((Unit) ⊕ (Bool))).bind fun l=>(match l with | .inl _=>some true | .inr c=>some c) | .inr c=>some c))
noncomputable def q9g (a : Int) (b : Q3) : Option Q3:=
  some ({X:=w64 (a * b.X),Y:=w64 (a * b.Y),Z:=w64 (a * b.Z)} : Q3)
noncomputable def q9k (a : qg) (b : Q3) : Option Bool:=
  (cond (decide (a.Lo.X≤b.X)) (some (decide (b.X < a.Hi.X))) (some false)).bind fun c=>(cond c (some (decide (a.Lo.Y≤b.Y))) (some false)).bind fun d=>(cond d (some (decide (b.Y < a.Hi.Y))) (some false)).bind fun f=>(cond f (some (decide (a.Lo.Z≤b.Z))) (some false)).bind fun g=>(cond g (some (decide (b.Z < a.Hi.Z))) (some false)).bind fun h=>some h
noncomputable def q64 (b : List qg) (c : Q3) (a : Int) : Option ((Int) ⊕ ((Unit) ⊕ (Bool))):=
  cond (decide (a < (b.length : Int))) ((idx b a).bind fun d=>(q9k d c).bind fun f=>cond f (some (.inr (.inr true))) (some (.inl (w64 (a + 1))))) (some (.inr (.inl ())))
noncomputable def q9j (a : List qg) (b : Q3) : Option Bool:=
  (loop (q64 a b) 0 : Option ((Unit) ⊕ (Bool))).bind fun c=>(match c with | .inl _=>some false | .inr d=>some d)
noncomputable def q7p (a : qg) (b : Q3) : Option Bool:=
  (cond (decide (a.Lo.X≤b.X)) (some (decide (b.X < a.Hi.X))) (some false)).bind fun c=>(cond c (some (decide (a.Lo.Y≤b.Y))) (some false)).bind fun d=>(cond d (some (decide (b.Y < a.Hi.Y))) (some false)).bind fun f=>(cond f (some (decide (a.Lo.Z≤b.Z))) (some false)).bind fun g=>(cond g (some (decide (b.Z < a.Hi.Z))) (some false)).bind fun h=>some h
noncomputable def qat (a : List qg) (b : Q3) : Option Bool:=
  (Un a (fun c=>q7p c b)).bind fun d=>some d
noncomputable def q5f (b : List Q3) (c : Qv) (d : Bool × Int) (f : List (List qg)) (g : Q3) (a : Bool × Int) : Option ((Bool × Int) ⊕ (Bool)):=
  cond (decide (a.2 < (b.length : Int))) ((cond a.1 (some true) ((idx c.Lines d.2).bind fun h=>(qd5 h f).bind fun j=>(idx b a.2).bind fun k=>(q9g (-1) k).bind fun l=>(q43 g l).bind fun m=>(q9j j m).bind fun n=>some n)).bind fun o=>some (.inl (o,w64 (a.2 + 1)))) (some (.inr a.1))
noncomputable def q5e (b : Qv) (c : List (List qg)) (d : Q3) (a : Bool × Int) : Option ((Bool × Int) ⊕ (Bool)):=
  cond (decide (a.2 < (b.Lines.length : Int))) (((idx b.Lines a.2).bind fun f=>(q9n f).bind fun g=>(loop (q5f g b a c d) (a.1,0)).bind fun h=>some h).bind fun j=>some (.inl (j,w64 (a.2 + 1)))) (some (.inr a.1))
noncomputable def qcm (d : Qv) (f : List (List qg)) (a : Q3) : Option Bool:=
  q91.bind fun c=>(q5g d f).bind fun g=>(cond (!g) (some true) ((Zv a (-2000)).bind fun h=>some (!h))).bind fun j=>(cond j (some true) (some (decide ((max (max a.X a.Y) a.Z) > 2000)))).bind fun k=>(cond k (some true) (some (!c))).bind fun l=>cond l (some c) ((q4t d f).bind fun b=>cond (b.2 != 0) ((cond c ((cond (b.2 == 16) (some true) (some (b.2 == 4))).bind fun m=>some m) (some false)).bind fun n=>some n) ((loop (q5e d f a) (false,0)).bind fun o=>(cond c ((q62 b.1).bind fun p=>some (p == 0)) (some false)).bind fun q=>(cond q ((qat b.1 a).bind fun r=>some (r == o)) (some false)).bind fun s=>some s))
noncomputable def qk6 (a : Int) : Option Q3:=
  cond ((IntKind.wrap .u8 (Int.tdiv a 2)) == 0) (some ({X:=w64 (1 - (w64 (2 * (w64 (Int.tmod a 2))))),Y:=0,Z:=0} : Q3)) (cond ((IntKind.wrap .u8 (Int.tdiv a 2)) == 1) (some ({X:=0,Y:=w64 (1 - (w64 (2 * (w64 (Int.tmod a 2))))),Z:=0} : Q3)) (some ({X:=0,Y:=0,Z:=w64 (1 - (w64 (2 * (w64 (Int.tmod a 2)))))} : Q3)))
noncomputable def qs6 (a : Q3) (b : Q3) : Option Q3:=
  some ({X:=w64 ((w64 (a.Y * b.Z)) - (w64 (a.Z * b.Y))),Y:=w64 ((w64 (a.Z * b.X)) - (w64 (a.X * b.Z))),Z:=w64 ((w64 (a.X * b.Y)) - (w64 (a.Y * b.X)))} : Q3)
noncomputable def qs5 (a : Int) : Option (Q3 × Q3 × Q3):=
  (cond (decide ((Int.tmod a 4) ≥ (IntKind.wrap .u8 ((IntKind.wrap .u8 (Int.tdiv (IntKind.wrap .u8 (Int.tdiv a 4)) 2)) * 2)))) (some (IntKind.wrap .u8 ((Int.tmod a 4) + 2))) (some (Int.tmod a 4))).bind fun d=>(qk6 (IntKind.wrap .u8 (Int.tdiv a 4))).bind fun b=>(qk6 d).bind fun c=>(qs6 b c).bind fun f=>some (b,c,f)
noncomputable def qme (a : qk) : Option Bool:=
  (cond (decide (a.Lo < a.Hi)) (some (decide (a.Lo ≥ (-1000000)))) (some false)).bind fun b=>(cond b (some (decide (a.Hi≤1000000))) (some false)).bind fun c=>some c
noncomputable def qgp (b : List qk) (a : Int) : Option ((Int) ⊕ ((Unit) ⊕ (Int))):=
  cond (decide (a < (b.length : Int))) ((idx b a).bind fun c=>(qme c).bind fun d=>(cond (!d) (some true) ((cond (decide (a > 0)) ((idx b (w64 (a - 1))).bind fun f=>(idx b a).bind fun g=>some (decide (f.Hi ≥ g.Lo))) (some false)).bind fun h=>some h)).bind fun j=>cond j (some (.inr (.inr 8))) (some (.inl (w64 (a + 1))))) (some (.inr (.inl ())))
noncomputable def qcx (a : List qk) : Option Int:=
  cond (decide ((a.length : Int) > 400)) (some 4) ((loop (qgp a) 0 : Option ((Unit) ⊕ (Int))).bind fun b=>(match b with | .inl _=>some 0 | .inr c=>some c))
noncomputable def q9a (b : List qk) (a : Int × List Int) : Option ((Int × List Int) ⊕ (List Int)):=
  cond (decide (a.1 < (b.length : Int))) ((idx b a.1).bind fun c=>(idx b a.1).bind fun d=>(app 8 a.2 [c.Lo,d.Hi]).bind fun f=>some (.inl (w64 (a.1 + 1),f))) (some (.inr a.2))
noncomputable def qmb (b : List qk) (a : Int × List Int) : Option ((Int × List Int) ⊕ (List Int)):=
  cond (decide (a.1 < (b.length : Int))) ((idx b a.1).bind fun c=>(idx b a.1).bind fun d=>(app 8 a.2 [c.Lo,d.Hi]).bind fun f=>some (.inl (w64 (a.1 + 1),f))) (some (.inr a.2))
noncomputable def qgq (a : List qk) (b : List qk) : Option (List Int):=
  (loop (q9a a) (0,[])).bind fun c=>(loop (qmb b) (0,c)).bind fun d=>(U5 d).bind fun f=>some f
noncomputable def q9b (b : List qk) (c : Int) (a : Int) : Option ((Int) ⊕ ((Unit) ⊕ (Bool))):=
  cond (decide (a < (b.length : Int))) ((idx b a).bind fun d=>(cond (decide (d.Lo≤c)) ((idx b a).bind fun f=>some (decide (c < f.Hi))) (some false)).bind fun g=>cond g (some (.inr (.inr true))) (some (.inl (w64 (a + 1))))) (some (.inr (.inl ())))
noncomputable def qcy (a : List qk) (b : Int) : Option Bool:=
  (loop (q9b a b) 0 : Option ((Unit) ⊕ (Bool))).bind fun c=>(match c with | .inl _=>some false | .inr d=>some d)
noncomputable def q9c (b : List Int) (c : List qk) (d : List qk) (f : Int) (a : Int × List Bool) : Option ((Int × List Bool) ⊕ (List Bool)):=
  cond (decide (a.1 < (b.length : Int))) ((idx b a.1).bind fun g=>(qcy c g).bind fun h=>(idx b a.1).bind fun j=>(qcy d j).bind fun k=>(q5s f h k).bind fun l=>(app 1 a.2 [l]).bind fun m=>some (.inl (w64 (a.1 + 1),m))) (some (.inr a.2))
noncomputable def qcz (d : Int) (a : List qk) (b : List qk) : Option (List qk):=
  (qgq a b).bind fun c=>(loop (q9c c a b d) (0,[])).bind fun f=>(q3t c f).bind fun g=>some g
noncomputable def qaz (b : List qk) (a : Int × Int) : Option ((Int × Int) ⊕ (Int)):=
  cond (decide (a.2 < (b.length : Int))) ((idx b a.2).bind fun c=>some (.inl (w64 (a.1 + (w64 (c.Hi - c.Lo))),w64 (a.2 + 1)))) (some (.inr a.1))
noncomputable def qo6 (a : List qk) : Option (Int × Int):=
  (q39 a).bind fun b=>cond (b != 0) (some (0,b)) ((loop (qaz a) (0,0)).bind fun c=>some (c,0))
noncomputable def q9d (b : List qk) (a : Int × Int) : Option ((Int × Int) ⊕ (Int)):=
  cond (decide (a.2 < (b.length : Int))) ((idx b a.2).bind fun c=>(idx b a.2).bind fun d=>some (.inl (w64 ((w64 (a.1 + c.Hi)) - d.Lo),w64 (a.2 + 1)))) (some (.inr a.1))
noncomputable def qmd (a : List qk) : Option (Int × Int):=
  (qcx a).bind fun b=>cond (b != 0) ((qcx a).bind fun c=>some (0,c)) ((loop (q9d a) (0,0)).bind fun d=>some (d,0))
structure qi7 where
  Frame : Yg
  Size : Q3
  deriving DecidableEq
structure q14n where
  t_ : Int
  at_ : Q3
  flat_ : Q3
  deriving DecidableEq
end Go.Sh
