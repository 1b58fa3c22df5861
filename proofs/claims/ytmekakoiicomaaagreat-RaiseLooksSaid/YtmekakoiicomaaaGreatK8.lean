/- PX -/
import Derived.Test.YtmekakoiicomaaaGreatK7
namespace Go.Sh
open Go Go.Am
structure K7 where
  X : Int
  Y : Int
  Z : Int
  deriving DecidableEq
structure qk where
  Lo : K7
  Hi : K7
  deriving DecidableEq
def Qn (x : qk) : List DV:=[.int .i64 x.Lo.X,.int .i64 x.Lo.Y,.int .i64 x.Lo.Z,.int .i64 x.Hi.X,.int .i64 x.Hi.Y,.int .i64 x.Hi.Z]
structure qd where
  X0 : Int
  Y0 : Int
  X1 : Int
  Y1 : Int
  deriving DecidableEq
def qm (x : qd) : List DV:=[.int .i64 x.X0,.int .i64 x.Y0,.int .i64 x.X1,.int .i64 x.Y1]
noncomputable def q4y (b : List qd) (c : qd→Option Bool) (a : Int) : Option ((Int) ⊕ ((Unit) ⊕ (Int))):=
  cond (decide (a < (b.length : Int))) ((idx b a).bind fun d=>(c d).bind fun f=>cond f (some (.inr (.inr a))) (some (.inl (w64 (a + 1))))) (some (.inr (.inl ())))
noncomputable def qea (a : List qd) (b : qd→Option Bool) : Option Int:=
  (loop (q4y a b) 0 : Option ((Unit) ⊕ (Int))).bind fun c=>(match c with | .inl _=>some (-1) | .inr d=>some d)
noncomputable def qai (a : List qd) (b : qd→Option Bool) : Option Bool:=
  (qea a b).bind fun c=>some (decide (c ≥ 0))
noncomputable def q3d (a : Int) : Option Bool:=
  (cond (decide (a ≥ (-1000000))) (some (decide (a≤1000000))) (some false)).bind fun b=>some b
noncomputable def q76 (a : qd) : Option Bool:=
  (cond (decide (a.X0 < a.X1)) (some (decide (a.Y0 < a.Y1))) (some false)).bind fun b=>(cond b ((q3d a.X0).bind fun c=>some c) (some false)).bind fun d=>(cond d ((q3d a.X1).bind fun f=>some f) (some false)).bind fun g=>(cond g ((q3d a.Y0).bind fun h=>some h) (some false)).bind fun j=>(cond j ((q3d a.Y1).bind fun k=>some k) (some false)).bind fun l=>some l
noncomputable def q3b (a : qd) : Option Bool:=
  (q76 a).bind fun b=>some (!b)
def Zh (x : List qd) : List DV:=[.sl 4 (x.map qm)]
def qcd : ByteArray:=⟨#[0,1,2,2,3,3,3,3,4,4,4,4,4,4,4,4,5,5,5,5,5,5,5,5,5,5,5,5,5,5,5,5,6,6,6,6,6,6,6,6,6,6,6,6,6,6,6,6,6,6,6,6,6,6,6,6,6,6,6,6,6,6,6,6,7,7,7,7,7,7,7,7,7,7,7,7,7,7,7,7,7,7,7,7,7,7,7,7,7,7,7,7,7,7,7,7,7,7,7,7,7,7,7,7,7,7,7,7,7,7,7,7,7,7,7,7,7,7,7,7,7,7,7,7,7,7,7,7,8,8,8,8,8,8,8,8,8,8,8,8,8,8,8,8,8,8,8,8,8,8,8,8,8,8,8,8,8,8,8,8,8,8,8,8,8,8,8,8,8,8,8,8,8,8,8,8,8,8,8,8,8,8,8,8,8,8,8,8,8,8,8,8,8,8,8,8,8,8,8,8,8,8,8,8,8,8,8,8,8,8,8,8,8,8,8,8,8,8,8,8,8,8,8,8,8,8,8,8,8,8,8,8,8,8,8,8,8,8,8,8,8,8,8,8,8,8,8,8,8,8,8,8,8,8,8,8]⟩
noncomputable def q1x (c : Int) : Option Int:=
  (cond (decide (c ≥ 4294967296)) (some (Int.fdiv c (2 ^ 32),32)) (some (c,0))).bind fun a=>(cond (decide (a.1 ≥ 65536)) (some (Int.fdiv a.1 (2 ^ 16),w64 (a.2 + 16))) (some (a.1,a.2))).bind fun b=>(cond (decide (b.1 ≥ 256)) (some (Int.fdiv b.1 (2 ^ 8),w64 (b.2 + 8))) (some (b.1,b.2))).bind fun d=>(q5h qcd (IntKind.wrap .u8 d.1)).bind fun f=>some (w64 (d.2 + (w64 f)))
noncomputable def Jp (a : Int) : Option Int:=
  (q1x a).bind fun b=>some b
noncomputable def q8u (a : Int) : Option Bool:=
  some (a != a)
noncomputable def Z5 (a : Int) (b : Int) : Option Bool:=
  (q8u a).bind fun c=>(cond c ((q8u b).bind fun d=>some (!d)) (some false)).bind fun f=>(cond f (some true) (some (decide (a < b)))).bind fun g=>some g
noncomputable def q7k (c : Int) (a : Int × List Int) : Option ((Int × List Int) ⊕ (List Int)):=
  (cond (decide (a.1 > c)) ((idx a.2 a.1).bind fun d=>(idx a.2 (w64 (a.1 - 1))).bind fun f=>(Z5 d f).bind fun g=>some g) (some false)).bind fun h=>cond h ((idx a.2 (w64 (a.1 - 1))).bind fun b=>(idx a.2 a.1).bind fun j=>(idx a.2 a.1).bind fun _=>(idx (a.2.set a.1.toNat b) (w64 (a.1 - 1))).bind fun _=>some (.inl (w64 (a.1 - 1),(a.2.set a.1.toNat b).set (w64 (a.1 - 1)).toNat j))) (some (.inr a.2))
noncomputable def q7j (b : Int) (c : Int) (a : Int × List Int) : Option ((Int × List Int) ⊕ (List Int)):=
  cond (decide (a.1 < b)) (((loop (q7k c) (a.1,a.2)).bind fun d=>some d).bind fun f=>some (.inl (w64 (a.1 + 1),f))) (some (.inr a.2))
noncomputable def q7i (b : List Int) (a : Int) (c : Int) : Option (List Int):=
  (loop (q7j c a) (w64 (a + 1),b)).bind fun d=>some d
noncomputable def q8d (d : Int) (b : Int) (a : Int × List Int) : Option ((Int × List Int) ⊕ (List Int)):=
  cond (decide ((w64 ((w64 (2 * a.1)) + 1)) ≥ d)) (some (.inr a.2)) ((cond (decide ((w64 ((w64 ((w64 (2 * a.1)) + 1)) + 1)) < d)) ((idx a.2 (w64 (b + (w64 ((w64 (2 * a.1)) + 1))))).bind fun g=>(idx a.2 (w64 ((w64 (b + (w64 ((w64 (2 * a.1)) + 1)))) + 1))).bind fun h=>(Z5 g h).bind fun j=>some j) (some false)).bind fun k=>(cond k (some (w64 ((w64 ((w64 (2 * a.1)) + 1)) + 1))) (some (w64 ((w64 (2 * a.1)) + 1)))).bind fun c=>(idx a.2 (w64 (b + a.1))).bind fun l=>(idx a.2 (w64 (b + c))).bind fun m=>(Z5 l m).bind fun n=>cond (!n) (some (.inr a.2)) ((idx a.2 (w64 (b + c))).bind fun f=>(idx a.2 (w64 (b + a.1))).bind fun o=>(idx a.2 (w64 (b + a.1))).bind fun _=>(idx (a.2.set (w64 (b + a.1)).toNat f) (w64 (b + c))).bind fun _=>some (.inl (c,(a.2.set (w64 (b + a.1)).toNat f).set (w64 (b + c)).toNat o))))
noncomputable def q59 (a : List Int) (b : Int) (c : Int) (d : Int) : Option (List Int):=
  (loop (q8d c d) (b,a)).bind fun f=>some f
noncomputable def q7g (d : Int) (b : Int) (a : Int × List Int) : Option ((Int × List Int) ⊕ (List Int)):=
  cond (decide (a.1 ≥ 0)) ((q59 a.2 a.1 (w64 (d - b)) b).bind fun c=>(K1 c.length a.2.length).bind fun _=>some (.inl (w64 (a.1 - 1),c))) (some (.inr a.2))
noncomputable def q7h (b : Int) (a : Int × List Int) : Option ((Int × List Int) ⊕ (List Int)):=
  cond (decide (a.1 ≥ 0)) ((idx a.2 (w64 (b + a.1))).bind fun c=>(idx a.2 b).bind fun d=>(idx a.2 b).bind fun _=>(idx (a.2.set b.toNat c) (w64 (b + a.1))).bind fun _=>(q59 ((a.2.set b.toNat c).set (w64 (b + a.1)).toNat d) 0 a.1 b).bind fun f=>(K1 f.length ((a.2.set b.toNat c).set (w64 (b + a.1)).toNat d).length).bind fun _=>some (.inl (w64 (a.1 - 1),f))) (some (.inr a.2))
noncomputable def q7f (c : List Int) (a : Int) (b : Int) : Option (List Int):=
  (loop (q7g b a) (w64 (Int.tdiv (w64 ((w64 (b - a)) - 1)) 2),c)).bind fun d=>(loop (q7h a) (w64 ((w64 (b - a)) - 1),d)).bind fun f=>some f
noncomputable def q3m (c : List Int) (a : Int) (b : Int) (d : Int) : Option (Int × Int × Int):=
  (idx c b).bind fun f=>(idx c a).bind fun g=>(Z5 f g).bind fun h=>cond h (some (b,a,w64 (d + 1))) (some (a,b,d))
noncomputable def q52 (a : List Int) (f : Int) (g : Int) (h : Int) (j : Int) : Option (Int × Int):=
  (q3m a f g j).bind fun b=>(q3m a b.2.1 h b.2.2).bind fun c=>(q3m a b.1 c.1 c.2.2).bind fun d=>some (d.2.1,d.2.2)
noncomputable def q3l (c : List Int) (a : Int) (d : Int) : Option (Int × Int):=
  (q52 c (w64 (a - 1)) a (w64 (a + 1)) d).bind fun b=>some (b.1,b.2)
noncomputable def q7e (d : List Int) (a : Int) (b : Int) : Option (Int × Int):=
  (cond (decide ((w64 (b - a)) ≥ 8)) ((cond (decide ((w64 (b - a)) ≥ 50)) ((q3l d (w64 (a + (w64 ((w64 (Int.tdiv (w64 (b - a)) 4)) * 1)))) 0).bind fun g=>(q3l d (w64 (a + (w64 ((w64 (Int.tdiv (w64 (b - a)) 4)) * 2)))) g.2).bind fun h=>(q3l d (w64 (a + (w64 ((w64 (Int.tdiv (w64 (b - a)) 4)) * 3)))) h.2).bind fun j=>some (g.1,h.1,j.1,j.2)) (some (w64 (a + (w64 ((w64 (Int.tdiv (w64 (b - a)) 4)) * 1))),w64 (a + (w64 ((w64 (Int.tdiv (w64 (b - a)) 4)) * 2))),w64 (a + (w64 ((w64 (Int.tdiv (w64 (b - a)) 4)) * 3))),0))).bind fun f=>(q52 d f.1 f.2.1 f.2.2.1 f.2.2.2).bind fun k=>some (k.1,k.2)) (some (w64 (a + (w64 ((w64 (Int.tdiv (w64 (b - a)) 4)) * 2))),0))).bind fun c=>cond (c.2 == 0) (some (c.1,1)) (cond (c.2 == 12) (some (c.1,2)) (some (c.1,0)))
noncomputable def qbz (a : Int × Int × List Int) : Option ((Int × Int × List Int) ⊕ (List Int)):=
  cond (decide (a.1 < a.2.1)) ((idx a.2.2 a.2.1).bind fun b=>(idx a.2.2 a.1).bind fun c=>(idx a.2.2 a.1).bind fun _=>(idx (a.2.2.set a.1.toNat b) a.2.1).bind fun _=>some (.inl (w64 (a.1 + 1),w64 (a.2.1 - 1),(a.2.2.set a.1.toNat b).set a.2.1.toNat c))) (some (.inr a.2.2))
noncomputable def q8a (a : List Int) (b : Int) (c : Int) : Option (List Int):=
  (loop qbz (b,w64 (c - 1),a)).bind fun d=>some d
noncomputable def q7r (c : Int) (b : Int × Int × List Int) (a : Int) : Option ((Int) ⊕ (Int)):=
  (cond (decide (a < c)) ((idx b.2.2 a).bind fun d=>(idx b.2.2 (w64 (a - 1))).bind fun f=>(Z5 d f).bind fun g=>some (!g)) (some false)).bind fun h=>cond h (some (.inl (w64 (a + 1)))) (some (.inr a))
noncomputable def qba (a : Int × List Int) : Option ((Int × List Int) ⊕ (List Int)):=
  cond (decide (a.1 ≥ 1)) ((idx a.2 a.1).bind fun c=>(idx a.2 (w64 (a.1 - 1))).bind fun d=>(Z5 c d).bind fun f=>cond (!f) (some (.inr a.2)) ((idx a.2 (w64 (a.1 - 1))).bind fun b=>(idx a.2 a.1).bind fun g=>(idx a.2 a.1).bind fun _=>(idx (a.2.set a.1.toNat b) (w64 (a.1 - 1))).bind fun _=>some (.inl (w64 (a.1 - 1),(a.2.set a.1.toNat b).set (w64 (a.1 - 1)).toNat g)))) (some (.inr a.2))
noncomputable def q7s (d : Int) (b : Int) (a : Int × List Int) : Option ((Int × List Int) ⊕ (Int × List Int)):=
  cond (decide (a.1 < d)) ((idx a.2 a.1).bind fun f=>(idx a.2 (w64 (a.1 - 1))).bind fun g=>(Z5 f g).bind fun h=>cond (!h) (some (.inr (b,a.2))) ((idx a.2 (w64 (a.1 - 1))).bind fun c=>(idx a.2 a.1).bind fun j=>(idx a.2 a.1).bind fun _=>(idx (a.2.set a.1.toNat c) (w64 (a.1 - 1))).bind fun _=>some (.inl (w64 (a.1 + 1),(a.2.set a.1.toNat c).set (w64 (a.1 - 1)).toNat j)))) (some (.inr (b,a.2)))
noncomputable def q56 (c : Int) (g : Int) (b : Int × Int × List Int) : Option ((Int × Int × List Int) ⊕ ((List Int) ⊕ (Bool × List Int))):=
  cond (decide (b.2.1 < 5)) (((loop (q7r c b) b.1).bind fun a=>cond (a == c) (some (.inr (true,b.2.2))) (cond (decide ((w64 (c - g)) < 50)) (some (.inr (false,b.2.2))) ((idx b.2.2 (w64 (a - 1))).bind fun d=>(idx b.2.2 a).bind fun h=>(idx b.2.2 a).bind fun _=>(idx (b.2.2.set a.toNat d) (w64 (a - 1))).bind fun _=>(cond (decide ((w64 (a - g)) ≥ 2)) ((loop qba (w64 (a - 1),(b.2.2.set a.toNat d).set (w64 (a - 1)).toNat h)).bind fun f=>some f) (some ((b.2.2.set a.toNat d).set (w64 (a - 1)).toNat h))).bind fun j=>cond (decide ((w64 (c - a)) ≥ 2)) ((loop (q7s c a) (w64 (a + 1),j)).bind fun f=>some (.inl f)) (some (.inl (a,j))))) : Option ((Int × List Int) ⊕ (Bool × List Int))).bind fun l=>(match l with | .inl k=>some (.inl (k.1,w64 (b.2.1 + 1),k.2)) | .inr m=>some (.inr (.inr m)))) (some (.inr (.inl b.2.2)))
noncomputable def q55 (b : List Int) (a : Int) (c : Int) : Option (Bool × List Int):=
  (loop (q56 c a) (w64 (a + 1),0,b) : Option ((List Int) ⊕ (Bool × List Int))).bind fun d=>(match d with | .inl f=>some (false,f) | .inr g=>some g)
noncomputable def q7v (b : Int × Int × List Int) (c : Int) (a : Int) : Option ((Int) ⊕ (Int)):=
  (cond (decide (a≤b.2.1)) ((idx b.2.2 c).bind fun d=>(idx b.2.2 a).bind fun f=>(Z5 d f).bind fun g=>some (!g)) (some false)).bind fun h=>cond h (some (.inl (w64 (a + 1)))) (some (.inr a))
noncomputable def q7w (c : Int) (b : Int × Int × List Int) (d : Int) (a : Int) : Option ((Int) ⊕ (Int)):=
  (cond (decide (c≤a)) ((idx b.2.2 d).bind fun f=>(idx b.2.2 a).bind fun g=>(Z5 f g).bind fun h=>some h) (some false)).bind fun j=>cond j (some (.inl (w64 (a - 1)))) (some (.inr a))
noncomputable def q7u (d : Int) (a : Int × Int × List Int) : Option ((Int × Int × List Int) ⊕ (Int × List Int)):=
  (loop (q7v a d) a.1).bind fun b=>(loop (q7w b a d) a.2.1).bind fun c=>cond (decide (b > c)) (some (.inr (b,a.2.2))) ((idx a.2.2 c).bind fun f=>(idx a.2.2 b).bind fun g=>(idx a.2.2 b).bind fun _=>(idx (a.2.2.set b.toNat f) c).bind fun _=>some (.inl (w64 (b + 1),w64 (c - 1),(a.2.2.set b.toNat f).set c.toNat g)))
noncomputable def q7t (b : List Int) (a : Int) (g : Int) (c : Int) : Option (Int × List Int):=
  (idx b c).bind fun d=>(idx b a).bind fun h=>(idx b a).bind fun _=>(idx (b.set a.toNat d) c).bind fun _=>(loop (q7u a) (w64 (a + 1),w64 (g - 1),(b.set a.toNat d).set c.toNat h)).bind fun f=>some (f.1,f.2)
noncomputable def q7y (h : Int) (c : List Int) (b : Int) (d : Int) (f : Int) (g : Int) (a : Int) : Option ((Int) ⊕ (Int)):=
  (cond (decide (a≤(w64 (h - 1)))) ((idx ((c.set b.toNat d).set f.toNat g) a).bind fun j=>(idx ((c.set b.toNat d).set f.toNat g) b).bind fun k=>(Z5 j k).bind fun l=>some l) (some false)).bind fun m=>cond m (some (.inl (w64 (a + 1)))) (some (.inr a))
noncomputable def q7z (h : Int) (c : List Int) (b : Int) (d : Int) (f : Int) (g : Int) (a : Int) : Option ((Int) ⊕ (Int)):=
  (cond (decide (h≤a)) ((idx ((c.set b.toNat d).set f.toNat g) a).bind fun j=>(idx ((c.set b.toNat d).set f.toNat g) b).bind fun k=>(Z5 j k).bind fun l=>some (!l)) (some false)).bind fun m=>cond m (some (.inl (w64 (a - 1)))) (some (.inr a))
noncomputable def q81 (b : Int × Int × List Int) (c : Int) (a : Int) : Option ((Int) ⊕ (Int)):=
  (cond (decide (a≤b.2.1)) ((idx b.2.2 a).bind fun d=>(idx b.2.2 c).bind fun f=>(Z5 d f).bind fun g=>some g) (some false)).bind fun h=>cond h (some (.inl (w64 (a + 1)))) (some (.inr a))
noncomputable def q82 (c : Int) (b : Int × Int × List Int) (d : Int) (a : Int) : Option ((Int) ⊕ (Int)):=
  (cond (decide (c≤a)) ((idx b.2.2 a).bind fun f=>(idx b.2.2 d).bind fun g=>(Z5 f g).bind fun h=>some (!h)) (some false)).bind fun j=>cond j (some (.inl (w64 (a - 1)))) (some (.inr a))
noncomputable def q80 (d : Int) (a : Int × Int × List Int) : Option ((Int × Int × List Int) ⊕ (Int × List Int)):=
  (loop (q81 a d) a.1).bind fun b=>(loop (q82 b a d) a.2.1).bind fun c=>cond (decide (b > c)) (some (.inr (c,a.2.2))) ((idx a.2.2 c).bind fun f=>(idx a.2.2 b).bind fun g=>(idx a.2.2 b).bind fun _=>(idx (a.2.2.set b.toNat f) c).bind fun _=>some (.inl (w64 (b + 1),w64 (c - 1),(a.2.2.set b.toNat f).set c.toNat g)))
noncomputable def q7x (b : List Int) (a : Int) (k : Int) (c : Int) : Option (Int × Bool × List Int):=
  (idx b c).bind fun d=>(idx b a).bind fun f=>(idx b a).bind fun _=>(idx (b.set a.toNat d) c).bind fun _=>(loop (q7y k b a d c f) (w64 (a + 1))).bind fun j=>(loop (q7z j b a d c f) (w64 (k - 1))).bind fun g=>cond (decide (j > g)) ((idx ((b.set a.toNat d).set c.toNat f) a).bind fun l=>(idx ((b.set a.toNat d).set c.toNat f) g).bind fun o=>(idx ((b.set a.toNat d).set c.toNat f) g).bind fun _=>(idx (((b.set a.toNat d).set c.toNat f).set g.toNat l) a).bind fun _=>some (g,true,(((b.set a.toNat d).set c.toNat f).set g.toNat l).set a.toNat o)) ((idx ((b.set a.toNat d).set c.toNat f) g).bind fun m=>(idx ((b.set a.toNat d).set c.toNat f) j).bind fun p=>(idx ((b.set a.toNat d).set c.toNat f) j).bind fun _=>(idx (((b.set a.toNat d).set c.toNat f).set j.toNat m) g).bind fun _=>(loop (q80 a) (w64 (j + 1),w64 (g - 1),(((b.set a.toNat d).set c.toNat f).set j.toNat m).set g.toNat p)).bind fun h=>(idx h.2 a).bind fun n=>(idx h.2 h.1).bind fun q=>(idx h.2 h.1).bind fun _=>(idx (h.2.set h.1.toNat n) a).bind fun _=>some (h.1,false,(h.2.set h.1.toNat n).set a.toNat q))
noncomputable def Uk (a : Int) : Option Int:=
  (Jp (IntKind.wrap .u64 a)).bind fun b=>(shlK .u64 1 b).bind fun c=>some c
noncomputable def Ul (a : Int) : Option Int:=
  some (xorI .u64 (xorI .u64 (xorI .u64 a (IntKind.wrap .u64 (a * (2 ^ 13)))) (Int.fdiv (xorI .u64 a (IntKind.wrap .u64 (a * (2 ^ 13)))) (2 ^ 7))) (IntKind.wrap .u64 ((xorI .u64 (xorI .u64 a (IntKind.wrap .u64 (a * (2 ^ 13)))) (Int.fdiv (xorI .u64 a (IntKind.wrap .u64 (a * (2 ^ 13)))) (2 ^ 7))) * (2 ^ 17))))
noncomputable def q7d (b : Int) (d : Int) (f : Int) (a : Int × List Int × Int) : Option ((Int × List Int × Int) ⊕ (List Int)):=
  cond (decide (a.1≤(w64 ((w64 (b + (w64 ((w64 (Int.tdiv (w64 (d - b)) 4)) * 2)))) + 1)))) ((Ul a.2.2).bind fun c=>(cond (decide ((w64 (andI .u64 c (IntKind.wrap .u64 (f - 1)))) ≥ (w64 (d - b)))) (some (w64 ((w64 (andI .u64 c (IntKind.wrap .u64 (f - 1)))) - (w64 (d - b))))) (some (w64 (andI .u64 c (IntKind.wrap .u64 (f - 1)))))).bind fun g=>(idx a.2.1 (w64 (b + g))).bind fun h=>(idx a.2.1 a.1).bind fun j=>(idx a.2.1 a.1).bind fun _=>(idx (a.2.1.set a.1.toNat h) (w64 (b + g))).bind fun _=>some (.inl (w64 (a.1 + 1),(a.2.1.set a.1.toNat h).set (w64 (b + g)).toNat j,c))) (some (.inr a.2.1))
noncomputable def q7c (c : List Int) (a : Int) (b : Int) : Option (List Int):=
  cond (decide ((w64 (b - a)) ≥ 8)) ((Uk (w64 (b - a))).bind fun d=>(loop (q7d a b d) (w64 ((w64 (a + (w64 ((w64 (Int.tdiv (w64 (b - a)) 4)) * 2)))) - 1),c,IntKind.wrap .u64 (w64 (b - a)))).bind fun f=>some f) (some c)
noncomputable def q57 (rec : List Int→Int→Int→Int→Option (List Int)) (a : Int × Int × Int × Bool × Bool × List Int) : Option ((Int × Int × Int × Bool × Bool × List Int) ⊕ (List Int)):=
  cond (decide ((w64 (a.2.1 - a.1))≤12)) ((q7i a.2.2.2.2.2 a.1 a.2.1).bind fun k=>(K1 k.length a.2.2.2.2.2.length).bind fun _=>some (.inr k)) (cond (a.2.2.1 == 0) ((q7f a.2.2.2.2.2 a.1 a.2.1).bind fun l=>(K1 l.length a.2.2.2.2.2.length).bind fun _=>some (.inr l)) ((cond (!a.2.2.2.1) ((q7c a.2.2.2.2.2 a.1 a.2.1).bind fun m=>(K1 m.length a.2.2.2.2.2.length).bind fun _=>some (w64 (a.2.2.1 - 1),m)) (some (a.2.2.1,a.2.2.2.2.2))).bind fun c=>(q7e c.2 a.1 a.2.1).bind fun g=>(cond (g.2 == 2) ((q8a c.2 a.1 a.2.1).bind fun n=>(K1 n.length c.2.length).bind fun _=>some (w64 ((w64 (a.2.1 - 1)) - (w64 (g.1 - a.1))),1,n)) (some (g.1,g.2,c.2))).bind fun d=>(cond a.2.2.2.1 (some a.2.2.2.2.1) (some false)).bind fun q=>(cond q (some (d.2.1 == 1)) (some false)).bind fun r=>(cond r ((q55 d.2.2 a.1 a.2.1).bind fun h=>(K1 h.2.length d.2.2.length).bind fun _=>cond h.1 (some (.inr h.2)) (some (.inl h.2))) (some (.inl d.2.2)) : Option ((List Int) ⊕ (List Int))).bind fun s=>(match s with | .inl f=>(cond (decide (a.1 > 0)) ((idx f (w64 (a.1 - 1))).bind fun t=>(idx f d.1).bind fun u=>(Z5 t u).bind fun v=>some (!v)) (some false)).bind fun w=>cond w ((q7t f a.1 a.2.1 d.1).bind fun j=>(K1 j.2.length f.length).bind fun _=>some (.inl (j.1,a.2.1,c.1,a.2.2.2.1,a.2.2.2.2.1,j.2))) ((q7x f a.1 a.2.1 d.1).bind fun b=>(K1 b.2.2.length f.length).bind fun _=>cond (decide ((w64 (b.1 - a.1)) < (w64 (a.2.1 - b.1)))) ((rec b.2.2 a.1 b.1 c.1).bind fun o=>(K1 o.length b.2.2.length).bind fun _=>some (.inl (w64 (b.1 + 1),a.2.1,c.1,decide ((w64 (b.1 - a.1)) ≥ (w64 (Int.tdiv (w64 (a.2.1 - a.1)) 8))),b.2.1,o))) ((rec b.2.2 (w64 (b.1 + 1)) a.2.1 c.1).bind fun p=>(K1 p.length b.2.2.length).bind fun _=>some (.inl (a.1,b.1,c.1,decide ((w64 (a.2.1 - b.1)) ≥ (w64 (Int.tdiv (w64 (a.2.1 - a.1)) 8))),b.2.1,p)))) | .inr x=>some (.inr x))))
noncomputable def q58 (rec : List Int→Int→Int→Int→Option (List Int)) (a : List Int) (b : Int) (c : Int) (d : Int) : Option (List Int):=
  (loop (q57 rec) (b,c,d,true,true,a)).bind fun f=>some f
noncomputable def q89 : Nat→List Int→Int→Int→Int→Option (List Int)
  | 0,_,_,_,_=>none
  | n + 1,a,b,c,d=>q58 (q89 n)  a b c d
noncomputable def Uj (a : List Int) : Option (List Int):=
  (Jp (IntKind.wrap .u64 (a.length : Int))).bind fun c=>(lim (fun n=>q89 n a 0 (a.length : Int) c)).bind fun b=>(K1 b.length a.length).bind fun _=>some b
noncomputable def q2p (a : Int × (Nat × Nat) × Int × List Int) : Option ((Int × (Nat × Nat) × Int × List Int) ⊕ (Int × List Int)):=
  cond (decide (a.2.2.1 < (a.2.1.2 : Int))) (((idxW a.2.2.2 a.2.1 a.2.2.1).bind fun c=>(idxW a.2.2.2 a.2.1 (w64 (a.2.2.1 - 1))).bind fun d=>cond (c != d) ((idxW a.2.2.2 a.2.1 a.2.2.1).bind fun f=>(idx a.2.2.2 a.1).bind fun _=>some (w64 (a.1 + 1),a.2.1,a.2.2.2.set a.1.toNat f)) (some (a.1,a.2.1,a.2.2.2))).bind fun b=>some (.inl (b.1,b.2.1,w64 (a.2.2.1 + 1),b.2.2))) (some (.inr (a.1,a.2.2.2)))
noncomputable def Jt (a : List Int) (b : Int) : Option ((Int) ⊕ ((Unit) ⊕ ((Nat × Nat) × List Int))):=
  cond (decide (b < (a.length : Int))) ((idx a b).bind fun d=>(idx a (w64 (b - 1))).bind fun f=>cond (d == f) ((sub2 a.length b a.length).bind fun g=>(loop q2p (b,g,1,a)).bind fun c=>(sub2 c.2.length c.1 c.2.length).bind fun h=>(sub2 c.2.length 0 c.1).bind fun j=>some (.inr (.inr (j,clrw c.2 h 0)))) (some (.inl (w64 (b + 1))))) (some (.inr (.inl ())))
noncomputable def q24 (a : List Int) : Option ((Nat × Nat) × List Int):=
  cond (decide ((a.length : Int) < 2)) (some ((0,a.length),a)) ((loop (Jt a) 1 : Option ((Unit) ⊕ ((Nat × Nat) × List Int))).bind fun b=>(match b with | .inl _=>some ((0,a.length),a) | .inr c=>some c))
structure qp where
  Lo : Int
  Hi : Int
  deriving DecidableEq
def Qx (x : qp) : List DV:=[.int .i64 x.Lo,.int .i64 x.Hi]
noncomputable def q3k (b : List qp) (c : qp→Option Bool) (a : Int) : Option ((Int) ⊕ ((Unit) ⊕ (Int))):=
  cond (decide (a < (b.length : Int))) ((idx b a).bind fun d=>(c d).bind fun f=>cond f (some (.inr (.inr a))) (some (.inl (w64 (a + 1))))) (some (.inr (.inl ())))
noncomputable def qal (a : List qp) (b : qp→Option Bool) : Option Int:=
  (loop (q3k a b) 0 : Option ((Unit) ⊕ (Int))).bind fun c=>(match c with | .inl _=>some (-1) | .inr d=>some d)
noncomputable def qak (a : List qp) (b : qp→Option Bool) : Option Bool:=
  (qal a b).bind fun c=>some (decide (c ≥ 0))
noncomputable def q3p (a : qp) : Option Bool:=
  (cond (decide (a.Lo < a.Hi)) (some (decide (a.Lo ≥ (-1000000)))) (some false)).bind fun b=>(cond b (some (decide (a.Hi≤1000000))) (some false)).bind fun c=>some c
noncomputable def qee (a : qp) : Option Bool:=
  (q3p a).bind fun b=>some (!b)
def q2b (x : List qp) : List DV:=[.sl 2 (x.map Qx)]
structure qr where
  at_ : Int
  list_ : Int
  by_ : Int
  deriving DecidableEq
def Qd (x : qr) : List DV:=[.int .i64 x.at_,.int .i64 x.list_,.int .i64 x.by_]
noncomputable def qc9 (a : qr) (b : qr) : Option Int:=
  some (w64 (a.at_ - b.at_))
noncomputable def qb3 (c : Int) (d : qr→qr→Option Int) (a : Int × List qr) : Option ((Int × List qr) ⊕ (List qr)):=
  (cond (decide (a.1 > c)) ((idx a.2 a.1).bind fun f=>(idx a.2 (w64 (a.1 - 1))).bind fun g=>(d f g).bind fun h=>some (decide (h < 0))) (some false)).bind fun j=>cond j ((idx a.2 (w64 (a.1 - 1))).bind fun b=>(idx a.2 a.1).bind fun k=>(idx a.2 a.1).bind fun _=>(idx (a.2.set a.1.toNat b) (w64 (a.1 - 1))).bind fun _=>some (.inl (w64 (a.1 - 1),(a.2.set a.1.toNat b).set (w64 (a.1 - 1)).toNat k))) (some (.inr a.2))
noncomputable def qb2 (b : Int) (c : Int) (d : qr→qr→Option Int) (a : Int × List qr) : Option ((Int × List qr) ⊕ (List qr)):=
  cond (decide (a.1 < b)) (((loop (qb3 c d) (a.1,a.2)).bind fun f=>some f).bind fun g=>some (.inl (w64 (a.1 + 1),g))) (some (.inr a.2))
noncomputable def qb1 (b : qr→qr→Option Int) (c : List qr) (a : Int) (d : Int) : Option (List qr):=
  (loop (qb2 d a b) (w64 (a + 1),c)).bind fun f=>some f
noncomputable def qc1 (d : Int) (b : Int) (f : qr→qr→Option Int) (a : Int × List qr) : Option ((Int × List qr) ⊕ (List qr)):=
  cond (decide ((w64 ((w64 (2 * a.1)) + 1)) ≥ d)) (some (.inr a.2)) ((cond (decide ((w64 ((w64 ((w64 (2 * a.1)) + 1)) + 1)) < d)) ((idx a.2 (w64 (b + (w64 ((w64 (2 * a.1)) + 1))))).bind fun h=>(idx a.2 (w64 ((w64 (b + (w64 ((w64 (2 * a.1)) + 1)))) + 1))).bind fun j=>(f h j).bind fun k=>some (decide (k < 0))) (some false)).bind fun l=>(cond l (some (w64 ((w64 ((w64 (2 * a.1)) + 1)) + 1))) (some (w64 ((w64 (2 * a.1)) + 1)))).bind fun c=>(idx a.2 (w64 (b + a.1))).bind fun m=>(idx a.2 (w64 (b + c))).bind fun n=>(f m n).bind fun o=>cond (!(decide (o < 0))) (some (.inr a.2)) ((idx a.2 (w64 (b + c))).bind fun g=>(idx a.2 (w64 (b + a.1))).bind fun p=>(idx a.2 (w64 (b + a.1))).bind fun _=>(idx (a.2.set (w64 (b + a.1)).toNat g) (w64 (b + c))).bind fun _=>some (.inl (c,(a.2.set (w64 (b + a.1)).toNat g).set (w64 (b + c)).toNat p))))
noncomputable def q8c (a : qr→qr→Option Int) (b : List qr) (c : Int) (d : Int) (f : Int) : Option (List qr):=
  (loop (qc1 d f a) (c,b)).bind fun g=>some g
noncomputable def qaw (d : qr→qr→Option Int) (f : Int) (b : Int) (a : Int × List qr) : Option ((Int × List qr) ⊕ (List qr)):=
  cond (decide (a.1 ≥ 0)) ((q8c d a.2 a.1 (w64 (f - b)) b).bind fun c=>(K1 c.length a.2.length).bind fun _=>some (.inl (w64 (a.1 - 1),c))) (some (.inr a.2))
noncomputable def qax (b : Int) (g : qr→qr→Option Int) (a : Int × List qr) : Option ((Int × List qr) ⊕ (List qr)):=
  cond (decide (a.1 ≥ 0)) ((idx a.2 (w64 (b + a.1))).bind fun c=>(idx a.2 b).bind fun d=>(idx a.2 b).bind fun _=>(idx (a.2.set b.toNat c) (w64 (b + a.1))).bind fun _=>(q8c g ((a.2.set b.toNat c).set (w64 (b + a.1)).toNat d) 0 a.1 b).bind fun f=>(K1 f.length ((a.2.set b.toNat c).set (w64 (b + a.1)).toNat d).length).bind fun _=>some (.inl (w64 (a.1 - 1),f))) (some (.inr a.2))
noncomputable def qav (c : qr→qr→Option Int) (d : List qr) (a : Int) (b : Int) : Option (List qr):=
  (loop (qaw c b a) (w64 (Int.tdiv (w64 ((w64 (b - a)) - 1)) 2),d)).bind fun f=>(loop (qax a c) (w64 ((w64 (b - a)) - 1),f)).bind fun g=>some g
noncomputable def q54 (f : qr→qr→Option Int) (c : List qr) (a : Int) (b : Int) (d : Int) : Option (Int × Int × Int):=
  (idx c b).bind fun g=>(idx c a).bind fun h=>(f g h).bind fun j=>cond (decide (j < 0)) (some (b,a,w64 (d + 1))) (some (a,b,d))
noncomputable def q7m (a : qr→qr→Option Int) (b : List qr) (g : Int) (h : Int) (j : Int) (k : Int) : Option (Int × Int):=
  (q54 a b g h k).bind fun c=>(q54 a b c.2.1 j c.2.2).bind fun d=>(q54 a b c.1 d.1 d.2.2).bind fun f=>some (f.2.1,f.2.2)
noncomputable def q51 (c : qr→qr→Option Int) (d : List qr) (a : Int) (f : Int) : Option (Int × Int):=
  (q7m c d (w64 (a - 1)) a (w64 (a + 1)) f).bind fun b=>some (b.1,b.2)
noncomputable def qar (d : List qr) (a : Int) (b : Int) (f : qr→qr→Option Int) : Option (Int × Int):=
  (cond (decide ((w64 (b - a)) ≥ 8)) ((cond (decide ((w64 (b - a)) ≥ 50)) ((q51 f d (w64 (a + (w64 ((w64 (Int.tdiv (w64 (b - a)) 4)) * 1)))) 0).bind fun h=>(q51 f d (w64 (a + (w64 ((w64 (Int.tdiv (w64 (b - a)) 4)) * 2)))) h.2).bind fun j=>(q51 f d (w64 (a + (w64 ((w64 (Int.tdiv (w64 (b - a)) 4)) * 3)))) j.2).bind fun k=>some (h.1,j.1,k.1,k.2)) (some (w64 (a + (w64 ((w64 (Int.tdiv (w64 (b - a)) 4)) * 1))),w64 (a + (w64 ((w64 (Int.tdiv (w64 (b - a)) 4)) * 2))),w64 (a + (w64 ((w64 (Int.tdiv (w64 (b - a)) 4)) * 3))),0))).bind fun g=>(q7m f d g.1 g.2.1 g.2.2.1 g.2.2.2).bind fun l=>some (l.1,l.2)) (some (w64 (a + (w64 ((w64 (Int.tdiv (w64 (b - a)) 4)) * 2))),0))).bind fun c=>cond (c.2 == 0) (some (c.1,1)) (cond (c.2 == 12) (some (c.1,2)) (some (c.1,0)))
noncomputable def qby (a : Int × Int × List qr) : Option ((Int × Int × List qr) ⊕ (List qr)):=
  cond (decide (a.1 < a.2.1)) ((idx a.2.2 a.2.1).bind fun b=>(idx a.2.2 a.1).bind fun c=>(idx a.2.2 a.1).bind fun _=>(idx (a.2.2.set a.1.toNat b) a.2.1).bind fun _=>some (.inl (w64 (a.1 + 1),w64 (a.2.1 - 1),(a.2.2.set a.1.toNat b).set a.2.1.toNat c))) (some (.inr a.2.2))
noncomputable def qbx (f : qr→qr→Option Int) (a : List qr) (b : Int) (c : Int) : Option (List qr):=
  (loop qby (b,w64 (c - 1),a)).bind fun d=>some d
noncomputable def qb7 (c : Int) (b : Int × Int × List qr) (d : qr→qr→Option Int) (a : Int) : Option ((Int) ⊕ (Int)):=
  (cond (decide (a < c)) ((idx b.2.2 a).bind fun f=>(idx b.2.2 (w64 (a - 1))).bind fun g=>(d f g).bind fun h=>some (!(decide (h < 0)))) (some false)).bind fun j=>cond j (some (.inl (w64 (a + 1)))) (some (.inr a))
noncomputable def qb8 (c : qr→qr→Option Int) (a : Int × List qr) : Option ((Int × List qr) ⊕ (List qr)):=
  cond (decide (a.1 ≥ 1)) ((idx a.2 a.1).bind fun d=>(idx a.2 (w64 (a.1 - 1))).bind fun f=>(c d f).bind fun g=>cond (!(decide (g < 0))) (some (.inr a.2)) ((idx a.2 (w64 (a.1 - 1))).bind fun b=>(idx a.2 a.1).bind fun h=>(idx a.2 a.1).bind fun _=>(idx (a.2.set a.1.toNat b) (w64 (a.1 - 1))).bind fun _=>some (.inl (w64 (a.1 - 1),(a.2.set a.1.toNat b).set (w64 (a.1 - 1)).toNat h)))) (some (.inr a.2))
noncomputable def qb9 (d : Int) (f : qr→qr→Option Int) (b : Int) (a : Int × List qr) : Option ((Int × List qr) ⊕ (Int × List qr)):=
  cond (decide (a.1 < d)) ((idx a.2 a.1).bind fun g=>(idx a.2 (w64 (a.1 - 1))).bind fun h=>(f g h).bind fun j=>cond (!(decide (j < 0))) (some (.inr (b,a.2))) ((idx a.2 (w64 (a.1 - 1))).bind fun c=>(idx a.2 a.1).bind fun k=>(idx a.2 a.1).bind fun _=>(idx (a.2.set a.1.toNat c) (w64 (a.1 - 1))).bind fun _=>some (.inl (w64 (a.1 + 1),(a.2.set a.1.toNat c).set (w64 (a.1 - 1)).toNat k)))) (some (.inr (b,a.2)))
noncomputable def q7q (c : Int) (d : qr→qr→Option Int) (h : Int) (b : Int × Int × List qr) : Option ((Int × Int × List qr) ⊕ ((List qr) ⊕ (Bool × List qr))):=
  cond (decide (b.2.1 < 5)) (((loop (qb7 c b d) b.1).bind fun a=>cond (a == c) (some (.inr (true,b.2.2))) (cond (decide ((w64 (c - h)) < 50)) (some (.inr (false,b.2.2))) ((idx b.2.2 (w64 (a - 1))).bind fun f=>(idx b.2.2 a).bind fun j=>(idx b.2.2 a).bind fun _=>(idx (b.2.2.set a.toNat f) (w64 (a - 1))).bind fun _=>(cond (decide ((w64 (a - h)) ≥ 2)) ((loop (qb8 d) (w64 (a - 1),(b.2.2.set a.toNat f).set (w64 (a - 1)).toNat j)).bind fun g=>some g) (some ((b.2.2.set a.toNat f).set (w64 (a - 1)).toNat j))).bind fun k=>cond (decide ((w64 (c - a)) ≥ 2)) ((loop (qb9 c d a) (w64 (a + 1),k)).bind fun g=>some (.inl g)) (some (.inl (a,k))))) : Option ((Int × List qr) ⊕ (Bool × List qr))).bind fun m=>(match m with | .inl l=>some (.inl (l.1,w64 (b.2.1 + 1),l.2)) | .inr n=>some (.inr (.inr n)))) (some (.inr (.inl b.2.2)))
noncomputable def q7p (b : qr→qr→Option Int) (c : List qr) (a : Int) (d : Int) : Option (Bool × List qr):=
  (loop (q7q d b a) (w64 (a + 1),0,c) : Option ((List qr) ⊕ (Bool × List qr))).bind fun f=>(match f with | .inl g=>some (false,g) | .inr h=>some h)
noncomputable def qbt (b : Int × Int × List qr) (c : Int) (d : qr→qr→Option Int) (a : Int) : Option ((Int) ⊕ (Int)):=
  (cond (decide (a≤b.2.1)) ((idx b.2.2 c).bind fun f=>(idx b.2.2 a).bind fun g=>(d f g).bind fun h=>some (!(decide (h < 0)))) (some false)).bind fun j=>cond j (some (.inl (w64 (a + 1)))) (some (.inr a))
noncomputable def qbu (c : Int) (b : Int × Int × List qr) (d : Int) (f : qr→qr→Option Int) (a : Int) : Option ((Int) ⊕ (Int)):=
  (cond (decide (c≤a)) ((idx b.2.2 d).bind fun g=>(idx b.2.2 a).bind fun h=>(f g h).bind fun j=>some (decide (j < 0))) (some false)).bind fun k=>cond k (some (.inl (w64 (a - 1)))) (some (.inr a))
noncomputable def qbs (d : Int) (f : qr→qr→Option Int) (a : Int × Int × List qr) : Option ((Int × Int × List qr) ⊕ (Int × List qr)):=
  (loop (qbt a d f) a.1).bind fun b=>(loop (qbu b a d f) a.2.1).bind fun c=>cond (decide (b > c)) (some (.inr (b,a.2.2))) ((idx a.2.2 c).bind fun g=>(idx a.2.2 b).bind fun h=>(idx a.2.2 b).bind fun _=>(idx (a.2.2.set b.toNat g) c).bind fun _=>some (.inl (w64 (b + 1),w64 (c - 1),(a.2.2.set b.toNat g).set c.toNat h)))
noncomputable def qbr (g : qr→qr→Option Int) (b : List qr) (a : Int) (h : Int) (c : Int) : Option (Int × List qr):=
  (idx b c).bind fun d=>(idx b a).bind fun j=>(idx b a).bind fun _=>(idx (b.set a.toNat d) c).bind fun _=>(loop (qbs a g) (w64 (a + 1),w64 (h - 1),(b.set a.toNat d).set c.toNat j)).bind fun f=>some (f.1,f.2)
noncomputable def qbi (h : Int) (c : List qr) (b : Int) (d : qr) (f : Int) (g : qr) (j : qr→qr→Option Int) (a : Int) : Option ((Int) ⊕ (Int)):=
  (cond (decide (a≤(w64 (h - 1)))) ((idx ((c.set b.toNat d).set f.toNat g) a).bind fun k=>(idx ((c.set b.toNat d).set f.toNat g) b).bind fun l=>(j k l).bind fun m=>some (decide (m < 0))) (some false)).bind fun n=>cond n (some (.inl (w64 (a + 1)))) (some (.inr a))
noncomputable def qbj (h : Int) (c : List qr) (b : Int) (d : qr) (f : Int) (g : qr) (j : qr→qr→Option Int) (a : Int) : Option ((Int) ⊕ (Int)):=
  (cond (decide (h≤a)) ((idx ((c.set b.toNat d).set f.toNat g) a).bind fun k=>(idx ((c.set b.toNat d).set f.toNat g) b).bind fun l=>(j k l).bind fun m=>some (!(decide (m < 0)))) (some false)).bind fun n=>cond n (some (.inl (w64 (a - 1)))) (some (.inr a))
noncomputable def qbl (b : Int × Int × List qr) (c : Int) (d : qr→qr→Option Int) (a : Int) : Option ((Int) ⊕ (Int)):=
  (cond (decide (a≤b.2.1)) ((idx b.2.2 a).bind fun f=>(idx b.2.2 c).bind fun g=>(d f g).bind fun h=>some (decide (h < 0))) (some false)).bind fun j=>cond j (some (.inl (w64 (a + 1)))) (some (.inr a))
noncomputable def qbm (c : Int) (b : Int × Int × List qr) (d : Int) (f : qr→qr→Option Int) (a : Int) : Option ((Int) ⊕ (Int)):=
  (cond (decide (c≤a)) ((idx b.2.2 a).bind fun g=>(idx b.2.2 d).bind fun h=>(f g h).bind fun j=>some (!(decide (j < 0)))) (some false)).bind fun k=>cond k (some (.inl (w64 (a - 1)))) (some (.inr a))
noncomputable def qbk (d : Int) (f : qr→qr→Option Int) (a : Int × Int × List qr) : Option ((Int × Int × List qr) ⊕ (Int × List qr)):=
  (loop (qbl a d f) a.1).bind fun b=>(loop (qbm b a d f) a.2.1).bind fun c=>cond (decide (b > c)) (some (.inr (c,a.2.2))) ((idx a.2.2 c).bind fun g=>(idx a.2.2 b).bind fun h=>(idx a.2.2 b).bind fun _=>(idx (a.2.2.set b.toNat g) c).bind fun _=>some (.inl (w64 (b + 1),w64 (c - 1),(a.2.2.set b.toNat g).set c.toNat h)))
noncomputable def qbh (k : qr→qr→Option Int) (b : List qr) (a : Int) (l : Int) (c : Int) : Option (Int × Bool × List qr):=
  (idx b c).bind fun d=>(idx b a).bind fun f=>(idx b a).bind fun _=>(idx (b.set a.toNat d) c).bind fun _=>(loop (qbi l b a d c f k) (w64 (a + 1))).bind fun j=>(loop (qbj j b a d c f k) (w64 (l - 1))).bind fun g=>cond (decide (j > g)) ((idx ((b.set a.toNat d).set c.toNat f) a).bind fun m=>(idx ((b.set a.toNat d).set c.toNat f) g).bind fun p=>(idx ((b.set a.toNat d).set c.toNat f) g).bind fun _=>(idx (((b.set a.toNat d).set c.toNat f).set g.toNat m) a).bind fun _=>some (g,true,(((b.set a.toNat d).set c.toNat f).set g.toNat m).set a.toNat p)) ((idx ((b.set a.toNat d).set c.toNat f) g).bind fun n=>(idx ((b.set a.toNat d).set c.toNat f) j).bind fun q=>(idx ((b.set a.toNat d).set c.toNat f) j).bind fun _=>(idx (((b.set a.toNat d).set c.toNat f).set j.toNat n) g).bind fun _=>(loop (qbk a k) (w64 (j + 1),w64 (g - 1),(((b.set a.toNat d).set c.toNat f).set j.toNat n).set g.toNat q)).bind fun h=>(idx h.2 a).bind fun o=>(idx h.2 h.1).bind fun r=>(idx h.2 h.1).bind fun _=>(idx (h.2.set h.1.toNat o) a).bind fun _=>some (h.1,false,(h.2.set h.1.toNat o).set a.toNat r))
noncomputable def qap (b : Int) (d : Int) (f : Int) (a : Int × List qr × Int) : Option ((Int × List qr × Int) ⊕ (List qr)):=
  cond (decide (a.1≤(w64 ((w64 (b + (w64 ((w64 (Int.tdiv (w64 (d - b)) 4)) * 2)))) + 1)))) ((Ul a.2.2).bind fun c=>(cond (decide ((w64 (andI .u64 c (IntKind.wrap .u64 (f - 1)))) ≥ (w64 (d - b)))) (some (w64 ((w64 (andI .u64 c (IntKind.wrap .u64 (f - 1)))) - (w64 (d - b))))) (some (w64 (andI .u64 c (IntKind.wrap .u64 (f - 1)))))).bind fun g=>(idx a.2.1 (w64 (b + g))).bind fun h=>(idx a.2.1 a.1).bind fun j=>(idx a.2.1 a.1).bind fun _=>(idx (a.2.1.set a.1.toNat h) (w64 (b + g))).bind fun _=>some (.inl (w64 (a.1 + 1),(a.2.1.set a.1.toNat h).set (w64 (b + g)).toNat j,c))) (some (.inr a.2.1))
noncomputable def qao (g : qr→qr→Option Int) (c : List qr) (a : Int) (b : Int) : Option (List qr):=
  cond (decide ((w64 (b - a)) ≥ 8)) ((Uk (w64 (b - a))).bind fun d=>(loop (qap a b d) (w64 ((w64 (a + (w64 ((w64 (Int.tdiv (w64 (b - a)) 4)) * 2)))) - 1),c,IntKind.wrap .u64 (w64 (b - a)))).bind fun f=>some f) (some c)
noncomputable def q87 (c : qr→qr→Option Int) (rec : List qr→Int→Int→Int→Option (List qr)) (a : Int × Int × Int × Bool × Bool × List qr) : Option ((Int × Int × Int × Bool × Bool × List qr) ⊕ (List qr)):=
  cond (decide ((w64 (a.2.1 - a.1))≤12)) ((qb1 c a.2.2.2.2.2 a.1 a.2.1).bind fun l=>(K1 l.length a.2.2.2.2.2.length).bind fun _=>some (.inr l)) (cond (a.2.2.1 == 0) ((qav c a.2.2.2.2.2 a.1 a.2.1).bind fun m=>(K1 m.length a.2.2.2.2.2.length).bind fun _=>some (.inr m)) ((cond (!a.2.2.2.1) ((qao c a.2.2.2.2.2 a.1 a.2.1).bind fun n=>(K1 n.length a.2.2.2.2.2.length).bind fun _=>some (w64 (a.2.2.1 - 1),n)) (some (a.2.2.1,a.2.2.2.2.2))).bind fun d=>(qar d.2 a.1 a.2.1 c).bind fun h=>(cond (h.2 == 2) ((qbx c d.2 a.1 a.2.1).bind fun o=>(K1 o.length d.2.length).bind fun _=>some (w64 ((w64 (a.2.1 - 1)) - (w64 (h.1 - a.1))),1,o)) (some (h.1,h.2,d.2))).bind fun f=>(cond a.2.2.2.1 (some a.2.2.2.2.1) (some false)).bind fun r=>(cond r (some (f.2.1 == 1)) (some false)).bind fun s=>(cond s ((q7p c f.2.2 a.1 a.2.1).bind fun j=>(K1 j.2.length f.2.2.length).bind fun _=>cond j.1 (some (.inr j.2)) (some (.inl j.2))) (some (.inl f.2.2)) : Option ((List qr) ⊕ (List qr))).bind fun t=>(match t with | .inl g=>(cond (decide (a.1 > 0)) ((idx g (w64 (a.1 - 1))).bind fun u=>(idx g f.1).bind fun v=>(c u v).bind fun w=>some (!(decide (w < 0)))) (some false)).bind fun x=>cond x ((qbr c g a.1 a.2.1 f.1).bind fun k=>(K1 k.2.length g.length).bind fun _=>some (.inl (k.1,a.2.1,d.1,a.2.2.2.1,a.2.2.2.2.1,k.2))) ((qbh c g a.1 a.2.1 f.1).bind fun b=>(K1 b.2.2.length g.length).bind fun _=>cond (decide ((w64 (b.1 - a.1)) < (w64 (a.2.1 - b.1)))) ((rec b.2.2 a.1 b.1 d.1).bind fun p=>(K1 p.length b.2.2.length).bind fun _=>some (.inl (w64 (b.1 + 1),a.2.1,d.1,decide ((w64 (b.1 - a.1)) ≥ (w64 (Int.tdiv (w64 (a.2.1 - a.1)) 8))),b.2.1,p))) ((rec b.2.2 (w64 (b.1 + 1)) a.2.1 d.1).bind fun q=>(K1 q.length b.2.2.length).bind fun _=>some (.inl (a.1,b.1,d.1,decide ((w64 (a.2.1 - b.1)) ≥ (w64 (Int.tdiv (w64 (a.2.1 - a.1)) 8))),b.2.1,q)))) | .inr y=>some (.inr y))))
noncomputable def q88 (rec : List qr→Int→Int→Int→Option (List qr)) (a : qr→qr→Option Int) (b : List qr) (c : Int) (d : Int) (f : Int) : Option (List qr):=
  (loop (q87 a rec) (c,d,f,true,true,b)).bind fun g=>some g
noncomputable def q86 : Nat→(qr→qr→Option Int)→List qr→Int→Int→Int→Option (List qr)
  | 0,_,_,_,_,_=>none
  | n + 1,a,b,c,d,f=>q88 (q86 n a) a b c d f
noncomputable def q7b (c : qr→qr→Option Int) (a : List qr) : Option (List qr):=
  (Jp (IntKind.wrap .u64 (a.length : Int))).bind fun d=>(lim (fun n=>q86 n c a 0 (a.length : Int) d)).bind fun b=>(K1 b.length a.length).bind fun _=>some b
noncomputable def qec (a : List qr) : Option (List qr):=
  some a
noncomputable def q5f (b : List qp) (c : Int × List qr) (a : Int × List qr) : Option ((Int × List qr) ⊕ (List qr)):=
  cond (decide (a.1 < (b.length : Int))) ((idx b a.1).bind fun d=>(app 24 a.2 [({at_:=d.Lo,list_:=c.1,by_:=1} : qr),({at_:=d.Hi,list_:=c.1,by_:=(-1)} : qr)]).bind fun f=>some (.inl (w64 (a.1 + 1),f))) (some (.inr a.2))
noncomputable def q25 (b : List (List qp)) (a : Int × List qr) : Option ((Int × List qr) ⊕ (List qr)):=
  cond (decide (a.1 < (b.length : Int))) (((idx b a.1).bind fun c=>(loop (q5f c a) (0,a.2)).bind fun d=>some d).bind fun f=>some (.inl (w64 (a.1 + 1),f))) (some (.inr a.2))
noncomputable def qca (b : List (List qp)) : Option (List (List qp) × List qr):=
  (loop (q25 b) (0,[])).bind fun c=>(q7b (fun f g=>qc9 f g) c).bind fun a=>(K1 a.length c.length).bind fun _=>(qec a).bind fun d=>(K1 d.length a.length).bind fun _=>some (b,d)
noncomputable def qcb (d : Int) (c : Bool) (b : Int) (a : List qp) : Option (Bool × Int × List qp):=
  (cond (!c) (some true) (some (b == d))).bind fun f=>cond f (some (c,b,a)) ((cond (decide ((a.length : Int) > 0)) ((idx a (w64 ((a.length : Int) - 1))).bind fun g=>some (g.Hi == b)) (some false)).bind fun h=>cond h ((idx a (w64 ((a.length : Int) - 1))).bind fun j=>some (c,b,a.set (w64 ((a.length : Int) - 1)).toNat ({Lo:=j.Lo,Hi:=d} : qp))) ((app 16 a [({Lo:=b,Hi:=d} : qp)]).bind fun k=>some (c,b,k)))
noncomputable def q5g (f : List (List qp) × List qr) (g : Bool→Bool→Option Bool) (a : Int × List Int × Int × Bool × List qp) : Option ((Int × List Int × Int × Bool × List qp) ⊕ (List qp)):=
  cond (decide (a.1 < (f.2.length : Int))) ((idx f.2 a.1).bind fun b=>((qcb b.at_ a.2.2.2.1 a.2.2.1 a.2.2.2.2).bind fun h=>(idxA 2 a.2.1 b.list_).bind fun c=>(idxA 2 a.2.1 b.list_).bind fun _=>(idxA 2 (a.2.1.set b.list_.toNat (w64 (c + b.by_))) 0).bind fun j=>(idxA 2 (a.2.1.set b.list_.toNat (w64 (c + b.by_))) 1).bind fun k=>(g (decide (j > 0)) (decide (k > 0))).bind fun l=>some (a.2.1.set b.list_.toNat (w64 (c + b.by_)),l,h.2.2)).bind fun d=>some (.inl (w64 (a.1 + 1),d.1,b.at_,d.2.1,d.2.2))) (some (.inr a.2.2.2.2))
noncomputable def q8i (a : List qp) (b : List qp) (d : Bool→Bool→Option Bool) : Option (List qp):=
  (qca [a,b]).bind fun c=>(K1 c.1.length [a,b].length).bind fun _=>((loop (q5g c d) (0,[0,0],0,false,[])).bind fun f=>some f).bind fun g=>some g
noncomputable def qc8 (a : Bool) (b : Bool) : Option Bool:=
  some a
noncomputable def q3o (a : List qp) : Option (List qp × Int):=
  cond (decide ((a.length : Int) > 400)) (some ([],4)) ((qak a (fun b=>qee b)).bind fun c=>cond c (some ([],8)) ((q8i a [] (fun b d=>qc8 b d)).bind fun f=>some (f,0)))
noncomputable def qe9 (b : List qp) (f : List qp) (a : Int) : Option ((Int) ⊕ ((Unit) ⊕ (Bool))):=
  cond (decide (a < (b.length : Int))) ((idx b a).bind fun c=>(idx f a).bind fun d=>cond (!((c.Lo == d.Lo) && ((c.Hi == d.Hi) && true))) (some (.inr (.inr false))) (some (.inl (w64 (a + 1))))) (some (.inr (.inl ())))
noncomputable def q3j (a : List qp) (b : List qp) : Option Bool:=
  cond ((a.length : Int) != (b.length : Int)) (some false) ((loop (qe9 a b) 0 : Option ((Unit) ⊕ (Bool))).bind fun c=>(match c with | .inl _=>some true | .inr d=>some d))
noncomputable def q73 (c : Int) (a : Int × List qd) : Option ((Int × List qd) ⊕ (List qd)):=
  cond (decide (a.1 < (a.2.length : Int))) ((idx a.2 a.1).bind fun b=>some (.inl (w64 (a.1 + 1),a.2.set a.1.toNat ({X0:=b.X0,Y0:=b.Y0,X1:=c,Y1:=b.Y1} : qd)))) (some (.inr a.2))
noncomputable def q74 (b : List qp) (f : Int) (c : Int) (g : List qd) (a : Int × List qd) : Option ((Int × List qd) ⊕ (List qp × Int × Int × List qd)):=
  cond (decide (a.1 < (b.length : Int))) ((idx b a.1).bind fun d=>(app 32 a.2 [({X0:=f,Y0:=d.Lo,X1:=c,Y1:=d.Hi} : qd)]).bind fun h=>some (.inl (w64 (a.1 + 1),h))) (some (.inr (b,(g.length : Int),c,a.2)))
noncomputable def qa9 (a : List qd) (d : List qp) (f : Int) (h : Int) (g : Int) (b : Int) (c : List qp) : Option (List qp × Int × Int × List qd):=
  (cond (decide ((c.length : Int) > 0)) (some (h == g)) (some false)).bind fun j=>(cond j ((q3j d c).bind fun k=>some k) (some false)).bind fun l=>cond l ((loop (q73 b) (f,a)).bind fun m=>some (d,f,b,m)) ((loop (q74 c g b a) (0,a)).bind fun n=>some n)
noncomputable def q3e (b : List qd) (a : Int × List Int) : Option ((Int × List Int) ⊕ (List Int)):=
  cond (decide (a.1 < (b.length : Int))) ((idx b a.1).bind fun c=>(app 8 a.2 [c.X0,c.X1]).bind fun d=>some (.inl (w64 (a.1 + 1),d))) (some (.inr a.2))
noncomputable def q4v (c : List qd) (d : Int) (a : Int × List qp) : Option ((Int × List qp) ⊕ (List qp)):=
  cond (decide (a.1 < (c.length : Int))) (((idx c a.1).bind fun b=>(cond (decide (b.X0≤d)) (some (decide (d < b.X1))) (some false)).bind fun f=>cond f ((app 16 a.2 [({Lo:=b.Y0,Hi:=b.Y1} : qp)]).bind fun g=>some g) (some a.2)).bind fun h=>some (.inl (w64 (a.1 + 1),h))) (some (.inr a.2))
noncomputable def q3f (d : List Int) (g : List qd) (a : Int × List qp × Int × Int × List qd) : Option ((Int × List qp × Int × Int × List qd) ⊕ (List qp × Int × Int × List qd)):=
  cond (decide (a.1 < (d.length : Int))) ((idx d (w64 (a.1 - 1))).bind fun f=>(idx d a.1).bind fun h=>((idx [g] 0).bind fun j=>(loop (q4v j f) (0,[])).bind fun k=>some k).bind fun l=>((q3o l).bind fun m=>(qa9 a.2.2.2.2 a.2.1 a.2.2.1 a.2.2.2.1 f h m.1).bind fun b=>some (b.1,b.2.1,b.2.2.1,b.2.2.2)).bind fun c=>some (.inl (w64 (a.1 + 1),c.1,c.2.1,c.2.2.1,c.2.2.2))) (some (.inr (a.2.1,a.2.2.1,a.2.2.2.1,a.2.2.2.2)))
noncomputable def q75 (d : List qd) : Option (List qd × Int):=
  (((idx [d] 0).bind fun j=>(loop (q3e j) (0,[])).bind fun b=>some b).bind fun f=>(Uj f).bind fun c=>(K1 c.length f.length).bind fun _=>(q24 c).bind fun a=>(K1 a.2.length c.length).bind fun _=>(Un a.2.length a.1).bind fun _=>some ((a.2.drop a.1.1).take a.1.2)).bind fun k=>((loop (q3f k d) (1,[],0,0,[])).bind fun b=>some b).bind fun g=>(cond (decide ((g.2.2.2.length : Int) > 400)) (some (4,[])) (some (0,g.2.2.2))).bind fun h=>some (h.2,h.1)
noncomputable def qe7 (d : List qd) (f : List qd) (a : Int) : Option ((Int) ⊕ ((Unit) ⊕ (Bool))):=
  cond (decide (a < (d.length : Int))) ((idx d a).bind fun b=>(idx f a).bind fun c=>cond (!((b.X0 == c.X0) && ((b.Y0 == c.Y0) && ((b.X1 == c.X1) && ((b.Y1 == c.Y1) && true))))) (some (.inr (.inr false))) (some (.inl (w64 (a + 1))))) (some (.inr (.inl ())))
noncomputable def q3i (a : List qd) (b : List qd) : Option Bool:=
  cond ((a.length : Int) != (b.length : Int)) (some false) ((loop (qe7 a b) 0 : Option ((Unit) ⊕ (Bool))).bind fun c=>(match c with | .inl _=>some true | .inr d=>some d))
noncomputable def q72 (a : List qd) : Option Int:=
  cond (decide ((a.length : Int) > 400)) (some 4) ((qai a (fun c=>q3b c)).bind fun d=>cond d (some 8) ((q75 a).bind fun b=>(cond (b.2 != 0) (some true) ((q3i b.1 a).bind fun f=>some (!f))).bind fun g=>cond g (some 8) (some 0)))
noncomputable def q4z (b : List qk) (c : qk→Option Bool) (a : Int) : Option ((Int) ⊕ ((Unit) ⊕ (Int))):=
  cond (decide (a < (b.length : Int))) ((idx b a).bind fun d=>(c d).bind fun f=>cond f (some (.inr (.inr a))) (some (.inl (w64 (a + 1))))) (some (.inr (.inl ())))
noncomputable def qeb (a : List qk) (b : qk→Option Bool) : Option Int:=
  (loop (q4z a b) 0 : Option ((Unit) ⊕ (Int))).bind fun c=>(match c with | .inl _=>some (-1) | .inr d=>some d)
noncomputable def qaj (a : List qk) (b : qk→Option Bool) : Option Bool:=
  (qeb a b).bind fun c=>some (decide (c ≥ 0))
noncomputable def q8h (a : K7) : Option Bool:=
  (cond (decide ((min (min a.X a.Y) a.Z) ≥ (-1000000))) (some (decide ((max (max a.X a.Y) a.Z)≤1000000))) (some false)).bind fun b=>some b
noncomputable def qc5 (a : qk) : Option Bool:=
  (cond (decide (a.Lo.X < a.Hi.X)) (some (decide (a.Lo.Y < a.Hi.Y))) (some false)).bind fun b=>(cond b (some (decide (a.Lo.Z < a.Hi.Z))) (some false)).bind fun c=>(cond c ((q8h a.Lo).bind fun d=>some d) (some false)).bind fun f=>(cond f ((q8h a.Hi).bind fun g=>some g) (some false)).bind fun h=>some h
noncomputable def q3n (a : qk) : Option Bool:=
  (qc5 a).bind fun b=>some (!b)
def Yq (x : List qk) : List DV:=[.sl 6 (x.map Qn)]
noncomputable def q1c (b : List qd) (c : qd→Option Bool) (a : Int) : Option ((Int) ⊕ ((Unit) ⊕ (Int))):=
  cond (decide (a < (b.length : Int))) ((idx b a).bind fun d=>(c d).bind fun f=>cond f (some (.inr (.inr a))) (some (.inl (w64 (a + 1))))) (some (.inr (.inl ())))
noncomputable def q4x (a : List qd) (b : qd→Option Bool) : Option Int:=
  (loop (q1c a b) 0 : Option ((Unit) ⊕ (Int))).bind fun c=>(match c with | .inl _=>some (-1) | .inr d=>some d)
noncomputable def qah (a : List qd) (b : qd→Option Bool) : Option Bool:=
  (q4x a b).bind fun c=>some (decide (c ≥ 0))
noncomputable def q3c (a : qd) : Option Bool:=
  (q76 a).bind fun b=>some (!b)
noncomputable def q4u (a : List qd) : Option (List qd × Int):=
  cond (decide ((a.length : Int) > 400)) (some ([],4)) ((qah a (fun c=>q3c c)).bind fun d=>cond d (some ([],8)) ((q75 a).bind fun b=>some (b.1,b.2)))
noncomputable def q8f (c : Int) (a : Int × List qk) : Option ((Int × List qk) ⊕ (List qk)):=
  cond (decide (a.1 < (a.2.length : Int))) ((idx a.2 a.1).bind fun b=>some (.inl (w64 (a.1 + 1),a.2.set a.1.toNat ({Lo:=b.Lo,Hi:=({X:=b.Hi.X,Y:=b.Hi.Y,Z:=c} : K7)} : qk)))) (some (.inr a.2))
noncomputable def q8g (c : List qd) (f : Int) (d : Int) (g : List qk) (a : Int × List qk) : Option ((Int × List qk) ⊕ (List qd × Int × Int × List qk)):=
  cond (decide (a.1 < (c.length : Int))) ((idx c a.1).bind fun b=>(app 48 a.2 [({Lo:=({X:=b.X0,Y:=b.Y0,Z:=f} : K7),Hi:=({X:=b.X1,Y:=b.Y1,Z:=d} : K7)} : qk)]).bind fun h=>some (.inl (w64 (a.1 + 1),h))) (some (.inr (c,(g.length : Int),d,a.2)))
noncomputable def qc4 (a : List qk) (d : List qd) (f : Int) (h : Int) (g : Int) (b : Int) (c : List qd) : Option (List qd × Int × Int × List qk):=
  (cond (decide ((c.length : Int) > 0)) (some (h == g)) (some false)).bind fun j=>(cond j ((q3i d c).bind fun k=>some k) (some false)).bind fun l=>cond l ((loop (q8f b) (f,a)).bind fun m=>some (d,f,b,m)) ((loop (q8g c g b a) (0,a)).bind fun n=>some n)
noncomputable def q5b (b : List qk) (a : Int × List Int) : Option ((Int × List Int) ⊕ (List Int)):=
  cond (decide (a.1 < (b.length : Int))) ((idx b a.1).bind fun c=>(app 8 a.2 [c.Lo.Z,c.Hi.Z]).bind fun d=>some (.inl (w64 (a.1 + 1),d))) (some (.inr a.2))
noncomputable def q5d (c : List qk) (d : Int) (a : Int × List qd) : Option ((Int × List qd) ⊕ (List qd)):=
  cond (decide (a.1 < (c.length : Int))) (((idx c a.1).bind fun b=>(cond (decide (b.Lo.Z≤d)) (some (decide (d < b.Hi.Z))) (some false)).bind fun f=>cond f ((app 32 a.2 [({X0:=b.Lo.X,Y0:=b.Lo.Y,X1:=b.Hi.X,Y1:=b.Hi.Y} : qd)]).bind fun g=>some g) (some a.2)).bind fun h=>some (.inl (w64 (a.1 + 1),h))) (some (.inr a.2))
noncomputable def q5c (d : List Int) (h : List qk) (a : Int × List qd × Int × Int × List qk) : Option ((Int × List qd × Int × Int × List qk) ⊕ ((List qd × Int × Int × List qk) ⊕ (List qk × Int))):=
  cond (decide (a.1 < (d.length : Int))) ((idx d (w64 (a.1 - 1))).bind fun g=>(idx d a.1).bind fun j=>((idx [h] 0).bind fun k=>(loop (q5d k g) (0,[])).bind fun l=>some l).bind fun m=>((q4u m).bind fun f=>cond (f.2 != 0) (some (.inr ([],f.2))) ((qc4 a.2.2.2.2 a.2.1 a.2.2.1 a.2.2.2.1 g j f.1).bind fun b=>some (.inl (b.1,b.2.1,b.2.2.1,b.2.2.2))) : Option ((List qd × Int × Int × List qk) ⊕ (List qk × Int))).bind fun n=>(match n with | .inl c=>some (.inl (w64 (a.1 + 1),c.1,c.2.1,c.2.2.1,c.2.2.2)) | .inr o=>some (.inr (.inr o)))) (some (.inr (.inl (a.2.1,a.2.2.1,a.2.2.2.1,a.2.2.2.2))))
noncomputable def qc6 (f : List qk) : Option (List qk × Int):=
  (((idx [f] 0).bind fun j=>(loop (q5b j) (0,[])).bind fun b=>some b).bind fun g=>(Uj g).bind fun c=>(K1 c.length g.length).bind fun _=>(q24 c).bind fun a=>(K1 a.2.length c.length).bind fun _=>(Un a.2.length a.1).bind fun _=>some ((a.2.drop a.1.1).take a.1.2)).bind fun k=>((loop (q5c k f) (1,[],0,0,[]) : Option ((List qd × Int × Int × List qk) ⊕ (List qk × Int))).bind fun l=>(match l with | .inl b=>some (.inl b) | .inr d=>some (.inr d)) : Option ((List qd × Int × Int × List qk) ⊕ (List qk × Int))).bind fun m=>(match m with | .inl h=>cond (decide ((h.2.2.2.length : Int) > 400)) (some ([],4)) (some (h.2.2.2,0)) | .inr d=>some d)
noncomputable def qh4 (d : List qk) (f : List qk) (c : Int) : Option ((Int) ⊕ ((Unit) ⊕ (Bool))):=
  cond (decide (c < (d.length : Int))) ((idx d c).bind fun a=>(idx f c).bind fun b=>cond (!((a.Lo.X == b.Lo.X) && ((a.Lo.Y == b.Lo.Y) && ((a.Lo.Z == b.Lo.Z) && ((a.Hi.X == b.Hi.X) && ((a.Hi.Y == b.Hi.Y) && ((a.Hi.Z == b.Hi.Z) && true))))))) (some (.inr (.inr false))) (some (.inl (w64 (c + 1))))) (some (.inr (.inl ())))
noncomputable def qe8 (a : List qk) (b : List qk) : Option Bool:=
  cond ((a.length : Int) != (b.length : Int)) (some false) ((loop (qh4 a b) 0 : Option ((Unit) ⊕ (Bool))).bind fun c=>(match c with | .inl _=>some true | .inr d=>some d))
noncomputable def q5a (a : List qk) : Option Int:=
  cond (decide ((a.length : Int) > 400)) (some 4) ((qaj a (fun c=>q3n c)).bind fun d=>cond d (some 8) ((qc6 a).bind fun b=>(cond (b.2 != 0) (some true) ((qe8 b.1 a).bind fun f=>some (!f))).bind fun g=>cond g (some 8) (some 0)))
structure q14v where
  Region : List qd
  Height : Int
  deriving DecidableEq
noncomputable def q6z (c : Int) (a : Int × List qk) : Option ((Int × List qk) ⊕ (List qk)):=
  cond (decide (a.1 < (a.2.length : Int))) ((idx a.2 a.1).bind fun b=>some (.inl (w64 (a.1 + 1),a.2.set a.1.toNat ({Lo:=b.Lo,Hi:=({X:=b.Hi.X,Y:=b.Hi.Y,Z:=c} : K7)} : qk)))) (some (.inr a.2))
noncomputable def q70 (c : List qd) (f : Int) (d : Int) (g : List qk) (a : Int × List qk) : Option ((Int × List qk) ⊕ (List qd × Int × Int × List qk)):=
  cond (decide (a.1 < (c.length : Int))) ((idx c a.1).bind fun b=>(app 48 a.2 [({Lo:=({X:=b.X0,Y:=b.Y0,Z:=f} : K7),Hi:=({X:=b.X1,Y:=b.Y1,Z:=d} : K7)} : qk)]).bind fun h=>some (.inl (w64 (a.1 + 1),h))) (some (.inr (c,(g.length : Int),d,a.2)))
noncomputable def qa7 (a : List qk) (d : List qd) (f : Int) (h : Int) (g : Int) (b : Int) (c : List qd) : Option (List qd × Int × Int × List qk):=
  (cond (decide ((c.length : Int) > 0)) (some (h == g)) (some false)).bind fun j=>(cond j ((q3i d c).bind fun k=>some k) (some false)).bind fun l=>cond l ((loop (q6z b) (f,a)).bind fun m=>some (d,f,b,m)) ((loop (q70 c g b a) (0,a)).bind fun n=>some n)
noncomputable def q6x (c : List qk) (d : Int) (f : Int) (a : Int × List qp) : Option ((Int × List qp) ⊕ (List qp)):=
  cond (decide (a.1 < (c.length : Int))) (((idx c a.1).bind fun b=>(cond (decide (b.Lo.X≤d)) (some (decide (d < b.Hi.X))) (some false)).bind fun g=>(cond g (some (decide (b.Lo.Y≤f))) (some false)).bind fun h=>(cond h (some (decide (f < b.Hi.Y))) (some false)).bind fun j=>cond j ((app 16 a.2 [({Lo:=b.Lo.Z,Hi:=b.Hi.Z} : qp)]).bind fun k=>some k) (some a.2)).bind fun l=>some (.inl (w64 (a.1 + 1),l))) (some (.inr a.2))
noncomputable def qa5 (a : List qk) (d : Int) (f : Int) : Option (List qp × Int):=
  (q5a a).bind fun b=>cond (b != 0) (some ([],b)) ((loop (q6x a d f) (0,[])).bind fun g=>(q3o g).bind fun c=>some (c.1,c.2))
structure qcm where
  Turn : Int
  At : K7
  deriving DecidableEq
structure qi7 where
  Frame : qcm
  Size : K7
  deriving DecidableEq
noncomputable def qjz (a : Int) : Option K7:=
  cond ((IntKind.wrap .u8 (Int.tdiv a 2)) == 0) (some ({X:=w64 (1 - (w64 (2 * (w64 (Int.tmod a 2))))),Y:=0,Z:=0} : K7)) (cond ((IntKind.wrap .u8 (Int.tdiv a 2)) == 1) (some ({X:=0,Y:=w64 (1 - (w64 (2 * (w64 (Int.tmod a 2))))),Z:=0} : K7)) (some ({X:=0,Y:=0,Z:=w64 (1 - (w64 (2 * (w64 (Int.tmod a 2)))))} : K7)))
noncomputable def qsa (a : K7) (b : K7) : Option K7:=
  some ({X:=w64 ((w64 (a.Y * b.Z)) - (w64 (a.Z * b.Y))),Y:=w64 ((w64 (a.Z * b.X)) - (w64 (a.X * b.Z))),Z:=w64 ((w64 (a.X * b.Y)) - (w64 (a.Y * b.X)))} : K7)
noncomputable def qs9 (a : Int) : Option (K7 × K7 × K7):=
  (cond (decide ((Int.tmod a 4) ≥ (IntKind.wrap .u8 ((IntKind.wrap .u8 (Int.tdiv (IntKind.wrap .u8 (Int.tdiv a 4)) 2)) * 2)))) (some (IntKind.wrap .u8 ((Int.tmod a 4) + 2))) (some (Int.tmod a 4))).bind fun d=>(qjz (IntKind.wrap .u8 (Int.tdiv a 4))).bind fun b=>(qjz d).bind fun c=>(qsa b c).bind fun f=>some (b,c,f)
def q91 (x : K7) : List DV:=[.int .i64 x.X,.int .i64 x.Y,.int .i64 x.Z]
structure q14u where
  t_ : Int
  at_ : K7
  flat_ : K7
  deriving DecidableEq
noncomputable def qdu (b : List qp) (f : List qp) (a : Int) : Option ((Int) ⊕ ((Unit) ⊕ (Bool))):=
  cond (decide (a < (b.length : Int))) ((idx b a).bind fun c=>(idx f a).bind fun d=>cond (!((c.Lo == d.Lo) && ((c.Hi == d.Hi) && true))) (some (.inr (.inr false))) (some (.inl (w64 (a + 1))))) (some (.inr (.inl ())))
noncomputable def q2k (a : List qp) (b : List qp) : Option Bool:=
  cond ((a.length : Int) != (b.length : Int)) (some false) ((loop (qdu a b) 0 : Option ((Unit) ⊕ (Bool))).bind fun c=>(match c with | .inl _=>some true | .inr d=>some d))
noncomputable def q6m (a : K7) (b : Int) : Option Bool:=
  (cond (decide (a.X ≥ b)) (some (decide (a.Y ≥ b))) (some false)).bind fun c=>(cond c (some (decide (a.Z ≥ b))) (some false)).bind fun d=>(cond d (some (decide (a.X≤1000000))) (some false)).bind fun f=>(cond f (some (decide (a.Y≤1000000))) (some false)).bind fun g=>(cond g (some (decide (a.Z≤1000000))) (some false)).bind fun h=>some h
noncomputable def qa1 (a : qk) : Option Bool:=
  (q6m a.Lo (-1000000)).bind fun b=>(cond b ((q6m a.Hi (-1000000)).bind fun c=>some c) (some false)).bind fun d=>(cond d (some (decide (a.Lo.X < a.Hi.X))) (some false)).bind fun f=>(cond f (some (decide (a.Lo.Y < a.Hi.Y))) (some false)).bind fun g=>(cond g (some (decide (a.Lo.Z < a.Hi.Z))) (some false)).bind fun h=>some h
noncomputable def q4i (b : Int × List Int) (c : List Int) (a : Int) : Option ((Int) ⊕ (Int)):=
  (cond (decide (a > 0)) ((idx b.2 (w64 (a - 1))).bind fun d=>(idx c b.1).bind fun f=>some (decide (d > f))) (some false)).bind fun g=>cond g (some (.inl (w64 (a - 1)))) (some (.inr a))
noncomputable def q4h (d : List Int) (a : Int × List Int) : Option ((Int × List Int) ⊕ (List Int)):=
  cond (decide (a.1 < (d.length : Int))) (((loop (q4i a d) (a.2.length : Int)).bind fun c=>(cond (decide (c > 0)) ((idx a.2 (w64 (c - 1))).bind fun h=>(idx d a.1).bind fun j=>some (h == j)) (some false)).bind fun k=>cond k (some a.2) ((app 8 a.2 [0]).bind fun b=>(sub2 b.length (w64 (c + 1)) b.length).bind fun g=>(sub2 b.length c b.length).bind fun f=>(idx d a.1).bind fun l=>(idx (cpyw b g ((b.drop f.1).take f.2)) c).bind fun _=>some ((cpyw b g ((b.drop f.1).take f.2)).set c.toNat l))).bind fun m=>some (.inl (w64 (a.1 + 1),m))) (some (.inr a.2))
noncomputable def Zv (a : List Int) : Option (List Int):=
  (loop (q4h a) (0,[])).bind fun b=>some b
noncomputable def q4o (b : List qk) (a : Int × List Int) : Option ((Int × List Int) ⊕ (List Int)):=
  cond (decide (a.1 < (b.length : Int))) ((idx b a.1).bind fun c=>(idx b a.1).bind fun d=>(app 8 a.2 [c.Lo.Z,d.Hi.Z]).bind fun f=>some (.inl (w64 (a.1 + 1),f))) (some (.inr a.2))
noncomputable def q4p (b : List qk) (a : Int × List Int) : Option ((Int × List Int) ⊕ (List Int)):=
  cond (decide (a.1 < (b.length : Int))) ((idx b a.1).bind fun c=>(idx b a.1).bind fun d=>(app 8 a.2 [c.Lo.Z,d.Hi.Z]).bind fun f=>some (.inl (w64 (a.1 + 1),f))) (some (.inr a.2))
noncomputable def q37 (a : List qk) (b : List qk) : Option (List Int):=
  (loop (q4o a) (0,[])).bind fun c=>(loop (q4p b) (0,c)).bind fun d=>(Zv d).bind fun f=>some f
noncomputable def q6n (b : List qk) (c : Int) (a : Int × List qd) : Option ((Int × List qd) ⊕ (List qd)):=
  cond (decide (a.1 < (b.length : Int))) (((idx b a.1).bind fun d=>(cond (decide (d.Lo.Z≤c)) ((idx b a.1).bind fun f=>some (decide (c < f.Hi.Z))) (some false)).bind fun g=>cond g ((idx b a.1).bind fun h=>(idx b a.1).bind fun j=>(idx b a.1).bind fun k=>(idx b a.1).bind fun l=>(app 32 a.2 [({X0:=h.Lo.X,Y0:=j.Lo.Y,X1:=k.Hi.X,Y1:=l.Hi.Y} : qd)]).bind fun m=>some m) (some a.2)).bind fun n=>some (.inl (w64 (a.1 + 1),n))) (some (.inr a.2))
noncomputable def J6 (a : List qk) (b : Int) : Option (List qd):=
  (loop (q6n a b) (0,[])).bind fun c=>some c
noncomputable def q18 (b : List qd) (a : Int × List Int) : Option ((Int × List Int) ⊕ (List Int)):=
  cond (decide (a.1 < (b.length : Int))) ((idx b a.1).bind fun c=>(idx b a.1).bind fun d=>(app 8 a.2 [c.X0,d.X1]).bind fun f=>some (.inl (w64 (a.1 + 1),f))) (some (.inr a.2))
noncomputable def q19 (b : List qd) (a : Int × List Int) : Option ((Int × List Int) ⊕ (List Int)):=
  cond (decide (a.1 < (b.length : Int))) ((idx b a.1).bind fun c=>(idx b a.1).bind fun d=>(app 8 a.2 [c.X0,d.X1]).bind fun f=>some (.inl (w64 (a.1 + 1),f))) (some (.inr a.2))
noncomputable def q35 (a : List qd) (b : List qd) : Option (List Int):=
  (loop (q18 a) (0,[])).bind fun c=>(loop (q19 b) (0,c)).bind fun d=>(Zv d).bind fun f=>some f
noncomputable def q1a (b : List qd) (a : Int × List Int) : Option ((Int × List Int) ⊕ (List Int)):=
  cond (decide (a.1 < (b.length : Int))) ((idx b a.1).bind fun c=>(idx b a.1).bind fun d=>(app 8 a.2 [c.Y0,d.Y1]).bind fun f=>some (.inl (w64 (a.1 + 1),f))) (some (.inr a.2))
noncomputable def q1b (b : List qd) (a : Int × List Int) : Option ((Int × List Int) ⊕ (List Int)):=
  cond (decide (a.1 < (b.length : Int))) ((idx b a.1).bind fun c=>(idx b a.1).bind fun d=>(app 8 a.2 [c.Y0,d.Y1]).bind fun f=>some (.inl (w64 (a.1 + 1),f))) (some (.inr a.2))
noncomputable def q36 (a : List qd) (b : List qd) : Option (List Int):=
  (loop (q1a a) (0,[])).bind fun c=>(loop (q1b b) (0,c)).bind fun d=>(Zv d).bind fun f=>some f
noncomputable def q32 (b : List qd) (c : Int) (d : Int) (a : Int) : Option ((Int) ⊕ ((Unit) ⊕ (Bool))):=
  cond (decide (a < (b.length : Int))) ((idx b a).bind fun f=>(cond (decide (f.X0≤c)) ((idx b a).bind fun g=>some (decide (c < g.X1))) (some false)).bind fun h=>(cond h ((idx b a).bind fun j=>some (decide (j.Y0≤d))) (some false)).bind fun k=>(cond k ((idx b a).bind fun l=>some (decide (d < l.Y1))) (some false)).bind fun m=>cond m (some (.inr (.inr true))) (some (.inl (w64 (a + 1))))) (some (.inr (.inl ())))
noncomputable def q6d (a : List qd) (b : Int) (c : Int) : Option Bool:=
  (loop (q32 a b c) 0 : Option ((Unit) ⊕ (Bool))).bind fun d=>(match d with | .inl _=>some false | .inr f=>some f)
noncomputable def q6b (c : Int) (a : Bool) (b : Bool) : Option Bool:=
  cond (c == 1) ((cond a (some b) (some false)).bind fun d=>some d) (cond (c == 2) ((cond a (some true) (some b)).bind fun f=>some f) ((cond a (some (!b)) (some false)).bind fun g=>some g))
noncomputable def q4g (b : List Int) (c : List Bool) (a : Int × List qp) : Option ((Int × List qp) ⊕ (List qp)):=
  cond (decide ((w64 (a.1 + 1)) < (b.length : Int))) (((idx c a.1).bind fun d=>cond (!d) (some a.2) ((cond (decide ((a.2.length : Int) > 0)) ((idx a.2 (w64 ((a.2.length : Int) - 1))).bind fun f=>(idx b a.1).bind fun g=>some (f.Hi == g)) (some false)).bind fun h=>cond h ((idx b (w64 (a.1 + 1))).bind fun j=>(idx a.2 (w64 ((a.2.length : Int) - 1))).bind fun k=>some (a.2.set (w64 ((a.2.length : Int) - 1)).toNat ({Lo:=k.Lo,Hi:=j} : qp))) ((idx b a.1).bind fun l=>(idx b (w64 (a.1 + 1))).bind fun m=>(app 16 a.2 [({Lo:=l,Hi:=m} : qp)]).bind fun n=>some n))).bind fun o=>some (.inl (w64 (a.1 + 1),o))) (some (.inr a.2))
noncomputable def Uf (a : List Int) (b : List Bool) : Option (List qp):=
  (loop (q4g a b) (0,[])).bind fun c=>some c
noncomputable def q16 (b : List Int) (c : List Int) (d : List qp × Int × Int × List qd) (f : List qd) (g : List qd) (h : Int) (a : Int × List Bool) : Option ((Int × List Bool) ⊕ (List Bool)):=
  cond (decide (a.1 < (b.length : Int))) ((idx c d.2.2.1).bind fun j=>(idx b a.1).bind fun k=>(q6d f j k).bind fun l=>(idx c d.2.2.1).bind fun m=>(idx b a.1).bind fun n=>(q6d g m n).bind fun o=>(q6b h l o).bind fun p=>(app 1 a.2 [p]).bind fun q=>some (.inl (w64 (a.1 + 1),q))) (some (.inr a.2))
noncomputable def q17 (c : List Int) (d : List qp × Int × Int × List qd) (a : Int × List qd) : Option ((Int × List qd) ⊕ (List qd)):=
  cond (decide (a.1 < (a.2.length : Int))) ((idx c (w64 (d.2.2.1 + 1))).bind fun f=>(idx a.2 a.1).bind fun b=>some (.inl (w64 (a.1 + 1),a.2.set a.1.toNat ({X0:=b.X0,Y0:=b.Y0,X1:=f,Y1:=b.Y1} : qd)))) (some (.inr a.2))
noncomputable def q2l (b : List qp) (d : List Int) (c : List qp × Int × Int × List qd) (a : Int × List qd) : Option ((Int × List qd) ⊕ (List qp × Int × List qd)):=
  cond (decide (a.1 < (b.length : Int))) ((idx d c.2.2.1).bind fun f=>(idx b a.1).bind fun g=>(idx d (w64 (c.2.2.1 + 1))).bind fun h=>(idx b a.1).bind fun j=>(app 32 a.2 [({X0:=f,Y0:=g.Lo,X1:=h,Y1:=j.Hi} : qd)]).bind fun k=>some (.inl (w64 (a.1 + 1),k))) (some (.inr (b,(c.2.2.2.length : Int),a.2)))
noncomputable def Js (b : List Int) (d : List Int) (g : List qd) (h : List qd) (j : Int) (a : List qp × Int × Int × List qd) : Option ((List qp × Int × Int × List qd) ⊕ (List qd)):=
  cond (decide ((w64 (a.2.2.1 + 1)) < (b.length : Int))) (((loop (q16 d b a g h j) (0,[])).bind fun k=>(Uf d k).bind fun f=>(cond (decide (a.2.2.1 > 0)) ((q2k f a.1).bind fun l=>some l) (some false)).bind fun m=>cond m ((loop (q17 b a) (a.2.1,a.2.2.2)).bind fun n=>some (a.1,a.2.1,n)) ((loop (q2l f b a) (0,a.2.2.2)).bind fun o=>some o)).bind fun c=>some (.inl (c.1,c.2.1,w64 (a.2.2.1 + 1),c.2.2))) (some (.inr a.2.2.2))
noncomputable def Z8 (c : Int) (a : List qd) (b : List qd) : Option (List qd):=
  (q35 a b).bind fun d=>(q36 a b).bind fun f=>(loop (Js d f a b c) ([],0,0,[])).bind fun g=>some g
noncomputable def qdy (d : List qd) (f : List qd) (a : Int) : Option ((Int) ⊕ ((Unit) ⊕ (Bool))):=
  cond (decide (a < (d.length : Int))) ((idx d a).bind fun b=>(idx f a).bind fun c=>cond (!((b.X0 == c.X0) && ((b.Y0 == c.Y0) && ((b.X1 == c.X1) && ((b.Y1 == c.Y1) && true))))) (some (.inr (.inr false))) (some (.inl (w64 (a + 1))))) (some (.inr (.inl ())))
noncomputable def q34 (a : List qd) (b : List qd) : Option Bool:=
  cond ((a.length : Int) != (b.length : Int)) (some false) ((loop (qdy a b) 0 : Option ((Unit) ⊕ (Bool))).bind fun c=>(match c with | .inl _=>some true | .inr d=>some d))
noncomputable def q4q (c : List Int) (d : List qd × Int × Int × List qk) (a : Int × List qk) : Option ((Int × List qk) ⊕ (List qk)):=
  cond (decide (a.1 < (a.2.length : Int))) ((idx c (w64 (d.2.2.1 + 1))).bind fun f=>(idx a.2 a.1).bind fun b=>some (.inl (w64 (a.1 + 1),a.2.set a.1.toNat ({Lo:=b.Lo,Hi:=({X:=b.Hi.X,Y:=b.Hi.Y,Z:=f} : K7)} : qk)))) (some (.inr a.2))
noncomputable def q6r (b : List qd) (d : List Int) (c : List qd × Int × Int × List qk) (a : Int × List qk) : Option ((Int × List qk) ⊕ (List qd × Int × List qk)):=
  cond (decide (a.1 < (b.length : Int))) ((idx b a.1).bind fun f=>(idx b a.1).bind fun g=>(idx d c.2.2.1).bind fun h=>(idx b a.1).bind fun j=>(idx b a.1).bind fun k=>(idx d (w64 (c.2.2.1 + 1))).bind fun l=>(app 48 a.2 [({Lo:=({X:=f.X0,Y:=g.Y0,Z:=h} : K7),Hi:=({X:=j.X1,Y:=k.Y1,Z:=l} : K7)} : qk)]).bind fun m=>some (.inl (w64 (a.1 + 1),m))) (some (.inr (b,(c.2.2.2.length : Int),a.2)))
noncomputable def Ug (b : List Int) (f : List qk) (g : List qk) (h : Int) (a : List qd × Int × Int × List qk) : Option ((List qd × Int × Int × List qk) ⊕ ((List qk) ⊕ (List qk × Bool))):=
  cond (decide ((w64 (a.2.2.1 + 1)) < (b.length : Int))) (((idx b a.2.2.1).bind fun j=>(J6 f j).bind fun k=>(idx b a.2.2.1).bind fun l=>(J6 g l).bind fun m=>(Z8 h k m).bind fun c=>(cond (decide ((c.length : Int) > 400)) (some true) ((idx b a.2.2.1).bind fun n=>(J6 f n).bind fun o=>(Z8 2 o []).bind fun p=>some (decide ((p.length : Int) > 400)))).bind fun q=>(cond q (some true) ((idx b a.2.2.1).bind fun r=>(J6 g r).bind fun s=>(Z8 2 s []).bind fun t=>some (decide ((t.length : Int) > 400)))).bind fun u=>cond u (some (.inr ([],false))) ((cond (decide (a.2.2.1 > 0)) ((q34 c a.1).bind fun v=>some v) (some false)).bind fun w=>cond w ((loop (q4q b a) (a.2.1,a.2.2.2)).bind fun x=>some (.inl (a.1,a.2.1,x))) ((loop (q6r c b a) (0,a.2.2.2)).bind fun y=>some (.inl y))) : Option ((List qd × Int × List qk) ⊕ (List qk × Bool))).bind fun z=>(match z with | .inl d=>some (.inl (d.1,d.2.1,w64 (a.2.2.1 + 1),d.2.2)) | .inr x1=>some (.inr (.inr x1)))) (some (.inr (.inl a.2.2.2)))
noncomputable def q22 (d : Int) (a : List qk) (b : List qk) : Option (List qk × Bool):=
  (q37 a b).bind fun f=>(loop (Ug f a b d) ([],0,0,[]) : Option ((List qk) ⊕ (List qk × Bool))).bind fun g=>(match g with | .inl c=>some (c,decide ((c.length : Int)≤400)) | .inr h=>some h)
noncomputable def qdz (d : List qk) (f : List qk) (c : Int) : Option ((Int) ⊕ ((Unit) ⊕ (Bool))):=
  cond (decide (c < (d.length : Int))) ((idx d c).bind fun a=>(idx f c).bind fun b=>cond (!((a.Lo.X == b.Lo.X) && ((a.Lo.Y == b.Lo.Y) && ((a.Lo.Z == b.Lo.Z) && ((a.Hi.X == b.Hi.X) && ((a.Hi.Y == b.Hi.Y) && ((a.Hi.Z == b.Hi.Z) && true))))))) (some (.inr (.inr false))) (some (.inl (w64 (c + 1))))) (some (.inr (.inl ())))
noncomputable def q6s (a : List qk) (b : List qk) : Option Bool:=
  cond ((a.length : Int) != (b.length : Int)) (some false) ((loop (qdz a b) 0 : Option ((Unit) ⊕ (Bool))).bind fun c=>(match c with | .inl _=>some true | .inr d=>some d))
noncomputable def q6o (b : List qk) (a : Int) : Option ((Int) ⊕ ((Unit) ⊕ (Int))):=
  cond (decide (a < (b.length : Int))) ((idx b a).bind fun c=>(qa1 c).bind fun d=>cond (!d) (some (.inr (.inr 8))) (some (.inl (w64 (a + 1))))) (some (.inr (.inl ())))
noncomputable def q21 (a : List qk) : Option Int:=
  cond (decide ((a.length : Int) > 400)) (some 4) ((loop (q6o a) 0 : Option ((Unit) ⊕ (Int))).bind fun c=>(match c with | .inl _=>(q22 2 a []).bind fun b=>(cond (!b.2) (some true) ((q6s b.1 a).bind fun d=>some (!d))).bind fun f=>cond f (some 8) (some 0) | .inr g=>some g))
noncomputable def q9k (c : List qd) (a : Int) : Option Int:=
  (q72 c).bind fun b=>cond (b != 0) (some b) ((cond (decide (a < 0)) (some true) (some (decide (a > 1000000)))).bind fun d=>cond d (some 2) (some 0))
noncomputable def q4t (c : List qd) (a : Int × Int × Int × Int × Int) : Option ((Int × Int × Int × Int × Int) ⊕ (Int × Int × Int × Int)):=
  cond (decide (a.1 < (c.length : Int))) ((idx c a.1).bind fun b=>some (.inl (w64 (a.1 + 1),min a.2.1 b.X0,min a.2.2.1 b.Y0,max a.2.2.2.1 b.X1,max a.2.2.2.2 b.Y1))) (some (.inr (a.2.1,a.2.2.1,a.2.2.2.1,a.2.2.2.2)))
noncomputable def qa8 (a : List qd) : Option (qd × Int):=
  (q72 a).bind fun d=>cond (d != 0) (some (({X0:=0,Y0:=0,X1:=0,Y1:=0} : qd),d)) (cond ((a.length : Int) == 0) (some (({X0:=0,Y0:=0,X1:=0,Y1:=0} : qd),6)) ((idx a 0).bind fun b=>(loop (q4t a) (0,b.X0,b.Y0,b.X1,b.Y1)).bind fun c=>some (({X0:=c.1,Y0:=c.2.1,X1:=c.2.2.1,Y1:=c.2.2.2} : qd),0)))
noncomputable def q4c (a : qd) (b : List qd) : Option (List qd):=
  (cond (decide (((a).X0) < ((a).X1))) (some (decide (((a).Y0) < ((a).Y1)))) (some false)).bind fun c=>cond c ((app 32 b [({X0:=(a).X0,Y0:=(a).Y0,X1:=(a).X1,Y1:=(a).Y1} : qd)]).bind fun d=>some d) (some b)
noncomputable def q4b (a : qd) (b : Int) : Option qd:=
  some ({X0:=w64 (a.X0 - b),Y0:=w64 (a.Y0 - b),X1:=w64 (a.X1 + b),Y1:=w64 (a.Y1 + b)} : qd)
noncomputable def q1y (a : qd) (b : qd) : Option Bool:=
  (cond (decide (a.X1≤b.X0)) (some true) (some (decide (a.X0 ≥ b.X1)))).bind fun c=>some c
structure qq where
  at_ : Int
  kind_ : Int
  by_ : Int
  deriving DecidableEq
def Qg (x : qq) : List DV:=[.int .i64 x.at_,.int .i64 x.kind_,.int .i64 x.by_]
noncomputable def q9l (a : qq) (b : qq) : Option Int:=
  some (w64 (a.at_ - b.at_))
noncomputable def qb0 (c : Int) (d : qq→qq→Option Int) (a : Int × List qq) : Option ((Int × List qq) ⊕ (List qq)):=
  (cond (decide (a.1 > c)) ((idx a.2 a.1).bind fun f=>(idx a.2 (w64 (a.1 - 1))).bind fun g=>(d f g).bind fun h=>some (decide (h < 0))) (some false)).bind fun j=>cond j ((idx a.2 (w64 (a.1 - 1))).bind fun b=>(idx a.2 a.1).bind fun k=>(idx a.2 a.1).bind fun _=>(idx (a.2.set a.1.toNat b) (w64 (a.1 - 1))).bind fun _=>some (.inl (w64 (a.1 - 1),(a.2.set a.1.toNat b).set (w64 (a.1 - 1)).toNat k))) (some (.inr a.2))
noncomputable def qaz (b : Int) (c : Int) (d : qq→qq→Option Int) (a : Int × List qq) : Option ((Int × List qq) ⊕ (List qq)):=
  cond (decide (a.1 < b)) (((loop (qb0 c d) (a.1,a.2)).bind fun f=>some f).bind fun g=>some (.inl (w64 (a.1 + 1),g))) (some (.inr a.2))
noncomputable def qay (b : qq→qq→Option Int) (c : List qq) (a : Int) (d : Int) : Option (List qq):=
  (loop (qaz d a b) (w64 (a + 1),c)).bind fun f=>some f
noncomputable def qc0 (d : Int) (b : Int) (f : qq→qq→Option Int) (a : Int × List qq) : Option ((Int × List qq) ⊕ (List qq)):=
  cond (decide ((w64 ((w64 (2 * a.1)) + 1)) ≥ d)) (some (.inr a.2)) ((cond (decide ((w64 ((w64 ((w64 (2 * a.1)) + 1)) + 1)) < d)) ((idx a.2 (w64 (b + (w64 ((w64 (2 * a.1)) + 1))))).bind fun h=>(idx a.2 (w64 ((w64 (b + (w64 ((w64 (2 * a.1)) + 1)))) + 1))).bind fun j=>(f h j).bind fun k=>some (decide (k < 0))) (some false)).bind fun l=>(cond l (some (w64 ((w64 ((w64 (2 * a.1)) + 1)) + 1))) (some (w64 ((w64 (2 * a.1)) + 1)))).bind fun c=>(idx a.2 (w64 (b + a.1))).bind fun m=>(idx a.2 (w64 (b + c))).bind fun n=>(f m n).bind fun o=>cond (!(decide (o < 0))) (some (.inr a.2)) ((idx a.2 (w64 (b + c))).bind fun g=>(idx a.2 (w64 (b + a.1))).bind fun p=>(idx a.2 (w64 (b + a.1))).bind fun _=>(idx (a.2.set (w64 (b + a.1)).toNat g) (w64 (b + c))).bind fun _=>some (.inl (c,(a.2.set (w64 (b + a.1)).toNat g).set (w64 (b + c)).toNat p))))
noncomputable def q8b (a : qq→qq→Option Int) (b : List qq) (c : Int) (d : Int) (f : Int) : Option (List qq):=
  (loop (qc0 d f a) (c,b)).bind fun g=>some g
noncomputable def qat (d : qq→qq→Option Int) (f : Int) (b : Int) (a : Int × List qq) : Option ((Int × List qq) ⊕ (List qq)):=
  cond (decide (a.1 ≥ 0)) ((q8b d a.2 a.1 (w64 (f - b)) b).bind fun c=>(K1 c.length a.2.length).bind fun _=>some (.inl (w64 (a.1 - 1),c))) (some (.inr a.2))
noncomputable def qau (b : Int) (g : qq→qq→Option Int) (a : Int × List qq) : Option ((Int × List qq) ⊕ (List qq)):=
  cond (decide (a.1 ≥ 0)) ((idx a.2 (w64 (b + a.1))).bind fun c=>(idx a.2 b).bind fun d=>(idx a.2 b).bind fun _=>(idx (a.2.set b.toNat c) (w64 (b + a.1))).bind fun _=>(q8b g ((a.2.set b.toNat c).set (w64 (b + a.1)).toNat d) 0 a.1 b).bind fun f=>(K1 f.length ((a.2.set b.toNat c).set (w64 (b + a.1)).toNat d).length).bind fun _=>some (.inl (w64 (a.1 - 1),f))) (some (.inr a.2))
noncomputable def qas (c : qq→qq→Option Int) (d : List qq) (a : Int) (b : Int) : Option (List qq):=
  (loop (qat c b a) (w64 (Int.tdiv (w64 ((w64 (b - a)) - 1)) 2),d)).bind fun f=>(loop (qau a c) (w64 ((w64 (b - a)) - 1),f)).bind fun g=>some g
noncomputable def q53 (f : qq→qq→Option Int) (c : List qq) (a : Int) (b : Int) (d : Int) : Option (Int × Int × Int):=
  (idx c b).bind fun g=>(idx c a).bind fun h=>(f g h).bind fun j=>cond (decide (j < 0)) (some (b,a,w64 (d + 1))) (some (a,b,d))
noncomputable def q7l (a : qq→qq→Option Int) (b : List qq) (g : Int) (h : Int) (j : Int) (k : Int) : Option (Int × Int):=
  (q53 a b g h k).bind fun c=>(q53 a b c.2.1 j c.2.2).bind fun d=>(q53 a b c.1 d.1 d.2.2).bind fun f=>some (f.2.1,f.2.2)
noncomputable def q50 (c : qq→qq→Option Int) (d : List qq) (a : Int) (f : Int) : Option (Int × Int):=
  (q7l c d (w64 (a - 1)) a (w64 (a + 1)) f).bind fun b=>some (b.1,b.2)
noncomputable def qaq (d : List qq) (a : Int) (b : Int) (f : qq→qq→Option Int) : Option (Int × Int):=
  (cond (decide ((w64 (b - a)) ≥ 8)) ((cond (decide ((w64 (b - a)) ≥ 50)) ((q50 f d (w64 (a + (w64 ((w64 (Int.tdiv (w64 (b - a)) 4)) * 1)))) 0).bind fun h=>(q50 f d (w64 (a + (w64 ((w64 (Int.tdiv (w64 (b - a)) 4)) * 2)))) h.2).bind fun j=>(q50 f d (w64 (a + (w64 ((w64 (Int.tdiv (w64 (b - a)) 4)) * 3)))) j.2).bind fun k=>some (h.1,j.1,k.1,k.2)) (some (w64 (a + (w64 ((w64 (Int.tdiv (w64 (b - a)) 4)) * 1))),w64 (a + (w64 ((w64 (Int.tdiv (w64 (b - a)) 4)) * 2))),w64 (a + (w64 ((w64 (Int.tdiv (w64 (b - a)) 4)) * 3))),0))).bind fun g=>(q7l f d g.1 g.2.1 g.2.2.1 g.2.2.2).bind fun l=>some (l.1,l.2)) (some (w64 (a + (w64 ((w64 (Int.tdiv (w64 (b - a)) 4)) * 2))),0))).bind fun c=>cond (c.2 == 0) (some (c.1,1)) (cond (c.2 == 12) (some (c.1,2)) (some (c.1,0)))
noncomputable def qbw (a : Int × Int × List qq) : Option ((Int × Int × List qq) ⊕ (List qq)):=
  cond (decide (a.1 < a.2.1)) ((idx a.2.2 a.2.1).bind fun b=>(idx a.2.2 a.1).bind fun c=>(idx a.2.2 a.1).bind fun _=>(idx (a.2.2.set a.1.toNat b) a.2.1).bind fun _=>some (.inl (w64 (a.1 + 1),w64 (a.2.1 - 1),(a.2.2.set a.1.toNat b).set a.2.1.toNat c))) (some (.inr a.2.2))
noncomputable def qbv (f : qq→qq→Option Int) (a : List qq) (b : Int) (c : Int) : Option (List qq):=
  (loop qbw (b,w64 (c - 1),a)).bind fun d=>some d
noncomputable def qb4 (c : Int) (b : Int × Int × List qq) (d : qq→qq→Option Int) (a : Int) : Option ((Int) ⊕ (Int)):=
  (cond (decide (a < c)) ((idx b.2.2 a).bind fun f=>(idx b.2.2 (w64 (a - 1))).bind fun g=>(d f g).bind fun h=>some (!(decide (h < 0)))) (some false)).bind fun j=>cond j (some (.inl (w64 (a + 1)))) (some (.inr a))
noncomputable def qb5 (c : qq→qq→Option Int) (a : Int × List qq) : Option ((Int × List qq) ⊕ (List qq)):=
  cond (decide (a.1 ≥ 1)) ((idx a.2 a.1).bind fun d=>(idx a.2 (w64 (a.1 - 1))).bind fun f=>(c d f).bind fun g=>cond (!(decide (g < 0))) (some (.inr a.2)) ((idx a.2 (w64 (a.1 - 1))).bind fun b=>(idx a.2 a.1).bind fun h=>(idx a.2 a.1).bind fun _=>(idx (a.2.set a.1.toNat b) (w64 (a.1 - 1))).bind fun _=>some (.inl (w64 (a.1 - 1),(a.2.set a.1.toNat b).set (w64 (a.1 - 1)).toNat h)))) (some (.inr a.2))
noncomputable def qb6 (d : Int) (f : qq→qq→Option Int) (b : Int) (a : Int × List qq) : Option ((Int × List qq) ⊕ (Int × List qq)):=
  cond (decide (a.1 < d)) ((idx a.2 a.1).bind fun g=>(idx a.2 (w64 (a.1 - 1))).bind fun h=>(f g h).bind fun j=>cond (!(decide (j < 0))) (some (.inr (b,a.2))) ((idx a.2 (w64 (a.1 - 1))).bind fun c=>(idx a.2 a.1).bind fun k=>(idx a.2 a.1).bind fun _=>(idx (a.2.set a.1.toNat c) (w64 (a.1 - 1))).bind fun _=>some (.inl (w64 (a.1 + 1),(a.2.set a.1.toNat c).set (w64 (a.1 - 1)).toNat k)))) (some (.inr (b,a.2)))
noncomputable def q7o (c : Int) (d : qq→qq→Option Int) (h : Int) (b : Int × Int × List qq) : Option ((Int × Int × List qq) ⊕ ((List qq) ⊕ (Bool × List qq))):=
  cond (decide (b.2.1 < 5)) (((loop (qb4 c b d) b.1).bind fun a=>cond (a == c) (some (.inr (true,b.2.2))) (cond (decide ((w64 (c - h)) < 50)) (some (.inr (false,b.2.2))) ((idx b.2.2 (w64 (a - 1))).bind fun f=>(idx b.2.2 a).bind fun j=>(idx b.2.2 a).bind fun _=>(idx (b.2.2.set a.toNat f) (w64 (a - 1))).bind fun _=>(cond (decide ((w64 (a - h)) ≥ 2)) ((loop (qb5 d) (w64 (a - 1),(b.2.2.set a.toNat f).set (w64 (a - 1)).toNat j)).bind fun g=>some g) (some ((b.2.2.set a.toNat f).set (w64 (a - 1)).toNat j))).bind fun k=>cond (decide ((w64 (c - a)) ≥ 2)) ((loop (qb6 c d a) (w64 (a + 1),k)).bind fun g=>some (.inl g)) (some (.inl (a,k))))) : Option ((Int × List qq) ⊕ (Bool × List qq))).bind fun m=>(match m with | .inl l=>some (.inl (l.1,w64 (b.2.1 + 1),l.2)) | .inr n=>some (.inr (.inr n)))) (some (.inr (.inl b.2.2)))
noncomputable def q7n (b : qq→qq→Option Int) (c : List qq) (a : Int) (d : Int) : Option (Bool × List qq):=
  (loop (q7o d b a) (w64 (a + 1),0,c) : Option ((List qq) ⊕ (Bool × List qq))).bind fun f=>(match f with | .inl g=>some (false,g) | .inr h=>some h)
noncomputable def qbp (b : Int × Int × List qq) (c : Int) (d : qq→qq→Option Int) (a : Int) : Option ((Int) ⊕ (Int)):=
  (cond (decide (a≤b.2.1)) ((idx b.2.2 c).bind fun f=>(idx b.2.2 a).bind fun g=>(d f g).bind fun h=>some (!(decide (h < 0)))) (some false)).bind fun j=>cond j (some (.inl (w64 (a + 1)))) (some (.inr a))
noncomputable def qbq (c : Int) (b : Int × Int × List qq) (d : Int) (f : qq→qq→Option Int) (a : Int) : Option ((Int) ⊕ (Int)):=
  (cond (decide (c≤a)) ((idx b.2.2 d).bind fun g=>(idx b.2.2 a).bind fun h=>(f g h).bind fun j=>some (decide (j < 0))) (some false)).bind fun k=>cond k (some (.inl (w64 (a - 1)))) (some (.inr a))
noncomputable def qbo (d : Int) (f : qq→qq→Option Int) (a : Int × Int × List qq) : Option ((Int × Int × List qq) ⊕ (Int × List qq)):=
  (loop (qbp a d f) a.1).bind fun b=>(loop (qbq b a d f) a.2.1).bind fun c=>cond (decide (b > c)) (some (.inr (b,a.2.2))) ((idx a.2.2 c).bind fun g=>(idx a.2.2 b).bind fun h=>(idx a.2.2 b).bind fun _=>(idx (a.2.2.set b.toNat g) c).bind fun _=>some (.inl (w64 (b + 1),w64 (c - 1),(a.2.2.set b.toNat g).set c.toNat h)))
noncomputable def qbn (g : qq→qq→Option Int) (b : List qq) (a : Int) (h : Int) (c : Int) : Option (Int × List qq):=
  (idx b c).bind fun d=>(idx b a).bind fun j=>(idx b a).bind fun _=>(idx (b.set a.toNat d) c).bind fun _=>(loop (qbo a g) (w64 (a + 1),w64 (h - 1),(b.set a.toNat d).set c.toNat j)).bind fun f=>some (f.1,f.2)
noncomputable def qbc (h : Int) (c : List qq) (b : Int) (d : qq) (f : Int) (g : qq) (j : qq→qq→Option Int) (a : Int) : Option ((Int) ⊕ (Int)):=
  (cond (decide (a≤(w64 (h - 1)))) ((idx ((c.set b.toNat d).set f.toNat g) a).bind fun k=>(idx ((c.set b.toNat d).set f.toNat g) b).bind fun l=>(j k l).bind fun m=>some (decide (m < 0))) (some false)).bind fun n=>cond n (some (.inl (w64 (a + 1)))) (some (.inr a))
noncomputable def qbd (h : Int) (c : List qq) (b : Int) (d : qq) (f : Int) (g : qq) (j : qq→qq→Option Int) (a : Int) : Option ((Int) ⊕ (Int)):=
  (cond (decide (h≤a)) ((idx ((c.set b.toNat d).set f.toNat g) a).bind fun k=>(idx ((c.set b.toNat d).set f.toNat g) b).bind fun l=>(j k l).bind fun m=>some (!(decide (m < 0)))) (some false)).bind fun n=>cond n (some (.inl (w64 (a - 1)))) (some (.inr a))
noncomputable def qbf (b : Int × Int × List qq) (c : Int) (d : qq→qq→Option Int) (a : Int) : Option ((Int) ⊕ (Int)):=
  (cond (decide (a≤b.2.1)) ((idx b.2.2 a).bind fun f=>(idx b.2.2 c).bind fun g=>(d f g).bind fun h=>some (decide (h < 0))) (some false)).bind fun j=>cond j (some (.inl (w64 (a + 1)))) (some (.inr a))
noncomputable def qbg (c : Int) (b : Int × Int × List qq) (d : Int) (f : qq→qq→Option Int) (a : Int) : Option ((Int) ⊕ (Int)):=
  (cond (decide (c≤a)) ((idx b.2.2 a).bind fun g=>(idx b.2.2 d).bind fun h=>(f g h).bind fun j=>some (!(decide (j < 0)))) (some false)).bind fun k=>cond k (some (.inl (w64 (a - 1)))) (some (.inr a))
noncomputable def qbe (d : Int) (f : qq→qq→Option Int) (a : Int × Int × List qq) : Option ((Int × Int × List qq) ⊕ (Int × List qq)):=
  (loop (qbf a d f) a.1).bind fun b=>(loop (qbg b a d f) a.2.1).bind fun c=>cond (decide (b > c)) (some (.inr (c,a.2.2))) ((idx a.2.2 c).bind fun g=>(idx a.2.2 b).bind fun h=>(idx a.2.2 b).bind fun _=>(idx (a.2.2.set b.toNat g) c).bind fun _=>some (.inl (w64 (b + 1),w64 (c - 1),(a.2.2.set b.toNat g).set c.toNat h)))
noncomputable def qbb (k : qq→qq→Option Int) (b : List qq) (a : Int) (l : Int) (c : Int) : Option (Int × Bool × List qq):=
  (idx b c).bind fun d=>(idx b a).bind fun f=>(idx b a).bind fun _=>(idx (b.set a.toNat d) c).bind fun _=>(loop (qbc l b a d c f k) (w64 (a + 1))).bind fun j=>(loop (qbd j b a d c f k) (w64 (l - 1))).bind fun g=>cond (decide (j > g)) ((idx ((b.set a.toNat d).set c.toNat f) a).bind fun m=>(idx ((b.set a.toNat d).set c.toNat f) g).bind fun p=>(idx ((b.set a.toNat d).set c.toNat f) g).bind fun _=>(idx (((b.set a.toNat d).set c.toNat f).set g.toNat m) a).bind fun _=>some (g,true,(((b.set a.toNat d).set c.toNat f).set g.toNat m).set a.toNat p)) ((idx ((b.set a.toNat d).set c.toNat f) g).bind fun n=>(idx ((b.set a.toNat d).set c.toNat f) j).bind fun q=>(idx ((b.set a.toNat d).set c.toNat f) j).bind fun _=>(idx (((b.set a.toNat d).set c.toNat f).set j.toNat n) g).bind fun _=>(loop (qbe a k) (w64 (j + 1),w64 (g - 1),(((b.set a.toNat d).set c.toNat f).set j.toNat n).set g.toNat q)).bind fun h=>(idx h.2 a).bind fun o=>(idx h.2 h.1).bind fun r=>(idx h.2 h.1).bind fun _=>(idx (h.2.set h.1.toNat o) a).bind fun _=>some (h.1,false,(h.2.set h.1.toNat o).set a.toNat r))
noncomputable def qan (b : Int) (d : Int) (f : Int) (a : Int × List qq × Int) : Option ((Int × List qq × Int) ⊕ (List qq)):=
  cond (decide (a.1≤(w64 ((w64 (b + (w64 ((w64 (Int.tdiv (w64 (d - b)) 4)) * 2)))) + 1)))) ((Ul a.2.2).bind fun c=>(cond (decide ((w64 (andI .u64 c (IntKind.wrap .u64 (f - 1)))) ≥ (w64 (d - b)))) (some (w64 ((w64 (andI .u64 c (IntKind.wrap .u64 (f - 1)))) - (w64 (d - b))))) (some (w64 (andI .u64 c (IntKind.wrap .u64 (f - 1)))))).bind fun g=>(idx a.2.1 (w64 (b + g))).bind fun h=>(idx a.2.1 a.1).bind fun j=>(idx a.2.1 a.1).bind fun _=>(idx (a.2.1.set a.1.toNat h) (w64 (b + g))).bind fun _=>some (.inl (w64 (a.1 + 1),(a.2.1.set a.1.toNat h).set (w64 (b + g)).toNat j,c))) (some (.inr a.2.1))
noncomputable def qam (g : qq→qq→Option Int) (c : List qq) (a : Int) (b : Int) : Option (List qq):=
  cond (decide ((w64 (b - a)) ≥ 8)) ((Uk (w64 (b - a))).bind fun d=>(loop (qan a b d) (w64 ((w64 (a + (w64 ((w64 (Int.tdiv (w64 (b - a)) 4)) * 2)))) - 1),c,IntKind.wrap .u64 (w64 (b - a)))).bind fun f=>some f) (some c)
noncomputable def q84 (c : qq→qq→Option Int) (rec : List qq→Int→Int→Int→Option (List qq)) (a : Int × Int × Int × Bool × Bool × List qq) : Option ((Int × Int × Int × Bool × Bool × List qq) ⊕ (List qq)):=
  cond (decide ((w64 (a.2.1 - a.1))≤12)) ((qay c a.2.2.2.2.2 a.1 a.2.1).bind fun l=>(K1 l.length a.2.2.2.2.2.length).bind fun _=>some (.inr l)) (cond (a.2.2.1 == 0) ((qas c a.2.2.2.2.2 a.1 a.2.1).bind fun m=>(K1 m.length a.2.2.2.2.2.length).bind fun _=>some (.inr m)) ((cond (!a.2.2.2.1) ((qam c a.2.2.2.2.2 a.1 a.2.1).bind fun n=>(K1 n.length a.2.2.2.2.2.length).bind fun _=>some (w64 (a.2.2.1 - 1),n)) (some (a.2.2.1,a.2.2.2.2.2))).bind fun d=>(qaq d.2 a.1 a.2.1 c).bind fun h=>(cond (h.2 == 2) ((qbv c d.2 a.1 a.2.1).bind fun o=>(K1 o.length d.2.length).bind fun _=>some (w64 ((w64 (a.2.1 - 1)) - (w64 (h.1 - a.1))),1,o)) (some (h.1,h.2,d.2))).bind fun f=>(cond a.2.2.2.1 (some a.2.2.2.2.1) (some false)).bind fun r=>(cond r (some (f.2.1 == 1)) (some false)).bind fun s=>(cond s ((q7n c f.2.2 a.1 a.2.1).bind fun j=>(K1 j.2.length f.2.2.length).bind fun _=>cond j.1 (some (.inr j.2)) (some (.inl j.2))) (some (.inl f.2.2)) : Option ((List qq) ⊕ (List qq))).bind fun t=>(match t with | .inl g=>(cond (decide (a.1 > 0)) ((idx g (w64 (a.1 - 1))).bind fun u=>(idx g f.1).bind fun v=>(c u v).bind fun w=>some (!(decide (w < 0)))) (some false)).bind fun x=>cond x ((qbn c g a.1 a.2.1 f.1).bind fun k=>(K1 k.2.length g.length).bind fun _=>some (.inl (k.1,a.2.1,d.1,a.2.2.2.1,a.2.2.2.2.1,k.2))) ((qbb c g a.1 a.2.1 f.1).bind fun b=>(K1 b.2.2.length g.length).bind fun _=>cond (decide ((w64 (b.1 - a.1)) < (w64 (a.2.1 - b.1)))) ((rec b.2.2 a.1 b.1 d.1).bind fun p=>(K1 p.length b.2.2.length).bind fun _=>some (.inl (w64 (b.1 + 1),a.2.1,d.1,decide ((w64 (b.1 - a.1)) ≥ (w64 (Int.tdiv (w64 (a.2.1 - a.1)) 8))),b.2.1,p))) ((rec b.2.2 (w64 (b.1 + 1)) a.2.1 d.1).bind fun q=>(K1 q.length b.2.2.length).bind fun _=>some (.inl (a.1,b.1,d.1,decide ((w64 (a.2.1 - b.1)) ≥ (w64 (Int.tdiv (w64 (a.2.1 - a.1)) 8))),b.2.1,q)))) | .inr y=>some (.inr y))))
noncomputable def q85 (rec : List qq→Int→Int→Int→Option (List qq)) (a : qq→qq→Option Int) (b : List qq) (c : Int) (d : Int) (f : Int) : Option (List qq):=
  (loop (q84 a rec) (c,d,f,true,true,b)).bind fun g=>some g
noncomputable def q83 : Nat→(qq→qq→Option Int)→List qq→Int→Int→Int→Option (List qq)
  | 0,_,_,_,_,_=>none
  | n + 1,a,b,c,d,f=>q85 (q83 n a) a b c d f
noncomputable def q7a (c : qq→qq→Option Int) (a : List qq) : Option (List qq):=
  (Jp (IntKind.wrap .u64 (a.length : Int))).bind fun d=>(lim (fun n=>q83 n c a 0 (a.length : Int) d)).bind fun b=>(K1 b.length a.length).bind fun _=>some b
noncomputable def q4d (d : List qq) (f : List qq) (a : Int × Bool × Int × List Int × List qp) : Option ((Int × Bool × Int × List Int × List qp) ⊕ (List qp)):=
  cond (decide (a.2.2.1 < (d.length : Int))) ((idx f a.2.2.1).bind fun b=>(cond a.2.1 (some (decide (b.at_ > a.1))) (some false)).bind fun g=>(cond g ((cond (decide ((a.2.2.2.2.length : Int) > 0)) ((idx a.2.2.2.2 (w64 ((a.2.2.2.2.length : Int) - 1))).bind fun h=>some (h.Hi == a.1)) (some false)).bind fun j=>cond j ((idx a.2.2.2.2 (w64 ((a.2.2.2.2.length : Int) - 1))).bind fun k=>some (a.2.2.2.2.set (w64 ((a.2.2.2.2.length : Int) - 1)).toNat ({Lo:=k.Lo,Hi:=b.at_} : qp))) ((app 16 a.2.2.2.2 [({Lo:=a.1,Hi:=b.at_} : qp)]).bind fun l=>some l)) (some a.2.2.2.2)).bind fun m=>(idxA 2 a.2.2.2.1 b.kind_).bind fun c=>(idxA 2 a.2.2.2.1 b.kind_).bind fun _=>(idxA 2 (a.2.2.2.1.set b.kind_.toNat (w64 (c + b.by_))) 0).bind fun n=>(cond (decide (n > 0)) ((idxA 2 (a.2.2.2.1.set b.kind_.toNat (w64 (c + b.by_))) 1).bind fun o=>some (o == 0)) (some false)).bind fun p=>some (.inl (b.at_,p,w64 (a.2.2.1 + 1),a.2.2.2.1.set b.kind_.toNat (w64 (c + b.by_)),m))) (some (.inr a.2.2.2.2))
noncomputable def q65 (a : List qq) : Option (List qq × List qp):=
  (q7a (fun c d=>q9l c d) a).bind fun b=>(K1 b.length a.length).bind fun _=>(loop (q4d a b) (0,false,0,[0,0],[])).bind fun f=>some (b,f)
noncomputable def q46 (b : List qd) (a : Int × List Int) : Option ((Int × List Int) ⊕ (List Int)):=
  cond (decide (a.1 < (b.length : Int))) ((idx b a.1).bind fun c=>(app 8 a.2 [c.X0,c.X1]).bind fun d=>some (.inl (w64 (a.1 + 1),d))) (some (.inr a.2))
noncomputable def q1z (b : List qd) (c : List qd) (a : Int × List Int) : Option ((Int × List Int) ⊕ (List Int)):=
  cond (decide (a.1 < 2)) (((idxA 2 [b,c] a.1).bind fun d=>(loop (q46 d) (0,a.2)).bind fun f=>some f).bind fun g=>some (.inl (w64 (a.1 + 1),g))) (some (.inr a.2))
noncomputable def q48 (c : List qd) (d : List Int) (f : Int × Int × Int × List qp × Int × List qd) (g : Int × List qq) (a : Int × List qq) : Option ((Int × List qq) ⊕ (List qq)):=
  cond (decide (a.1 < (c.length : Int))) (((idx c a.1).bind fun b=>(idx d (w64 (f.1 - 1))).bind fun h=>(cond (decide (b.X0≤h)) ((idx d (w64 (f.1 - 1))).bind fun j=>some (decide (j < b.X1))) (some false)).bind fun k=>cond k ((app 24 a.2 [({at_:=b.Y0,kind_:=g.1,by_:=1} : qq),({at_:=b.Y1,kind_:=g.1,by_:=(-1)} : qq)]).bind fun l=>some l) (some a.2)).bind fun m=>some (.inl (w64 (a.1 + 1),m))) (some (.inr a.2))
noncomputable def q20 (b : List qd) (c : List qd) (d : List Int) (f : Int × Int × Int × List qp × Int × List qd) (a : Int × List qq) : Option ((Int × List qq) ⊕ (List qq)):=
  cond (decide (a.1 < 2)) (((idxA 2 [b,c] a.1).bind fun g=>(loop (q48 g d f a) (0,a.2)).bind fun h=>some h).bind fun j=>some (.inl (w64 (a.1 + 1),j))) (some (.inr a.2))
noncomputable def q49 (c : Int) (a : Int × List qd) : Option ((Int × List qd) ⊕ (List qd)):=
  cond (decide (a.1 < (a.2.length : Int))) ((idx a.2 a.1).bind fun b=>some (.inl (w64 (a.1 + 1),a.2.set a.1.toNat ({X0:=b.X0,Y0:=b.Y0,X1:=c,Y1:=b.Y1} : qd)))) (some (.inr a.2))
noncomputable def q4a (b : List qq × List qp) (c : Int) (f : Int) (g : Int × Int × Int × List qp × Int × List qd) (a : Int × List qd) : Option ((Int × List qd) ⊕ (Int × List qp × Int × List qd)):=
  cond (decide (a.1 < (b.2.length : Int))) ((idx b.2 a.1).bind fun d=>(app 32 a.2 [({X0:=c,Y0:=d.Lo,X1:=f,Y1:=d.Hi} : qd)]).bind fun h=>some (.inl (w64 (a.1 + 1),h))) (some (.inr (c,b.2,(g.2.2.2.2.2.length : Int),a.2)))
noncomputable def q47 (b : List Int) (h : List qd) (j : List qd) (a : Int × Int × Int × List qp × Int × List qd) : Option ((Int × Int × Int × List qp × Int × List qd) ⊕ (List qd)):=
  cond (decide (a.1 < (b.length : Int))) ((loop (q20 h j b a) (0,[])).bind fun k=>(idx b (w64 (a.1 - 1))).bind fun g=>(idx b a.1).bind fun d=>(q65 k).bind fun f=>((cond (a.2.2.1 == g) (some (decide ((f.2.length : Int) > 0))) (some false)).bind fun l=>(cond l ((q3j a.2.2.2.1 f.2).bind fun m=>some m) (some false)).bind fun n=>cond n ((loop (q49 d) (a.2.2.2.2.1,a.2.2.2.2.2)).bind fun o=>some (a.2.1,a.2.2.2.1,a.2.2.2.2.1,o)) ((loop (q4a f g d a) (0,a.2.2.2.2.2)).bind fun p=>some p)).bind fun c=>some (.inl (w64 (a.1 + 1),c.1,d,c.2.1,c.2.2.1,c.2.2.2))) (some (.inr a.2.2.2.2.2))
noncomputable def q9j (c : List qd) (d : List qd) : Option (List qd × Int):=
  ((loop (q1z c d) (0,[])).bind fun f=>(Uj f).bind fun b=>(K1 b.length f.length).bind fun _=>(q24 b).bind fun a=>(K1 a.2.length b.length).bind fun _=>(Un a.2.length a.1).bind fun _=>some ((a.2.drop a.1.1).take a.1.2)).bind fun h=>((loop (q47 h c d) (1,0,0,[],0,[])).bind fun j=>some j).bind fun g=>cond (decide ((g.length : Int) > 400)) (some ([],4)) (some (g,0))
noncomputable def q2h (c : List qd) (d : qd × Int) (a : Int × List qd) : Option ((Int × List qd) ⊕ (List qd)):=
  cond (decide (a.1 < (c.length : Int))) (((idx c a.1).bind fun b=>(cond (a.1 == 0) (some true) ((idx c (w64 (a.1 - 1))).bind fun h=>some (h.X0 != b.X0))).bind fun f=>(cond f (some (decide (a.1 > 0))) (some false)).bind fun j=>(cond j ((idx c (w64 (a.1 - 1))).bind fun k=>(q4c ({X0:=k.X1,Y0:=d.1.Y0,X1:=b.X0,Y1:=d.1.Y1} : qd) a.2).bind fun l=>some l) (some a.2)).bind fun m=>(cond (!f) ((idx c (w64 (a.1 - 1))).bind fun n=>some n.Y1) (some d.1.Y0)).bind fun o=>(q4c ({X0:=b.X0,Y0:=o,X1:=b.X1,Y1:=b.Y0} : qd) m).bind fun g=>(cond (a.1 == (w64 ((c.length : Int) - 1))) (some true) ((idx c (w64 (a.1 + 1))).bind fun p=>some (p.X0 != b.X0))).bind fun q=>cond q ((q4c ({X0:=b.X0,Y0:=b.Y1,X1:=b.X1,Y1:=d.1.Y1} : qd) g).bind fun r=>some r) (some g)).bind fun s=>some (.inl (w64 (a.1 + 1),s))) (some (.inr a.2))
noncomputable def q44 (b : qd × List qd) (c : Int) (a : Int × List qd) : Option ((Int × List qd) ⊕ (List qd)):=
  cond (decide (a.1 < (b.2.length : Int))) ((idx a.2 a.1).bind fun d=>(q4b d c).bind fun f=>(idx a.2 a.1).bind fun _=>some (.inl (w64 (a.1 + 1),a.2.set a.1.toNat f))) (some (.inr a.2))
noncomputable def q2i (d : qd) (a : Int × Int × List qd) : Option ((Int × Int × List qd) ⊕ (Int × List qd)):=
  cond (decide (a.2.1 < (a.2.2.length : Int))) (((idx a.2.2 a.2.1).bind fun b=>(q1y b d).bind fun f=>cond (!f) ((idx a.2.2 a.1).bind fun _=>some (w64 (a.1 + 1),a.2.2.set a.1.toNat b)) (some (a.1,a.2.2))).bind fun c=>some (.inl (c.1,w64 (a.2.1 + 1),c.2))) (some (.inr (a.1,a.2.2)))
noncomputable def q45 (g : (Nat × Nat) × List qd) (c : qd) (a : (Nat × Nat) × Int × List qd) : Option (((Nat × Nat) × Int × List qd) ⊕ ((Nat × Nat) × List qd)):=
  cond (decide (a.2.1 < (g.1.2 : Int))) ((idxW a.2.2 a.1 a.2.1).bind fun d=>(idxW a.2.2 a.1 a.2.1).bind fun b=>(idxW (a.2.2.set ((a.1.1 : Int) + a.2.1).toNat ({X0:=max d.X0 c.X0,Y0:=b.Y0,X1:=b.X1,Y1:=b.Y1} : qd)) a.1 a.2.1).bind fun f=>some (.inl (a.1,w64 (a.2.1 + 1),(a.2.2.set ((a.1.1 : Int) + a.2.1).toNat ({X0:=max d.X0 c.X0,Y0:=b.Y0,X1:=b.X1,Y1:=b.Y1} : qd)).set ((a.1.1 : Int) + a.2.1).toNat ({X0:=f.X0,Y0:=f.Y0,X1:=min d.X1 c.X1,Y1:=f.Y1} : qd)))) (some (.inr (a.1,a.2.2)))
noncomputable def q9i (f : List qd) (h : Int) : Option (List qd × Int):=
  (q9k f h).bind fun l=>cond (l != 0) (some ([],l)) (cond ((f.length : Int) == 0) (some ([],0)) (((qa8 f).bind fun m=>(loop (q2h f m) (0,[])).bind fun o=>some (m.1,o)).bind fun b=>(q4b ({X0:=(b.1).X0,Y0:=(b.1).Y0,X1:=(b.1).X1,Y1:=(b.1).Y1} : qd) (w64 (0 - h))).bind fun a=>(cond (decide (a.X0 ≥ a.X1)) (some true) (some (decide (a.Y0 ≥ a.Y1)))).bind fun p=>cond p (some ([],0)) ((loop (q44 b h) (0,b.2)).bind fun g=>((q4x g (fun q=>q1y q a)).bind fun j=>cond (j == (-1)) (some ((0,g.length),g)) ((loop (q2i a) (j,w64 (j + 1),g)).bind fun c=>(sub2 c.2.length c.1 c.2.length).bind fun r=>(sub2 c.2.length 0 c.1).bind fun s=>some (s,clrw c.2 r ({X0:=0,Y0:=0,X1:=0,Y1:=0} : qd)))).bind fun k=>(loop (q45 k a) (k.1,0,k.2)).bind fun d=>(Un d.2.length d.1).bind fun _=>(q9j [a] ((d.2.drop d.1.1).take d.1.2)).bind fun n=>some (n.1,n.2))))
noncomputable def q4s (b : List qk) (c : qk) (a : Int × List qd) : Option ((Int × List qd) ⊕ (Int × List qd)):=
  (cond (decide (a.1 < (b.length : Int))) ((idx b a.1).bind fun d=>some (d.Lo.Z == c.Lo.Z)) (some false)).bind fun f=>cond f ((idx b a.1).bind fun g=>(idx b a.1).bind fun h=>(idx b a.1).bind fun j=>(idx b a.1).bind fun k=>(app 32 a.2 [({X0:=g.Lo.X,Y0:=h.Lo.Y,X1:=j.Hi.X,Y1:=k.Hi.Y} : qd)]).bind fun l=>some (.inl (w64 (a.1 + 1),l))) (some (.inr (a.1,a.2)))
noncomputable def q3a (b : List qk) (j : Int) (a : Int × List qd × Int × Int × List qk) : Option ((Int × List qd × Int × Int × List qk) ⊕ ((List qd × Int × Int × List qk) ⊕ (List qk × Int))):=
  cond (decide (a.1 < (b.length : Int))) ((idx b a.1).bind fun g=>(idx b a.1).bind fun k=>(loop (q4s b g) (a.1,[])).bind fun h=>((q9i h.2 j).bind fun f=>cond (f.2 != 0) (some (.inr ([],f.2))) ((qa7 a.2.2.2.2 a.2.1 a.2.2.1 a.2.2.2.1 g.Lo.Z k.Hi.Z f.1).bind fun c=>some (.inl (c.1,c.2.1,c.2.2.1,c.2.2.2))) : Option ((List qd × Int × Int × List qk) ⊕ (List qk × Int))).bind fun l=>(match l with | .inl d=>some (.inl (h.1,d.1,d.2.1,d.2.2.1,d.2.2.2)) | .inr m=>some (.inr (.inr m)))) (some (.inr (.inl (a.2.1,a.2.2.1,a.2.2.2.1,a.2.2.2.2))))
noncomputable def q39 (c : List qk) (a : Int) : Option (List qk × Int):=
  (q5a c).bind fun d=>cond (d != 0) (some ([],d)) ((cond (decide (a < 1)) (some true) (some (decide (a > 1000000)))).bind fun h=>cond h (some ([],2)) ((some ()).bind fun _=>((loop (q3a c a) (0,[],0,0,[]) : Option ((List qd × Int × Int × List qk) ⊕ (List qk × Int))).bind fun j=>(match j with | .inl k=>some (.inl k) | .inr b=>some (.inr b)) : Option ((List qd × Int × Int × List qk) ⊕ (List qk × Int))).bind fun l=>(match l with | .inl f=>(cond (decide ((f.2.2.2.length : Int) > 400)) (some (4,[])) (some (0,f.2.2.2))).bind fun g=>some (g.2,g.1) | .inr b=>some b)))
noncomputable def q5e (b : List qp) (a : Int) : Option ((Int) ⊕ ((Unit) ⊕ (Int))):=
  cond (decide (a < (b.length : Int))) ((idx b a).bind fun c=>(q3p c).bind fun d=>(cond (!d) (some true) ((cond (decide (a > 0)) ((idx b (w64 (a - 1))).bind fun f=>some (decide (f.Hi ≥ c.Lo))) (some false)).bind fun g=>some g)).bind fun h=>cond h (some (.inr (.inr 8))) (some (.inl (w64 (a + 1))))) (some (.inr (.inl ())))
noncomputable def qed (a : List qp) : Option Int:=
  cond (decide ((a.length : Int) > 400)) (some 4) ((loop (q5e a) 0 : Option ((Unit) ⊕ (Int))).bind fun b=>(match b with | .inl _=>some 0 | .inr c=>some c))
noncomputable def q9y (a : List qk) : Option Bool:=
  (cond (decide ((a.length : Int) > 30)) (some (decide ((a.length : Int)≤400))) (some false)).bind fun b=>(cond b (some true) (some (decide ((a.length : Int) > 420)))).bind fun c=>some c
noncomputable def q6t (a : List qk) : Option (List qk):=
  (app 48 [] a).bind fun b=>some b
noncomputable def q6y (c : List qk) (a : Int × List qd) : Option ((Int × List qd) ⊕ (List qd)):=
  cond (decide (a.1 < (c.length : Int))) ((idx c a.1).bind fun b=>(app 32 a.2 [({X0:=b.Lo.X,Y0:=b.Lo.Y,X1:=b.Hi.X,Y1:=b.Hi.Y} : qd)]).bind fun d=>some (.inl (w64 (a.1 + 1),d))) (some (.inr a.2))
noncomputable def qa6 (a : List qk) : Option (List qd × Int):=
  (q5a a).bind fun b=>cond (b != 0) (some ([],b)) ((loop (q6y a) (0,[])).bind fun d=>(q4u d).bind fun c=>some (c.1,c.2))
noncomputable def q6e (a : Int) : Option Bool:=
  (cond (decide (a ≥ (-1000000))) (some (decide (a≤1000000))) (some false)).bind fun b=>some b
noncomputable def q9s (a : qd) : Option Bool:=
  (cond (decide (a.X0 < a.X1)) (some (decide (a.Y0 < a.Y1))) (some false)).bind fun b=>(cond b ((q6e a.X0).bind fun c=>some c) (some false)).bind fun d=>(cond d ((q6e a.X1).bind fun f=>some f) (some false)).bind fun g=>(cond g ((q6e a.Y0).bind fun h=>some h) (some false)).bind fun j=>(cond j ((q6e a.Y1).bind fun k=>some k) (some false)).bind fun l=>some l
noncomputable def q4k (b : List qd) (a : Int) : Option ((Int) ⊕ ((Unit) ⊕ (List qd × Int))):=
  cond (decide (a < (b.length : Int))) ((idx b a).bind fun c=>(q9s c).bind fun d=>cond (!d) (some (.inr (.inr ([],8)))) (some (.inl (w64 (a + 1))))) (some (.inr (.inl ())))
noncomputable def q9r (a : List qd) : Option (List qd × Int):=
  cond (decide ((a.length : Int) > 400)) (some ([],4)) ((loop (q4k a) 0 : Option ((Unit) ⊕ (List qd × Int))).bind fun c=>(match c with | .inl _=>(Z8 2 a []).bind fun b=>cond (decide ((b.length : Int) > 400)) (some ([],4)) (some (b,0)) | .inr d=>some d))
noncomputable def q6v (b : List qk) (a : Int × List qd) : Option ((Int × List qd) ⊕ (List qd)):=
  cond (decide (a.1 < (b.length : Int))) ((idx b a.1).bind fun c=>(idx b a.1).bind fun d=>(idx b a.1).bind fun f=>(idx b a.1).bind fun g=>(app 32 a.2 [({X0:=c.Lo.X,Y0:=d.Lo.Y,X1:=f.Hi.X,Y1:=g.Hi.Y} : qd)]).bind fun h=>some (.inl (w64 (a.1 + 1),h))) (some (.inr a.2))
noncomputable def qa3 (a : List qk) : Option (List qd × Int):=
  (q21 a).bind fun c=>cond (c != 0) ((q21 a).bind fun d=>some ([],d)) ((loop (q6v a) (0,[])).bind fun f=>(q9r f).bind fun b=>some (b.1,b.2))
noncomputable def qa0 (a : qk) (b : K7) : Option Bool:=
  (cond (decide (a.Lo.X≤b.X)) (some (decide (b.X < a.Hi.X))) (some false)).bind fun c=>(cond c (some (decide (a.Lo.Y≤b.Y))) (some false)).bind fun d=>(cond d (some (decide (b.Y < a.Hi.Y))) (some false)).bind fun f=>(cond f (some (decide (a.Lo.Z≤b.Z))) (some false)).bind fun g=>(cond g (some (decide (b.Z < a.Hi.Z))) (some false)).bind fun h=>some h
noncomputable def q6q (b : List qk) (c : K7) (a : Int) : Option ((Int) ⊕ ((Unit) ⊕ (Bool))):=
  cond (decide (a < (b.length : Int))) ((idx b a).bind fun d=>(qa0 d c).bind fun f=>cond f (some (.inr (.inr true))) (some (.inl (w64 (a + 1))))) (some (.inr (.inl ())))
noncomputable def q9z (a : List qk) (b : K7) : Option Bool:=
  (loop (q6q a b) 0 : Option ((Unit) ⊕ (Bool))).bind fun c=>(match c with | .inl _=>some false | .inr d=>some d)
noncomputable def q6u (b : List Int) (c : List qk) (d : Int) (f : Int) (a : Int × List Bool) : Option ((Int × List Bool) ⊕ (List Bool)):=
  cond (decide (a.1 < (b.length : Int))) ((idx b a.1).bind fun g=>(q9z c ({X:=d,Y:=f,Z:=g} : K7)).bind fun h=>(app 1 a.2 [h]).bind fun j=>some (.inl (w64 (a.1 + 1),j))) (some (.inr a.2))
noncomputable def qa2 (a : List qk) (c : Int) (d : Int) : Option (List qp × Int):=
  (q21 a).bind fun f=>cond (f != 0) ((q21 a).bind fun g=>some ([],g)) ((q37 a []).bind fun b=>(loop (q6u b a c d) (0,[])).bind fun h=>(Uf b h).bind fun j=>some (j,0))
noncomputable def q4j (b : List qd) (a : Int) : Option ((Int) ⊕ ((Unit) ⊕ (Int))):=
  cond (decide (a < (b.length : Int))) ((idx b a).bind fun c=>(q9s c).bind fun d=>cond (!d) (some (.inr (.inr 8))) (some (.inl (w64 (a + 1))))) (some (.inr (.inl ())))
noncomputable def q6c (a : List qd) : Option Int:=
  cond (decide ((a.length : Int) > 400)) (some 4) ((loop (q4j a) 0 : Option ((Unit) ⊕ (Int))).bind fun b=>(match b with | .inl _=>(Z8 2 a []).bind fun c=>(q34 c a).bind fun d=>cond (!d) (some 8) (some 0) | .inr f=>some f))
noncomputable def q6h (a : List qd) (b : Int) : Option Int:=
  (q6c a).bind fun c=>cond (c != 0) ((q6c a).bind fun d=>some d) ((cond (decide (b < 0)) (some true) (some (decide (b > 1000000)))).bind fun f=>cond f (some 2) (some 0))
noncomputable def q6g (a : Int) : Option Int:=
  some (w64 ((w64 ((w64 (2 * a)) + 1)) * (w64 ((w64 (2 * a)) + 1))))
noncomputable def q6k (b : List Int) (c : Int) (a : Int × List Int) : Option ((Int × List Int) ⊕ (List Int)):=
  cond (decide (a.1 < (b.length : Int))) ((idx b a.1).bind fun d=>(idx b a.1).bind fun f=>(app 8 a.2 [w64 (d - c),w64 (f + c)]).bind fun g=>some (.inl (w64 (a.1 + 1),g))) (some (.inr a.2))
noncomputable def q6j (a : List Int) (b : Int) : Option (List Int):=
  (loop (q6k a b) (0,[])).bind fun c=>(Zv c).bind fun d=>some d
noncomputable def q4l (c : List qd) (d : Int) (b : Int) (f : Int) (a : Int × Int) : Option ((Int × Int) ⊕ (Int)):=
  cond (decide (a.2 < (c.length : Int))) (((idx c a.2).bind fun g=>(idx c a.2).bind fun h=>(idx c a.2).bind fun j=>(idx c a.2).bind fun k=>(cond (decide ((w64 ((min g.X1 (w64 ((w64 (d + b)) + 1))) - (max h.X0 (w64 (d - b))))) > 0)) (some (decide ((w64 ((min j.Y1 (w64 ((w64 (f + b)) + 1))) - (max k.Y0 (w64 (f - b))))) > 0))) (some false)).bind fun l=>cond l (some (w64 (a.1 + (w64 ((w64 ((min g.X1 (w64 ((w64 (d + b)) + 1))) - (max h.X0 (w64 (d - b))))) * (w64 ((min j.Y1 (w64 ((w64 (f + b)) + 1))) - (max k.Y0 (w64 (f - b)))))))))) (some a.1)).bind fun m=>some (.inl (m,w64 (a.2 + 1)))) (some (.inr a.1))
noncomputable def q9t (a : List qd) (b : Int) (c : Int) (d : Int) : Option Int:=
  (loop (q4l a b d c) (0,0)).bind fun f=>some f
noncomputable def q4n (b : List Int) (d : List Int) (f : Int × List qd) (g : List qd) (h : Int) (j : Int) (k : Int) (a : Int × List Bool) : Option ((Int × List Bool) ⊕ (List Bool)):=
  cond (decide (a.1 < (b.length : Int))) ((idx d f.1).bind fun l=>(idx b a.1).bind fun m=>(q9t g l m h).bind fun c=>(cond (decide (c ≥ j)) (some (decide (c≤k))) (some false)).bind fun n=>(app 1 a.2 [n]).bind fun o=>some (.inl (w64 (a.1 + 1),o))) (some (.inr a.2))
noncomputable def q6l (b : List qp) (c : List Int) (d : Int × List qd) (a : Int × List qd) : Option ((Int × List qd) ⊕ (List qd)):=
  cond (decide (a.1 < (b.length : Int))) ((idx c d.1).bind fun f=>(idx b a.1).bind fun g=>(idx c (w64 (d.1 + 1))).bind fun h=>(idx b a.1).bind fun j=>(app 32 a.2 [({X0:=f,Y0:=g.Lo,X1:=h,Y1:=j.Hi} : qd)]).bind fun k=>some (.inl (w64 (a.1 + 1),k))) (some (.inr a.2))
noncomputable def q4m (b : List Int) (c : List Int) (d : List qd) (f : Int) (g : Int) (h : Int) (a : Int × List qd) : Option ((Int × List qd) ⊕ (List qd)):=
  cond (decide ((w64 (a.1 + 1)) < (b.length : Int))) (((loop (q4n c b a d f g h) (0,[])).bind fun j=>(Uf c j).bind fun k=>(loop (q6l k b a) (0,a.2)).bind fun l=>some l).bind fun m=>some (.inl (w64 (a.1 + 1),m))) (some (.inr a.2))
noncomputable def q9u (a : List qd) (b : Int) (c : Int) (d : Int) : Option (List qd):=
  (q35 a []).bind fun f=>(q6j f b).bind fun g=>(q36 a []).bind fun h=>(q6j h b).bind fun j=>(loop (q4m g j a b c d) (0,[])).bind fun k=>(Z8 2 k []).bind fun l=>some l
noncomputable def q6i (b : List qd) (a : Int) : Option (List qd × Int):=
  (q6h b a).bind fun d=>cond (d != 0) ((q6h b a).bind fun f=>some ([],f)) ((q6g a).bind fun g=>(q6g a).bind fun h=>(q9u b a g h).bind fun c=>cond (decide ((c.length : Int) > 400)) (some ([],4)) (some (c,0)))
noncomputable def q6w (b : List qd) (c : Int) (d : Int) (a : Int × List qk) : Option ((Int × List qk) ⊕ (List qk)):=
  cond (decide (a.1 < (b.length : Int))) ((idx b a.1).bind fun f=>(idx b a.1).bind fun g=>(idx b a.1).bind fun h=>(idx b a.1).bind fun j=>(app 48 a.2 [({Lo:=({X:=f.X0,Y:=g.Y0,Z:=c} : K7),Hi:=({X:=h.X1,Y:=j.Y1,Z:=d} : K7)} : qk)]).bind fun k=>some (.inl (w64 (a.1 + 1),k))) (some (.inr a.2))
noncomputable def qa4 (a : List qd) (b : Int) (c : Int) : Option (List qk):=
  (loop (q6w a b c) (0,[])).bind fun d=>some d
noncomputable def q4r (b : List Int) (d : List qk) (f : Int) (a : Int × List qk) : Option ((Int × List qk) ⊕ ((List qk) ⊕ (List qk × Int))):=
  cond (decide ((w64 (a.1 + 1)) < (b.length : Int))) ((idx b a.1).bind fun g=>(J6 d g).bind fun h=>(q6i h f).bind fun c=>cond (c.2 != 0) (some (.inr (.inr ([],c.2)))) ((idx b a.1).bind fun j=>(idx b (w64 (a.1 + 1))).bind fun k=>(qa4 c.1 j k).bind fun l=>(app 48 a.2 l).bind fun m=>some (.inl (w64 (a.1 + 1),m)))) (some (.inr (.inl a.2)))
noncomputable def q38 (a : List qk) (b : Int) : Option (List qk × Int):=
  (q21 a).bind fun d=>cond (d != 0) ((q21 a).bind fun f=>some ([],f)) ((cond (decide (b < 1)) (some true) (some (decide (b > 1000000)))).bind fun g=>cond g (some ([],2)) ((q37 a []).bind fun h=>(loop (q4r h a b) (0,[]) : Option ((List qk) ⊕ (List qk × Int))).bind fun j=>(match j with | .inl k=>(q22 2 k []).bind fun c=>cond (decide ((c.1.length : Int) > 400)) (some ([],4)) (some (c.1,0)) | .inr l=>some l)))
noncomputable def qde (a : List qk) (c : Int) (d : Int) (f : Int) : Option Bool:=
  (q9y a).bind fun n=>cond n (some true) ((q6t a).bind fun b=>(qa6 b).bind fun g=>(qa3 a).bind fun h=>(qa5 b c d).bind fun j=>(qa2 a c d).bind fun k=>(q39 b f).bind fun l=>(q38 a f).bind fun m=>(q34 g.1 h.1).bind fun o=>(cond o (some (g.2 == h.2)) (some false)).bind fun p=>(cond p ((q2k j.1 k.1).bind fun q=>some q) (some false)).bind fun r=>(cond r (some (j.2 == k.2)) (some false)).bind fun s=>(cond s ((q6s l.1 m.1).bind fun t=>some t) (some false)).bind fun u=>(cond u (some (l.2 == m.2)) (some false)).bind fun v=>(cond v ((q6s b a).bind fun w=>some w) (some false)).bind fun x=>some x)
noncomputable def qmp (a : qp) : Option Bool:=
  (cond (decide (a.Lo < a.Hi)) (some (decide (a.Lo ≥ (-1000000)))) (some false)).bind fun b=>(cond b (some (decide (a.Hi≤1000000))) (some false)).bind fun c=>some c
noncomputable def qgm (b : List qp) (a : Int) : Option ((Int) ⊕ ((Unit) ⊕ (Int))):=
  cond (decide (a < (b.length : Int))) ((idx b a).bind fun c=>(qmp c).bind fun d=>(cond (!d) (some true) ((cond (decide (a > 0)) ((idx b (w64 (a - 1))).bind fun f=>(idx b a).bind fun g=>some (decide (f.Hi ≥ g.Lo))) (some false)).bind fun h=>some h)).bind fun j=>cond j (some (.inr (.inr 8))) (some (.inl (w64 (a + 1))))) (some (.inr (.inl ())))
noncomputable def qdr (a : List qp) : Option Int:=
  cond (decide ((a.length : Int) > 400)) (some 4) ((loop (qgm a) 0 : Option ((Unit) ⊕ (Int))).bind fun b=>(match b with | .inl _=>some 0 | .inr c=>some c))
noncomputable def q9n (b : List qp) (a : Int × List Int) : Option ((Int × List Int) ⊕ (List Int)):=
  cond (decide (a.1 < (b.length : Int))) ((idx b a.1).bind fun c=>(idx b a.1).bind fun d=>(app 8 a.2 [c.Lo,d.Hi]).bind fun f=>some (.inl (w64 (a.1 + 1),f))) (some (.inr a.2))
noncomputable def qml (b : List qp) (a : Int × List Int) : Option ((Int × List Int) ⊕ (List Int)):=
  cond (decide (a.1 < (b.length : Int))) ((idx b a.1).bind fun c=>(idx b a.1).bind fun d=>(app 8 a.2 [c.Lo,d.Hi]).bind fun f=>some (.inl (w64 (a.1 + 1),f))) (some (.inr a.2))
noncomputable def qgn (a : List qp) (b : List qp) : Option (List Int):=
  (loop (q9n a) (0,[])).bind fun c=>(loop (qml b) (0,c)).bind fun d=>(Zv d).bind fun f=>some f
noncomputable def q9o (b : List qp) (c : Int) (a : Int) : Option ((Int) ⊕ ((Unit) ⊕ (Bool))):=
  cond (decide (a < (b.length : Int))) ((idx b a).bind fun d=>(cond (decide (d.Lo≤c)) ((idx b a).bind fun f=>some (decide (c < f.Hi))) (some false)).bind fun g=>cond g (some (.inr (.inr true))) (some (.inl (w64 (a + 1))))) (some (.inr (.inl ())))
noncomputable def qds (a : List qp) (b : Int) : Option Bool:=
  (loop (q9o a b) 0 : Option ((Unit) ⊕ (Bool))).bind fun c=>(match c with | .inl _=>some false | .inr d=>some d)
noncomputable def q9p (b : List Int) (c : List qp) (d : List qp) (f : Int) (a : Int × List Bool) : Option ((Int × List Bool) ⊕ (List Bool)):=
  cond (decide (a.1 < (b.length : Int))) ((idx b a.1).bind fun g=>(qds c g).bind fun h=>(idx b a.1).bind fun j=>(qds d j).bind fun k=>(q6b f h k).bind fun l=>(app 1 a.2 [l]).bind fun m=>some (.inl (w64 (a.1 + 1),m))) (some (.inr a.2))
noncomputable def qdt (d : Int) (a : List qp) (b : List qp) : Option (List qp):=
  (qgn a b).bind fun c=>(loop (q9p c a b d) (0,[])).bind fun f=>(Uf c f).bind fun g=>some g
noncomputable def qc7 (b : List qp) (a : Int × Int) : Option ((Int × Int) ⊕ (Int)):=
  cond (decide (a.2 < (b.length : Int))) ((idx b a.2).bind fun c=>some (.inl (w64 (a.1 + (w64 (c.Hi - c.Lo))),w64 (a.2 + 1)))) (some (.inr a.1))
noncomputable def qo9 (a : List qp) : Option (Int × Int):=
  (qed a).bind fun b=>cond (b != 0) (some (0,b)) ((loop (qc7 a) (0,0)).bind fun c=>some (c,0))
noncomputable def q9q (b : List qp) (a : Int × Int) : Option ((Int × Int) ⊕ (Int)):=
  cond (decide (a.2 < (b.length : Int))) ((idx b a.2).bind fun c=>(idx b a.2).bind fun d=>some (.inl (w64 ((w64 (a.1 + c.Hi)) - d.Lo),w64 (a.2 + 1)))) (some (.inr a.1))
noncomputable def qmn (a : List qp) : Option (Int × Int):=
  (qdr a).bind fun b=>cond (b != 0) ((qdr a).bind fun c=>some (0,c)) ((loop (q9q a) (0,0)).bind fun d=>some (d,0))
end Go.Sh
