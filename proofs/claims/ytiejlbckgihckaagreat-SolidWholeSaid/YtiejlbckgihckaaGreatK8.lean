/- PX -/
import Derived.Test.YtiejlbckgihckaaGreatK7
namespace Go.Sh
open Go Go.Am
structure Q6 where
  X : Int
  Y : Int
  Z : Int
  deriving DecidableEq
structure qe where
  Lo : Q6
  Hi : Q6
  deriving DecidableEq
def Q5 (x : qe) : List DV:=[.int .i64 x.Lo.X,.int .i64 x.Lo.Y,.int .i64 x.Lo.Z,.int .i64 x.Hi.X,.int .i64 x.Hi.Y,.int .i64 x.Hi.Z]
noncomputable def Yr (a : Int) (b : Int) (c : Int) (d : Int) (f : Int) (g : Int) : Option qe:=
  some ({Lo:=({X:=a,Y:=b,Z:=c} : Q6),Hi:=({X:=d,Y:=f,Z:=g} : Q6)} : qe)
noncomputable def Jk : Option (List qe):=
  (Yr 0 0 0 2 2 1).bind fun a=>(Yr 0 0 1 1 2 2).bind fun b=>some [a,b]
noncomputable def q1h (b : List qe) (c : qe→Option Bool) (a : Int) : Option ((Int) ⊕ ((Unit) ⊕ (Int))):=
  cond (decide (a < (b.length : Int))) ((idx b a).bind fun d=>(c d).bind fun f=>cond f (some (.inr (.inr a))) (some (.inl (w64 (a + 1))))) (some (.inr (.inl ())))
noncomputable def qa7 (a : List qe) (b : qe→Option Bool) : Option Int:=
  (loop (q1h a b) 0 : Option ((Unit) ⊕ (Int))).bind fun c=>(match c with | .inl _=>some (-1) | .inr d=>some d)
noncomputable def q4n (a : List qe) (b : qe→Option Bool) : Option Bool:=
  (qa7 a b).bind fun c=>some (decide (c ≥ 0))
noncomputable def q8b (a : Q6) : Option Bool:=
  (cond (decide ((min (min a.X a.Y) a.Z) ≥ (-1000000))) (some (decide ((max (max a.X a.Y) a.Z)≤1000000))) (some false)).bind fun b=>some b
noncomputable def q8e (a : qe) : Option Bool:=
  (cond (decide (a.Lo.X < a.Hi.X)) (some (decide (a.Lo.Y < a.Hi.Y))) (some false)).bind fun b=>(cond b (some (decide (a.Lo.Z < a.Hi.Z))) (some false)).bind fun c=>(cond c ((q8b a.Lo).bind fun d=>some d) (some false)).bind fun f=>(cond f ((q8b a.Hi).bind fun g=>some g) (some false)).bind fun h=>some h
noncomputable def q3j (a : qe) : Option Bool:=
  (q8e a).bind fun b=>some (!b)
def K4 (x : List qe) : List DV:=[.sl 6 (x.map Q5)]
def qdq : ByteArray:=⟨#[0,1,2,2,3,3,3,3,4,4,4,4,4,4,4,4,5,5,5,5,5,5,5,5,5,5,5,5,5,5,5,5,6,6,6,6,6,6,6,6,6,6,6,6,6,6,6,6,6,6,6,6,6,6,6,6,6,6,6,6,6,6,6,6,7,7,7,7,7,7,7,7,7,7,7,7,7,7,7,7,7,7,7,7,7,7,7,7,7,7,7,7,7,7,7,7,7,7,7,7,7,7,7,7,7,7,7,7,7,7,7,7,7,7,7,7,7,7,7,7,7,7,7,7,7,7,7,7,8,8,8,8,8,8,8,8,8,8,8,8,8,8,8,8,8,8,8,8,8,8,8,8,8,8,8,8,8,8,8,8,8,8,8,8,8,8,8,8,8,8,8,8,8,8,8,8,8,8,8,8,8,8,8,8,8,8,8,8,8,8,8,8,8,8,8,8,8,8,8,8,8,8,8,8,8,8,8,8,8,8,8,8,8,8,8,8,8,8,8,8,8,8,8,8,8,8,8,8,8,8,8,8,8,8,8,8,8,8,8,8,8,8,8,8,8,8,8,8,8,8,8,8,8,8,8,8]⟩
noncomputable def q37 (c : Int) : Option Int:=
  (cond (decide (c ≥ 4294967296)) (some (Int.fdiv c (2 ^ 32),32)) (some (c,0))).bind fun a=>(cond (decide (a.1 ≥ 65536)) (some (Int.fdiv a.1 (2 ^ 16),w64 (a.2 + 16))) (some (a.1,a.2))).bind fun b=>(cond (decide (b.1 ≥ 256)) (some (Int.fdiv b.1 (2 ^ 8),w64 (b.2 + 8))) (some (b.1,b.2))).bind fun d=>(q5e qdq (IntKind.wrap .u8 d.1)).bind fun f=>some (w64 (d.2 + (w64 f)))
noncomputable def q1e (a : Int) : Option Int:=
  (q37 a).bind fun b=>some b
noncomputable def q8w (a : Int) : Option Bool:=
  some (a != a)
noncomputable def Zb (a : Int) (b : Int) : Option Bool:=
  (q8w a).bind fun c=>(cond c ((q8w b).bind fun d=>some (!d)) (some false)).bind fun f=>(cond f (some true) (some (decide (a < b)))).bind fun g=>some g
noncomputable def q7g (c : Int) (a : Int × List Int) : Option ((Int × List Int) ⊕ (List Int)):=
  (cond (decide (a.1 > c)) ((idx a.2 a.1).bind fun d=>(idx a.2 (w64 (a.1 - 1))).bind fun f=>(Zb d f).bind fun g=>some g) (some false)).bind fun h=>cond h ((idx a.2 (w64 (a.1 - 1))).bind fun b=>(idx a.2 a.1).bind fun j=>(idx a.2 a.1).bind fun _=>(idx (a.2.set a.1.toNat b) (w64 (a.1 - 1))).bind fun _=>some (.inl (w64 (a.1 - 1),(a.2.set a.1.toNat b).set (w64 (a.1 - 1)).toNat j))) (some (.inr a.2))
noncomputable def q7f (b : Int) (c : Int) (a : Int × List Int) : Option ((Int × List Int) ⊕ (List Int)):=
  cond (decide (a.1 < b)) (((loop (q7g c) (a.1,a.2)).bind fun d=>some d).bind fun f=>some (.inl (w64 (a.1 + 1),f))) (some (.inr a.2))
noncomputable def q7e (b : List Int) (a : Int) (c : Int) : Option (List Int):=
  (loop (q7f c a) (w64 (a + 1),b)).bind fun d=>some d
noncomputable def q82 (d : Int) (b : Int) (a : Int × List Int) : Option ((Int × List Int) ⊕ (List Int)):=
  cond (decide ((w64 ((w64 (2 * a.1)) + 1)) ≥ d)) (some (.inr a.2)) ((cond (decide ((w64 ((w64 ((w64 (2 * a.1)) + 1)) + 1)) < d)) ((idx a.2 (w64 (b + (w64 ((w64 (2 * a.1)) + 1))))).bind fun g=>(idx a.2 (w64 ((w64 (b + (w64 ((w64 (2 * a.1)) + 1)))) + 1))).bind fun h=>(Zb g h).bind fun j=>some j) (some false)).bind fun k=>(cond k (some (w64 ((w64 ((w64 (2 * a.1)) + 1)) + 1))) (some (w64 ((w64 (2 * a.1)) + 1)))).bind fun c=>(idx a.2 (w64 (b + a.1))).bind fun l=>(idx a.2 (w64 (b + c))).bind fun m=>(Zb l m).bind fun n=>cond (!n) (some (.inr a.2)) ((idx a.2 (w64 (b + c))).bind fun f=>(idx a.2 (w64 (b + a.1))).bind fun o=>(idx a.2 (w64 (b + a.1))).bind fun _=>(idx (a.2.set (w64 (b + a.1)).toNat f) (w64 (b + c))).bind fun _=>some (.inl (c,(a.2.set (w64 (b + a.1)).toNat f).set (w64 (b + c)).toNat o))))
noncomputable def q4y (a : List Int) (b : Int) (c : Int) (d : Int) : Option (List Int):=
  (loop (q82 c d) (b,a)).bind fun f=>some f
noncomputable def q7c (d : Int) (b : Int) (a : Int × List Int) : Option ((Int × List Int) ⊕ (List Int)):=
  cond (decide (a.1 ≥ 0)) ((q4y a.2 a.1 (w64 (d - b)) b).bind fun c=>(K1 c.length a.2.length).bind fun _=>some (.inl (w64 (a.1 - 1),c))) (some (.inr a.2))
noncomputable def q7d (b : Int) (a : Int × List Int) : Option ((Int × List Int) ⊕ (List Int)):=
  cond (decide (a.1 ≥ 0)) ((idx a.2 (w64 (b + a.1))).bind fun c=>(idx a.2 b).bind fun d=>(idx a.2 b).bind fun _=>(idx (a.2.set b.toNat c) (w64 (b + a.1))).bind fun _=>(q4y ((a.2.set b.toNat c).set (w64 (b + a.1)).toNat d) 0 a.1 b).bind fun f=>(K1 f.length ((a.2.set b.toNat c).set (w64 (b + a.1)).toNat d).length).bind fun _=>some (.inl (w64 (a.1 - 1),f))) (some (.inr a.2))
noncomputable def q7b (c : List Int) (a : Int) (b : Int) : Option (List Int):=
  (loop (q7c b a) (w64 (Int.tdiv (w64 ((w64 (b - a)) - 1)) 2),c)).bind fun d=>(loop (q7d a) (w64 ((w64 (b - a)) - 1),d)).bind fun f=>some f
noncomputable def q3i (c : List Int) (a : Int) (b : Int) (d : Int) : Option (Int × Int × Int):=
  (idx c b).bind fun f=>(idx c a).bind fun g=>(Zb f g).bind fun h=>cond h (some (b,a,w64 (d + 1))) (some (a,b,d))
noncomputable def q4s (a : List Int) (f : Int) (g : Int) (h : Int) (j : Int) : Option (Int × Int):=
  (q3i a f g j).bind fun b=>(q3i a b.2.1 h b.2.2).bind fun c=>(q3i a b.1 c.1 c.2.2).bind fun d=>some (d.2.1,d.2.2)
noncomputable def q3h (c : List Int) (a : Int) (d : Int) : Option (Int × Int):=
  (q4s c (w64 (a - 1)) a (w64 (a + 1)) d).bind fun b=>some (b.1,b.2)
noncomputable def q7a (d : List Int) (a : Int) (b : Int) : Option (Int × Int):=
  (cond (decide ((w64 (b - a)) ≥ 8)) ((cond (decide ((w64 (b - a)) ≥ 50)) ((q3h d (w64 (a + (w64 ((w64 (Int.tdiv (w64 (b - a)) 4)) * 1)))) 0).bind fun g=>(q3h d (w64 (a + (w64 ((w64 (Int.tdiv (w64 (b - a)) 4)) * 2)))) g.2).bind fun h=>(q3h d (w64 (a + (w64 ((w64 (Int.tdiv (w64 (b - a)) 4)) * 3)))) h.2).bind fun j=>some (g.1,h.1,j.1,j.2)) (some (w64 (a + (w64 ((w64 (Int.tdiv (w64 (b - a)) 4)) * 1))),w64 (a + (w64 ((w64 (Int.tdiv (w64 (b - a)) 4)) * 2))),w64 (a + (w64 ((w64 (Int.tdiv (w64 (b - a)) 4)) * 3))),0))).bind fun f=>(q4s d f.1 f.2.1 f.2.2.1 f.2.2.2).bind fun k=>some (k.1,k.2)) (some (w64 (a + (w64 ((w64 (Int.tdiv (w64 (b - a)) 4)) * 2))),0))).bind fun c=>cond (c.2 == 0) (some (c.1,1)) (cond (c.2 == 12) (some (c.1,2)) (some (c.1,0)))
noncomputable def qay (a : Int × Int × List Int) : Option ((Int × Int × List Int) ⊕ (List Int)):=
  cond (decide (a.1 < a.2.1)) ((idx a.2.2 a.2.1).bind fun b=>(idx a.2.2 a.1).bind fun c=>(idx a.2.2 a.1).bind fun _=>(idx (a.2.2.set a.1.toNat b) a.2.1).bind fun _=>some (.inl (w64 (a.1 + 1),w64 (a.2.1 - 1),(a.2.2.set a.1.toNat b).set a.2.1.toNat c))) (some (.inr a.2.2))
noncomputable def q80 (a : List Int) (b : Int) (c : Int) : Option (List Int):=
  (loop qay (b,w64 (c - 1),a)).bind fun d=>some d
noncomputable def q7k (c : Int) (b : Int × Int × List Int) (a : Int) : Option ((Int) ⊕ (Int)):=
  (cond (decide (a < c)) ((idx b.2.2 a).bind fun d=>(idx b.2.2 (w64 (a - 1))).bind fun f=>(Zb d f).bind fun g=>some (!g)) (some false)).bind fun h=>cond h (some (.inl (w64 (a + 1)))) (some (.inr a))
noncomputable def qal (a : Int × List Int) : Option ((Int × List Int) ⊕ (List Int)):=
  cond (decide (a.1 ≥ 1)) ((idx a.2 a.1).bind fun c=>(idx a.2 (w64 (a.1 - 1))).bind fun d=>(Zb c d).bind fun f=>cond (!f) (some (.inr a.2)) ((idx a.2 (w64 (a.1 - 1))).bind fun b=>(idx a.2 a.1).bind fun g=>(idx a.2 a.1).bind fun _=>(idx (a.2.set a.1.toNat b) (w64 (a.1 - 1))).bind fun _=>some (.inl (w64 (a.1 - 1),(a.2.set a.1.toNat b).set (w64 (a.1 - 1)).toNat g)))) (some (.inr a.2))
noncomputable def q7l (d : Int) (b : Int) (a : Int × List Int) : Option ((Int × List Int) ⊕ (Int × List Int)):=
  cond (decide (a.1 < d)) ((idx a.2 a.1).bind fun f=>(idx a.2 (w64 (a.1 - 1))).bind fun g=>(Zb f g).bind fun h=>cond (!h) (some (.inr (b,a.2))) ((idx a.2 (w64 (a.1 - 1))).bind fun c=>(idx a.2 a.1).bind fun j=>(idx a.2 a.1).bind fun _=>(idx (a.2.set a.1.toNat c) (w64 (a.1 - 1))).bind fun _=>some (.inl (w64 (a.1 + 1),(a.2.set a.1.toNat c).set (w64 (a.1 - 1)).toNat j)))) (some (.inr (b,a.2)))
noncomputable def q4v (c : Int) (g : Int) (b : Int × Int × List Int) : Option ((Int × Int × List Int) ⊕ ((List Int) ⊕ (Bool × List Int))):=
  cond (decide (b.2.1 < 5)) (((loop (q7k c b) b.1).bind fun a=>cond (a == c) (some (.inr (true,b.2.2))) (cond (decide ((w64 (c - g)) < 50)) (some (.inr (false,b.2.2))) ((idx b.2.2 (w64 (a - 1))).bind fun d=>(idx b.2.2 a).bind fun h=>(idx b.2.2 a).bind fun _=>(idx (b.2.2.set a.toNat d) (w64 (a - 1))).bind fun _=>(cond (decide ((w64 (a - g)) ≥ 2)) ((loop qal (w64 (a - 1),(b.2.2.set a.toNat d).set (w64 (a - 1)).toNat h)).bind fun f=>some f) (some ((b.2.2.set a.toNat d).set (w64 (a - 1)).toNat h))).bind fun j=>cond (decide ((w64 (c - a)) ≥ 2)) ((loop (q7l c a) (w64 (a + 1),j)).bind fun f=>some (.inl f)) (some (.inl (a,j))))) : Option ((Int × List Int) ⊕ (Bool × List Int))).bind fun l=>(match l with | .inl k=>some (.inl (k.1,w64 (b.2.1 + 1),k.2)) | .inr m=>some (.inr (.inr m)))) (some (.inr (.inl b.2.2)))
noncomputable def q4u (b : List Int) (a : Int) (c : Int) : Option (Bool × List Int):=
  (loop (q4v c a) (w64 (a + 1),0,b) : Option ((List Int) ⊕ (Bool × List Int))).bind fun d=>(match d with | .inl f=>some (false,f) | .inr g=>some g)
noncomputable def q7o (b : Int × Int × List Int) (c : Int) (a : Int) : Option ((Int) ⊕ (Int)):=
  (cond (decide (a≤b.2.1)) ((idx b.2.2 c).bind fun d=>(idx b.2.2 a).bind fun f=>(Zb d f).bind fun g=>some (!g)) (some false)).bind fun h=>cond h (some (.inl (w64 (a + 1)))) (some (.inr a))
noncomputable def q7p (c : Int) (b : Int × Int × List Int) (d : Int) (a : Int) : Option ((Int) ⊕ (Int)):=
  (cond (decide (c≤a)) ((idx b.2.2 d).bind fun f=>(idx b.2.2 a).bind fun g=>(Zb f g).bind fun h=>some h) (some false)).bind fun j=>cond j (some (.inl (w64 (a - 1)))) (some (.inr a))
noncomputable def q7n (d : Int) (a : Int × Int × List Int) : Option ((Int × Int × List Int) ⊕ (Int × List Int)):=
  (loop (q7o a d) a.1).bind fun b=>(loop (q7p b a d) a.2.1).bind fun c=>cond (decide (b > c)) (some (.inr (b,a.2.2))) ((idx a.2.2 c).bind fun f=>(idx a.2.2 b).bind fun g=>(idx a.2.2 b).bind fun _=>(idx (a.2.2.set b.toNat f) c).bind fun _=>some (.inl (w64 (b + 1),w64 (c - 1),(a.2.2.set b.toNat f).set c.toNat g)))
noncomputable def q7m (b : List Int) (a : Int) (g : Int) (c : Int) : Option (Int × List Int):=
  (idx b c).bind fun d=>(idx b a).bind fun h=>(idx b a).bind fun _=>(idx (b.set a.toNat d) c).bind fun _=>(loop (q7n a) (w64 (a + 1),w64 (g - 1),(b.set a.toNat d).set c.toNat h)).bind fun f=>some (f.1,f.2)
noncomputable def q7r (h : Int) (c : List Int) (b : Int) (d : Int) (f : Int) (g : Int) (a : Int) : Option ((Int) ⊕ (Int)):=
  (cond (decide (a≤(w64 (h - 1)))) ((idx ((c.set b.toNat d).set f.toNat g) a).bind fun j=>(idx ((c.set b.toNat d).set f.toNat g) b).bind fun k=>(Zb j k).bind fun l=>some l) (some false)).bind fun m=>cond m (some (.inl (w64 (a + 1)))) (some (.inr a))
noncomputable def q7s (h : Int) (c : List Int) (b : Int) (d : Int) (f : Int) (g : Int) (a : Int) : Option ((Int) ⊕ (Int)):=
  (cond (decide (h≤a)) ((idx ((c.set b.toNat d).set f.toNat g) a).bind fun j=>(idx ((c.set b.toNat d).set f.toNat g) b).bind fun k=>(Zb j k).bind fun l=>some (!l)) (some false)).bind fun m=>cond m (some (.inl (w64 (a - 1)))) (some (.inr a))
noncomputable def q7u (b : Int × Int × List Int) (c : Int) (a : Int) : Option ((Int) ⊕ (Int)):=
  (cond (decide (a≤b.2.1)) ((idx b.2.2 a).bind fun d=>(idx b.2.2 c).bind fun f=>(Zb d f).bind fun g=>some g) (some false)).bind fun h=>cond h (some (.inl (w64 (a + 1)))) (some (.inr a))
noncomputable def q7v (c : Int) (b : Int × Int × List Int) (d : Int) (a : Int) : Option ((Int) ⊕ (Int)):=
  (cond (decide (c≤a)) ((idx b.2.2 a).bind fun f=>(idx b.2.2 d).bind fun g=>(Zb f g).bind fun h=>some (!h)) (some false)).bind fun j=>cond j (some (.inl (w64 (a - 1)))) (some (.inr a))
noncomputable def q7t (d : Int) (a : Int × Int × List Int) : Option ((Int × Int × List Int) ⊕ (Int × List Int)):=
  (loop (q7u a d) a.1).bind fun b=>(loop (q7v b a d) a.2.1).bind fun c=>cond (decide (b > c)) (some (.inr (c,a.2.2))) ((idx a.2.2 c).bind fun f=>(idx a.2.2 b).bind fun g=>(idx a.2.2 b).bind fun _=>(idx (a.2.2.set b.toNat f) c).bind fun _=>some (.inl (w64 (b + 1),w64 (c - 1),(a.2.2.set b.toNat f).set c.toNat g)))
noncomputable def q7q (b : List Int) (a : Int) (k : Int) (c : Int) : Option (Int × Bool × List Int):=
  (idx b c).bind fun d=>(idx b a).bind fun f=>(idx b a).bind fun _=>(idx (b.set a.toNat d) c).bind fun _=>(loop (q7r k b a d c f) (w64 (a + 1))).bind fun j=>(loop (q7s j b a d c f) (w64 (k - 1))).bind fun g=>cond (decide (j > g)) ((idx ((b.set a.toNat d).set c.toNat f) a).bind fun l=>(idx ((b.set a.toNat d).set c.toNat f) g).bind fun o=>(idx ((b.set a.toNat d).set c.toNat f) g).bind fun _=>(idx (((b.set a.toNat d).set c.toNat f).set g.toNat l) a).bind fun _=>some (g,true,(((b.set a.toNat d).set c.toNat f).set g.toNat l).set a.toNat o)) ((idx ((b.set a.toNat d).set c.toNat f) g).bind fun m=>(idx ((b.set a.toNat d).set c.toNat f) j).bind fun p=>(idx ((b.set a.toNat d).set c.toNat f) j).bind fun _=>(idx (((b.set a.toNat d).set c.toNat f).set j.toNat m) g).bind fun _=>(loop (q7t a) (w64 (j + 1),w64 (g - 1),(((b.set a.toNat d).set c.toNat f).set j.toNat m).set g.toNat p)).bind fun h=>(idx h.2 a).bind fun n=>(idx h.2 h.1).bind fun q=>(idx h.2 h.1).bind fun _=>(idx (h.2.set h.1.toNat n) a).bind fun _=>some (h.1,false,(h.2.set h.1.toNat n).set a.toNat q))
noncomputable def q2c (a : Int) : Option Int:=
  (q1e (IntKind.wrap .u64 a)).bind fun b=>(shlK .u64 1 b).bind fun c=>some c
noncomputable def q2d (a : Int) : Option Int:=
  some (xorI .u64 (xorI .u64 (xorI .u64 a (IntKind.wrap .u64 (a * (2 ^ 13)))) (Int.fdiv (xorI .u64 a (IntKind.wrap .u64 (a * (2 ^ 13)))) (2 ^ 7))) (IntKind.wrap .u64 ((xorI .u64 (xorI .u64 a (IntKind.wrap .u64 (a * (2 ^ 13)))) (Int.fdiv (xorI .u64 a (IntKind.wrap .u64 (a * (2 ^ 13)))) (2 ^ 7))) * (2 ^ 17))))
noncomputable def q79 (b : Int) (d : Int) (f : Int) (a : Int × List Int × Int) : Option ((Int × List Int × Int) ⊕ (List Int)):=
  cond (decide (a.1≤(w64 ((w64 (b + (w64 ((w64 (Int.tdiv (w64 (d - b)) 4)) * 2)))) + 1)))) ((q2d a.2.2).bind fun c=>(cond (decide ((w64 (andI .u64 c (IntKind.wrap .u64 (f - 1)))) ≥ (w64 (d - b)))) (some (w64 ((w64 (andI .u64 c (IntKind.wrap .u64 (f - 1)))) - (w64 (d - b))))) (some (w64 (andI .u64 c (IntKind.wrap .u64 (f - 1)))))).bind fun g=>(idx a.2.1 (w64 (b + g))).bind fun h=>(idx a.2.1 a.1).bind fun j=>(idx a.2.1 a.1).bind fun _=>(idx (a.2.1.set a.1.toNat h) (w64 (b + g))).bind fun _=>some (.inl (w64 (a.1 + 1),(a.2.1.set a.1.toNat h).set (w64 (b + g)).toNat j,c))) (some (.inr a.2.1))
noncomputable def q78 (c : List Int) (a : Int) (b : Int) : Option (List Int):=
  cond (decide ((w64 (b - a)) ≥ 8)) ((q2c (w64 (b - a))).bind fun d=>(loop (q79 a b d) (w64 ((w64 (a + (w64 ((w64 (Int.tdiv (w64 (b - a)) 4)) * 2)))) - 1),c,IntKind.wrap .u64 (w64 (b - a)))).bind fun f=>some f) (some c)
noncomputable def q4w (rec : List Int→Int→Int→Int→Option (List Int)) (a : Int × Int × Int × Bool × Bool × List Int) : Option ((Int × Int × Int × Bool × Bool × List Int) ⊕ (List Int)):=
  cond (decide ((w64 (a.2.1 - a.1))≤12)) ((q7e a.2.2.2.2.2 a.1 a.2.1).bind fun k=>(K1 k.length a.2.2.2.2.2.length).bind fun _=>some (.inr k)) (cond (a.2.2.1 == 0) ((q7b a.2.2.2.2.2 a.1 a.2.1).bind fun l=>(K1 l.length a.2.2.2.2.2.length).bind fun _=>some (.inr l)) ((cond (!a.2.2.2.1) ((q78 a.2.2.2.2.2 a.1 a.2.1).bind fun m=>(K1 m.length a.2.2.2.2.2.length).bind fun _=>some (w64 (a.2.2.1 - 1),m)) (some (a.2.2.1,a.2.2.2.2.2))).bind fun c=>(q7a c.2 a.1 a.2.1).bind fun g=>(cond (g.2 == 2) ((q80 c.2 a.1 a.2.1).bind fun n=>(K1 n.length c.2.length).bind fun _=>some (w64 ((w64 (a.2.1 - 1)) - (w64 (g.1 - a.1))),1,n)) (some (g.1,g.2,c.2))).bind fun d=>(cond a.2.2.2.1 (some a.2.2.2.2.1) (some false)).bind fun q=>(cond q (some (d.2.1 == 1)) (some false)).bind fun r=>(cond r ((q4u d.2.2 a.1 a.2.1).bind fun h=>(K1 h.2.length d.2.2.length).bind fun _=>cond h.1 (some (.inr h.2)) (some (.inl h.2))) (some (.inl d.2.2)) : Option ((List Int) ⊕ (List Int))).bind fun s=>(match s with | .inl f=>(cond (decide (a.1 > 0)) ((idx f (w64 (a.1 - 1))).bind fun t=>(idx f d.1).bind fun u=>(Zb t u).bind fun v=>some (!v)) (some false)).bind fun w=>cond w ((q7m f a.1 a.2.1 d.1).bind fun j=>(K1 j.2.length f.length).bind fun _=>some (.inl (j.1,a.2.1,c.1,a.2.2.2.1,a.2.2.2.2.1,j.2))) ((q7q f a.1 a.2.1 d.1).bind fun b=>(K1 b.2.2.length f.length).bind fun _=>cond (decide ((w64 (b.1 - a.1)) < (w64 (a.2.1 - b.1)))) ((rec b.2.2 a.1 b.1 c.1).bind fun o=>(K1 o.length b.2.2.length).bind fun _=>some (.inl (w64 (b.1 + 1),a.2.1,c.1,decide ((w64 (b.1 - a.1)) ≥ (w64 (Int.tdiv (w64 (a.2.1 - a.1)) 8))),b.2.1,o))) ((rec b.2.2 (w64 (b.1 + 1)) a.2.1 c.1).bind fun p=>(K1 p.length b.2.2.length).bind fun _=>some (.inl (a.1,b.1,c.1,decide ((w64 (a.2.1 - b.1)) ≥ (w64 (Int.tdiv (w64 (a.2.1 - a.1)) 8))),b.2.1,p)))) | .inr x=>some (.inr x))))
noncomputable def q4x (rec : List Int→Int→Int→Int→Option (List Int)) (a : List Int) (b : Int) (c : Int) (d : Int) : Option (List Int):=
  (loop (q4w rec) (b,c,d,true,true,a)).bind fun f=>some f
noncomputable def q7z : Nat→List Int→Int→Int→Int→Option (List Int)
  | 0,_,_,_,_=>none
  | n + 1,a,b,c,d=>q4x (q7z n)  a b c d
noncomputable def Ud (a : List Int) : Option (List Int):=
  (q1e (IntKind.wrap .u64 (a.length : Int))).bind fun c=>(lim (fun n=>q7z n a 0 (a.length : Int) c)).bind fun b=>(K1 b.length a.length).bind fun _=>some b
noncomputable def q2b (a : Int × (Nat × Nat) × Int × List Int) : Option ((Int × (Nat × Nat) × Int × List Int) ⊕ (Int × List Int)):=
  cond (decide (a.2.2.1 < (a.2.1.2 : Int))) (((idxW a.2.2.2 a.2.1 a.2.2.1).bind fun c=>(idxW a.2.2.2 a.2.1 (w64 (a.2.2.1 - 1))).bind fun d=>cond (c != d) ((idxW a.2.2.2 a.2.1 a.2.2.1).bind fun f=>(idx a.2.2.2 a.1).bind fun _=>some (w64 (a.1 + 1),a.2.1,a.2.2.2.set a.1.toNat f)) (some (a.1,a.2.1,a.2.2.2))).bind fun b=>some (.inl (b.1,b.2.1,w64 (a.2.2.1 + 1),b.2.2))) (some (.inr (a.1,a.2.2.2)))
noncomputable def Js (a : List Int) (b : Int) : Option ((Int) ⊕ ((Unit) ⊕ ((Nat × Nat) × List Int))):=
  cond (decide (b < (a.length : Int))) ((idx a b).bind fun d=>(idx a (w64 (b - 1))).bind fun f=>cond (d == f) ((sub2 a.length b a.length).bind fun g=>(loop q2b (b,g,1,a)).bind fun c=>(sub2 c.2.length c.1 c.2.length).bind fun h=>(sub2 c.2.length 0 c.1).bind fun j=>some (.inr (.inr (j,clrw c.2 h 0)))) (some (.inl (w64 (b + 1))))) (some (.inr (.inl ())))
noncomputable def q1g (a : List Int) : Option ((Nat × Nat) × List Int):=
  cond (decide ((a.length : Int) < 2)) (some ((0,a.length),a)) ((loop (Js a) 1 : Option ((Unit) ⊕ ((Nat × Nat) × List Int))).bind fun b=>(match b with | .inl _=>some ((0,a.length),a) | .inr c=>some c))
structure qi where
  X0 : Int
  Y0 : Int
  X1 : Int
  Y1 : Int
  deriving DecidableEq
def qw (x : qi) : List DV:=[.int .i64 x.X0,.int .i64 x.Y0,.int .i64 x.X1,.int .i64 x.Y1]
noncomputable def q4p (b : List qi) (c : qi→Option Bool) (a : Int) : Option ((Int) ⊕ ((Unit) ⊕ (Int))):=
  cond (decide (a < (b.length : Int))) ((idx b a).bind fun d=>(c d).bind fun f=>cond f (some (.inr (.inr a))) (some (.inl (w64 (a + 1))))) (some (.inr (.inl ())))
noncomputable def qdb (a : List qi) (b : qi→Option Bool) : Option Int:=
  (loop (q4p a b) 0 : Option ((Unit) ⊕ (Int))).bind fun c=>(match c with | .inl _=>some (-1) | .inr d=>some d)
noncomputable def qa3 (a : List qi) (b : qi→Option Bool) : Option Bool:=
  (qdb a b).bind fun c=>some (decide (c ≥ 0))
noncomputable def q3c (a : Int) : Option Bool:=
  (cond (decide (a ≥ (-1000000))) (some (decide (a≤1000000))) (some false)).bind fun b=>some b
noncomputable def q72 (a : qi) : Option Bool:=
  (cond (decide (a.X0 < a.X1)) (some (decide (a.Y0 < a.Y1))) (some false)).bind fun b=>(cond b ((q3c a.X0).bind fun c=>some c) (some false)).bind fun d=>(cond d ((q3c a.X1).bind fun f=>some f) (some false)).bind fun g=>(cond g ((q3c a.Y0).bind fun h=>some h) (some false)).bind fun j=>(cond j ((q3c a.Y1).bind fun k=>some k) (some false)).bind fun l=>some l
noncomputable def q3b (a : qi) : Option Bool:=
  (q72 a).bind fun b=>some (!b)
def Km (x : List qi) : List DV:=[.sl 4 (x.map qw)]
structure qj where
  Lo : Int
  Hi : Int
  deriving DecidableEq
def Qg (x : qj) : List DV:=[.int .i64 x.Lo,.int .i64 x.Hi]
noncomputable def q3g (b : List qj) (c : qj→Option Bool) (a : Int) : Option ((Int) ⊕ ((Unit) ⊕ (Int))):=
  cond (decide (a < (b.length : Int))) ((idx b a).bind fun d=>(c d).bind fun f=>cond f (some (.inr (.inr a))) (some (.inl (w64 (a + 1))))) (some (.inr (.inl ())))
noncomputable def qa8 (a : List qj) (b : qj→Option Bool) : Option Int:=
  (loop (q3g a b) 0 : Option ((Unit) ⊕ (Int))).bind fun c=>(match c with | .inl _=>some (-1) | .inr d=>some d)
noncomputable def qa5 (a : List qj) (b : qj→Option Bool) : Option Bool:=
  (qa8 a b).bind fun c=>some (decide (c ≥ 0))
noncomputable def q3q (a : qj) : Option Bool:=
  (cond (decide (a.Lo < a.Hi)) (some (decide (a.Lo ≥ (-1000000)))) (some false)).bind fun b=>(cond b (some (decide (a.Hi≤1000000))) (some false)).bind fun c=>some c
noncomputable def qdn (a : qj) : Option Bool:=
  (q3q a).bind fun b=>some (!b)
def q1n (x : List qj) : List DV:=[.sl 2 (x.map Qg)]
structure ql where
  at_ : Int
  list_ : Int
  by_ : Int
  deriving DecidableEq
def Q9 (x : ql) : List DV:=[.int .i64 x.at_,.int .i64 x.list_,.int .i64 x.by_]
noncomputable def qb4 (a : ql) (b : ql) : Option Int:=
  some (w64 (a.at_ - b.at_))
noncomputable def qah (c : Int) (d : ql→ql→Option Int) (a : Int × List ql) : Option ((Int × List ql) ⊕ (List ql)):=
  (cond (decide (a.1 > c)) ((idx a.2 a.1).bind fun f=>(idx a.2 (w64 (a.1 - 1))).bind fun g=>(d f g).bind fun h=>some (decide (h < 0))) (some false)).bind fun j=>cond j ((idx a.2 (w64 (a.1 - 1))).bind fun b=>(idx a.2 a.1).bind fun k=>(idx a.2 a.1).bind fun _=>(idx (a.2.set a.1.toNat b) (w64 (a.1 - 1))).bind fun _=>some (.inl (w64 (a.1 - 1),(a.2.set a.1.toNat b).set (w64 (a.1 - 1)).toNat k))) (some (.inr a.2))
noncomputable def qag (b : Int) (c : Int) (d : ql→ql→Option Int) (a : Int × List ql) : Option ((Int × List ql) ⊕ (List ql)):=
  cond (decide (a.1 < b)) (((loop (qah c d) (a.1,a.2)).bind fun f=>some f).bind fun g=>some (.inl (w64 (a.1 + 1),g))) (some (.inr a.2))
noncomputable def qaf (b : ql→ql→Option Int) (c : List ql) (a : Int) (d : Int) : Option (List ql):=
  (loop (qag d a b) (w64 (a + 1),c)).bind fun f=>some f
noncomputable def qaz (d : Int) (b : Int) (f : ql→ql→Option Int) (a : Int × List ql) : Option ((Int × List ql) ⊕ (List ql)):=
  cond (decide ((w64 ((w64 (2 * a.1)) + 1)) ≥ d)) (some (.inr a.2)) ((cond (decide ((w64 ((w64 ((w64 (2 * a.1)) + 1)) + 1)) < d)) ((idx a.2 (w64 (b + (w64 ((w64 (2 * a.1)) + 1))))).bind fun h=>(idx a.2 (w64 ((w64 (b + (w64 ((w64 (2 * a.1)) + 1)))) + 1))).bind fun j=>(f h j).bind fun k=>some (decide (k < 0))) (some false)).bind fun l=>(cond l (some (w64 ((w64 ((w64 (2 * a.1)) + 1)) + 1))) (some (w64 ((w64 (2 * a.1)) + 1)))).bind fun c=>(idx a.2 (w64 (b + a.1))).bind fun m=>(idx a.2 (w64 (b + c))).bind fun n=>(f m n).bind fun o=>cond (!(decide (o < 0))) (some (.inr a.2)) ((idx a.2 (w64 (b + c))).bind fun g=>(idx a.2 (w64 (b + a.1))).bind fun p=>(idx a.2 (w64 (b + a.1))).bind fun _=>(idx (a.2.set (w64 (b + a.1)).toNat g) (w64 (b + c))).bind fun _=>some (.inl (c,(a.2.set (w64 (b + a.1)).toNat g).set (w64 (b + c)).toNat p))))
noncomputable def q81 (a : ql→ql→Option Int) (b : List ql) (c : Int) (d : Int) (f : Int) : Option (List ql):=
  (loop (qaz d f a) (c,b)).bind fun g=>some g
noncomputable def qad (d : ql→ql→Option Int) (f : Int) (b : Int) (a : Int × List ql) : Option ((Int × List ql) ⊕ (List ql)):=
  cond (decide (a.1 ≥ 0)) ((q81 d a.2 a.1 (w64 (f - b)) b).bind fun c=>(K1 c.length a.2.length).bind fun _=>some (.inl (w64 (a.1 - 1),c))) (some (.inr a.2))
noncomputable def qae (b : Int) (g : ql→ql→Option Int) (a : Int × List ql) : Option ((Int × List ql) ⊕ (List ql)):=
  cond (decide (a.1 ≥ 0)) ((idx a.2 (w64 (b + a.1))).bind fun c=>(idx a.2 b).bind fun d=>(idx a.2 b).bind fun _=>(idx (a.2.set b.toNat c) (w64 (b + a.1))).bind fun _=>(q81 g ((a.2.set b.toNat c).set (w64 (b + a.1)).toNat d) 0 a.1 b).bind fun f=>(K1 f.length ((a.2.set b.toNat c).set (w64 (b + a.1)).toNat d).length).bind fun _=>some (.inl (w64 (a.1 - 1),f))) (some (.inr a.2))
noncomputable def qac (c : ql→ql→Option Int) (d : List ql) (a : Int) (b : Int) : Option (List ql):=
  (loop (qad c b a) (w64 (Int.tdiv (w64 ((w64 (b - a)) - 1)) 2),d)).bind fun f=>(loop (qae a c) (w64 ((w64 (b - a)) - 1),f)).bind fun g=>some g
noncomputable def q4t (f : ql→ql→Option Int) (c : List ql) (a : Int) (b : Int) (d : Int) : Option (Int × Int × Int):=
  (idx c b).bind fun g=>(idx c a).bind fun h=>(f g h).bind fun j=>cond (decide (j < 0)) (some (b,a,w64 (d + 1))) (some (a,b,d))
noncomputable def q7h (a : ql→ql→Option Int) (b : List ql) (g : Int) (h : Int) (j : Int) (k : Int) : Option (Int × Int):=
  (q4t a b g h k).bind fun c=>(q4t a b c.2.1 j c.2.2).bind fun d=>(q4t a b c.1 d.1 d.2.2).bind fun f=>some (f.2.1,f.2.2)
noncomputable def q4r (c : ql→ql→Option Int) (d : List ql) (a : Int) (f : Int) : Option (Int × Int):=
  (q7h c d (w64 (a - 1)) a (w64 (a + 1)) f).bind fun b=>some (b.1,b.2)
noncomputable def qab (d : List ql) (a : Int) (b : Int) (f : ql→ql→Option Int) : Option (Int × Int):=
  (cond (decide ((w64 (b - a)) ≥ 8)) ((cond (decide ((w64 (b - a)) ≥ 50)) ((q4r f d (w64 (a + (w64 ((w64 (Int.tdiv (w64 (b - a)) 4)) * 1)))) 0).bind fun h=>(q4r f d (w64 (a + (w64 ((w64 (Int.tdiv (w64 (b - a)) 4)) * 2)))) h.2).bind fun j=>(q4r f d (w64 (a + (w64 ((w64 (Int.tdiv (w64 (b - a)) 4)) * 3)))) j.2).bind fun k=>some (h.1,j.1,k.1,k.2)) (some (w64 (a + (w64 ((w64 (Int.tdiv (w64 (b - a)) 4)) * 1))),w64 (a + (w64 ((w64 (Int.tdiv (w64 (b - a)) 4)) * 2))),w64 (a + (w64 ((w64 (Int.tdiv (w64 (b - a)) 4)) * 3))),0))).bind fun g=>(q7h f d g.1 g.2.1 g.2.2.1 g.2.2.2).bind fun l=>some (l.1,l.2)) (some (w64 (a + (w64 ((w64 (Int.tdiv (w64 (b - a)) 4)) * 2))),0))).bind fun c=>cond (c.2 == 0) (some (c.1,1)) (cond (c.2 == 12) (some (c.1,2)) (some (c.1,0)))
noncomputable def qax (a : Int × Int × List ql) : Option ((Int × Int × List ql) ⊕ (List ql)):=
  cond (decide (a.1 < a.2.1)) ((idx a.2.2 a.2.1).bind fun b=>(idx a.2.2 a.1).bind fun c=>(idx a.2.2 a.1).bind fun _=>(idx (a.2.2.set a.1.toNat b) a.2.1).bind fun _=>some (.inl (w64 (a.1 + 1),w64 (a.2.1 - 1),(a.2.2.set a.1.toNat b).set a.2.1.toNat c))) (some (.inr a.2.2))
noncomputable def qaw (f : ql→ql→Option Int) (a : List ql) (b : Int) (c : Int) : Option (List ql):=
  (loop qax (b,w64 (c - 1),a)).bind fun d=>some d
noncomputable def qai (c : Int) (b : Int × Int × List ql) (d : ql→ql→Option Int) (a : Int) : Option ((Int) ⊕ (Int)):=
  (cond (decide (a < c)) ((idx b.2.2 a).bind fun f=>(idx b.2.2 (w64 (a - 1))).bind fun g=>(d f g).bind fun h=>some (!(decide (h < 0)))) (some false)).bind fun j=>cond j (some (.inl (w64 (a + 1)))) (some (.inr a))
noncomputable def qaj (c : ql→ql→Option Int) (a : Int × List ql) : Option ((Int × List ql) ⊕ (List ql)):=
  cond (decide (a.1 ≥ 1)) ((idx a.2 a.1).bind fun d=>(idx a.2 (w64 (a.1 - 1))).bind fun f=>(c d f).bind fun g=>cond (!(decide (g < 0))) (some (.inr a.2)) ((idx a.2 (w64 (a.1 - 1))).bind fun b=>(idx a.2 a.1).bind fun h=>(idx a.2 a.1).bind fun _=>(idx (a.2.set a.1.toNat b) (w64 (a.1 - 1))).bind fun _=>some (.inl (w64 (a.1 - 1),(a.2.set a.1.toNat b).set (w64 (a.1 - 1)).toNat h)))) (some (.inr a.2))
noncomputable def qak (d : Int) (f : ql→ql→Option Int) (b : Int) (a : Int × List ql) : Option ((Int × List ql) ⊕ (Int × List ql)):=
  cond (decide (a.1 < d)) ((idx a.2 a.1).bind fun g=>(idx a.2 (w64 (a.1 - 1))).bind fun h=>(f g h).bind fun j=>cond (!(decide (j < 0))) (some (.inr (b,a.2))) ((idx a.2 (w64 (a.1 - 1))).bind fun c=>(idx a.2 a.1).bind fun k=>(idx a.2 a.1).bind fun _=>(idx (a.2.set a.1.toNat c) (w64 (a.1 - 1))).bind fun _=>some (.inl (w64 (a.1 + 1),(a.2.set a.1.toNat c).set (w64 (a.1 - 1)).toNat k)))) (some (.inr (b,a.2)))
noncomputable def q7j (c : Int) (d : ql→ql→Option Int) (h : Int) (b : Int × Int × List ql) : Option ((Int × Int × List ql) ⊕ ((List ql) ⊕ (Bool × List ql))):=
  cond (decide (b.2.1 < 5)) (((loop (qai c b d) b.1).bind fun a=>cond (a == c) (some (.inr (true,b.2.2))) (cond (decide ((w64 (c - h)) < 50)) (some (.inr (false,b.2.2))) ((idx b.2.2 (w64 (a - 1))).bind fun f=>(idx b.2.2 a).bind fun j=>(idx b.2.2 a).bind fun _=>(idx (b.2.2.set a.toNat f) (w64 (a - 1))).bind fun _=>(cond (decide ((w64 (a - h)) ≥ 2)) ((loop (qaj d) (w64 (a - 1),(b.2.2.set a.toNat f).set (w64 (a - 1)).toNat j)).bind fun g=>some g) (some ((b.2.2.set a.toNat f).set (w64 (a - 1)).toNat j))).bind fun k=>cond (decide ((w64 (c - a)) ≥ 2)) ((loop (qak c d a) (w64 (a + 1),k)).bind fun g=>some (.inl g)) (some (.inl (a,k))))) : Option ((Int × List ql) ⊕ (Bool × List ql))).bind fun m=>(match m with | .inl l=>some (.inl (l.1,w64 (b.2.1 + 1),l.2)) | .inr n=>some (.inr (.inr n)))) (some (.inr (.inl b.2.2)))
noncomputable def q7i (b : ql→ql→Option Int) (c : List ql) (a : Int) (d : Int) : Option (Bool × List ql):=
  (loop (q7j d b a) (w64 (a + 1),0,c) : Option ((List ql) ⊕ (Bool × List ql))).bind fun f=>(match f with | .inl g=>some (false,g) | .inr h=>some h)
noncomputable def qau (b : Int × Int × List ql) (c : Int) (d : ql→ql→Option Int) (a : Int) : Option ((Int) ⊕ (Int)):=
  (cond (decide (a≤b.2.1)) ((idx b.2.2 c).bind fun f=>(idx b.2.2 a).bind fun g=>(d f g).bind fun h=>some (!(decide (h < 0)))) (some false)).bind fun j=>cond j (some (.inl (w64 (a + 1)))) (some (.inr a))
noncomputable def qav (c : Int) (b : Int × Int × List ql) (d : Int) (f : ql→ql→Option Int) (a : Int) : Option ((Int) ⊕ (Int)):=
  (cond (decide (c≤a)) ((idx b.2.2 d).bind fun g=>(idx b.2.2 a).bind fun h=>(f g h).bind fun j=>some (decide (j < 0))) (some false)).bind fun k=>cond k (some (.inl (w64 (a - 1)))) (some (.inr a))
noncomputable def qat (d : Int) (f : ql→ql→Option Int) (a : Int × Int × List ql) : Option ((Int × Int × List ql) ⊕ (Int × List ql)):=
  (loop (qau a d f) a.1).bind fun b=>(loop (qav b a d f) a.2.1).bind fun c=>cond (decide (b > c)) (some (.inr (b,a.2.2))) ((idx a.2.2 c).bind fun g=>(idx a.2.2 b).bind fun h=>(idx a.2.2 b).bind fun _=>(idx (a.2.2.set b.toNat g) c).bind fun _=>some (.inl (w64 (b + 1),w64 (c - 1),(a.2.2.set b.toNat g).set c.toNat h)))
noncomputable def qas (g : ql→ql→Option Int) (b : List ql) (a : Int) (h : Int) (c : Int) : Option (Int × List ql):=
  (idx b c).bind fun d=>(idx b a).bind fun j=>(idx b a).bind fun _=>(idx (b.set a.toNat d) c).bind fun _=>(loop (qat a g) (w64 (a + 1),w64 (h - 1),(b.set a.toNat d).set c.toNat j)).bind fun f=>some (f.1,f.2)
noncomputable def qan (h : Int) (c : List ql) (b : Int) (d : ql) (f : Int) (g : ql) (j : ql→ql→Option Int) (a : Int) : Option ((Int) ⊕ (Int)):=
  (cond (decide (a≤(w64 (h - 1)))) ((idx ((c.set b.toNat d).set f.toNat g) a).bind fun k=>(idx ((c.set b.toNat d).set f.toNat g) b).bind fun l=>(j k l).bind fun m=>some (decide (m < 0))) (some false)).bind fun n=>cond n (some (.inl (w64 (a + 1)))) (some (.inr a))
noncomputable def qao (h : Int) (c : List ql) (b : Int) (d : ql) (f : Int) (g : ql) (j : ql→ql→Option Int) (a : Int) : Option ((Int) ⊕ (Int)):=
  (cond (decide (h≤a)) ((idx ((c.set b.toNat d).set f.toNat g) a).bind fun k=>(idx ((c.set b.toNat d).set f.toNat g) b).bind fun l=>(j k l).bind fun m=>some (!(decide (m < 0)))) (some false)).bind fun n=>cond n (some (.inl (w64 (a - 1)))) (some (.inr a))
noncomputable def qaq (b : Int × Int × List ql) (c : Int) (d : ql→ql→Option Int) (a : Int) : Option ((Int) ⊕ (Int)):=
  (cond (decide (a≤b.2.1)) ((idx b.2.2 a).bind fun f=>(idx b.2.2 c).bind fun g=>(d f g).bind fun h=>some (decide (h < 0))) (some false)).bind fun j=>cond j (some (.inl (w64 (a + 1)))) (some (.inr a))
noncomputable def qar (c : Int) (b : Int × Int × List ql) (d : Int) (f : ql→ql→Option Int) (a : Int) : Option ((Int) ⊕ (Int)):=
  (cond (decide (c≤a)) ((idx b.2.2 a).bind fun g=>(idx b.2.2 d).bind fun h=>(f g h).bind fun j=>some (!(decide (j < 0)))) (some false)).bind fun k=>cond k (some (.inl (w64 (a - 1)))) (some (.inr a))
noncomputable def qap (d : Int) (f : ql→ql→Option Int) (a : Int × Int × List ql) : Option ((Int × Int × List ql) ⊕ (Int × List ql)):=
  (loop (qaq a d f) a.1).bind fun b=>(loop (qar b a d f) a.2.1).bind fun c=>cond (decide (b > c)) (some (.inr (c,a.2.2))) ((idx a.2.2 c).bind fun g=>(idx a.2.2 b).bind fun h=>(idx a.2.2 b).bind fun _=>(idx (a.2.2.set b.toNat g) c).bind fun _=>some (.inl (w64 (b + 1),w64 (c - 1),(a.2.2.set b.toNat g).set c.toNat h)))
noncomputable def qam (k : ql→ql→Option Int) (b : List ql) (a : Int) (l : Int) (c : Int) : Option (Int × Bool × List ql):=
  (idx b c).bind fun d=>(idx b a).bind fun f=>(idx b a).bind fun _=>(idx (b.set a.toNat d) c).bind fun _=>(loop (qan l b a d c f k) (w64 (a + 1))).bind fun j=>(loop (qao j b a d c f k) (w64 (l - 1))).bind fun g=>cond (decide (j > g)) ((idx ((b.set a.toNat d).set c.toNat f) a).bind fun m=>(idx ((b.set a.toNat d).set c.toNat f) g).bind fun p=>(idx ((b.set a.toNat d).set c.toNat f) g).bind fun _=>(idx (((b.set a.toNat d).set c.toNat f).set g.toNat m) a).bind fun _=>some (g,true,(((b.set a.toNat d).set c.toNat f).set g.toNat m).set a.toNat p)) ((idx ((b.set a.toNat d).set c.toNat f) g).bind fun n=>(idx ((b.set a.toNat d).set c.toNat f) j).bind fun q=>(idx ((b.set a.toNat d).set c.toNat f) j).bind fun _=>(idx (((b.set a.toNat d).set c.toNat f).set j.toNat n) g).bind fun _=>(loop (qap a k) (w64 (j + 1),w64 (g - 1),(((b.set a.toNat d).set c.toNat f).set j.toNat n).set g.toNat q)).bind fun h=>(idx h.2 a).bind fun o=>(idx h.2 h.1).bind fun r=>(idx h.2 h.1).bind fun _=>(idx (h.2.set h.1.toNat o) a).bind fun _=>some (h.1,false,(h.2.set h.1.toNat o).set a.toNat r))
noncomputable def qaa (b : Int) (d : Int) (f : Int) (a : Int × List ql × Int) : Option ((Int × List ql × Int) ⊕ (List ql)):=
  cond (decide (a.1≤(w64 ((w64 (b + (w64 ((w64 (Int.tdiv (w64 (d - b)) 4)) * 2)))) + 1)))) ((q2d a.2.2).bind fun c=>(cond (decide ((w64 (andI .u64 c (IntKind.wrap .u64 (f - 1)))) ≥ (w64 (d - b)))) (some (w64 ((w64 (andI .u64 c (IntKind.wrap .u64 (f - 1)))) - (w64 (d - b))))) (some (w64 (andI .u64 c (IntKind.wrap .u64 (f - 1)))))).bind fun g=>(idx a.2.1 (w64 (b + g))).bind fun h=>(idx a.2.1 a.1).bind fun j=>(idx a.2.1 a.1).bind fun _=>(idx (a.2.1.set a.1.toNat h) (w64 (b + g))).bind fun _=>some (.inl (w64 (a.1 + 1),(a.2.1.set a.1.toNat h).set (w64 (b + g)).toNat j,c))) (some (.inr a.2.1))
noncomputable def qa9 (g : ql→ql→Option Int) (c : List ql) (a : Int) (b : Int) : Option (List ql):=
  cond (decide ((w64 (b - a)) ≥ 8)) ((q2c (w64 (b - a))).bind fun d=>(loop (qaa a b d) (w64 ((w64 (a + (w64 ((w64 (Int.tdiv (w64 (b - a)) 4)) * 2)))) - 1),c,IntKind.wrap .u64 (w64 (b - a)))).bind fun f=>some f) (some c)
noncomputable def q7x (c : ql→ql→Option Int) (rec : List ql→Int→Int→Int→Option (List ql)) (a : Int × Int × Int × Bool × Bool × List ql) : Option ((Int × Int × Int × Bool × Bool × List ql) ⊕ (List ql)):=
  cond (decide ((w64 (a.2.1 - a.1))≤12)) ((qaf c a.2.2.2.2.2 a.1 a.2.1).bind fun l=>(K1 l.length a.2.2.2.2.2.length).bind fun _=>some (.inr l)) (cond (a.2.2.1 == 0) ((qac c a.2.2.2.2.2 a.1 a.2.1).bind fun m=>(K1 m.length a.2.2.2.2.2.length).bind fun _=>some (.inr m)) ((cond (!a.2.2.2.1) ((qa9 c a.2.2.2.2.2 a.1 a.2.1).bind fun n=>(K1 n.length a.2.2.2.2.2.length).bind fun _=>some (w64 (a.2.2.1 - 1),n)) (some (a.2.2.1,a.2.2.2.2.2))).bind fun d=>(qab d.2 a.1 a.2.1 c).bind fun h=>(cond (h.2 == 2) ((qaw c d.2 a.1 a.2.1).bind fun o=>(K1 o.length d.2.length).bind fun _=>some (w64 ((w64 (a.2.1 - 1)) - (w64 (h.1 - a.1))),1,o)) (some (h.1,h.2,d.2))).bind fun f=>(cond a.2.2.2.1 (some a.2.2.2.2.1) (some false)).bind fun r=>(cond r (some (f.2.1 == 1)) (some false)).bind fun s=>(cond s ((q7i c f.2.2 a.1 a.2.1).bind fun j=>(K1 j.2.length f.2.2.length).bind fun _=>cond j.1 (some (.inr j.2)) (some (.inl j.2))) (some (.inl f.2.2)) : Option ((List ql) ⊕ (List ql))).bind fun t=>(match t with | .inl g=>(cond (decide (a.1 > 0)) ((idx g (w64 (a.1 - 1))).bind fun u=>(idx g f.1).bind fun v=>(c u v).bind fun w=>some (!(decide (w < 0)))) (some false)).bind fun x=>cond x ((qas c g a.1 a.2.1 f.1).bind fun k=>(K1 k.2.length g.length).bind fun _=>some (.inl (k.1,a.2.1,d.1,a.2.2.2.1,a.2.2.2.2.1,k.2))) ((qam c g a.1 a.2.1 f.1).bind fun b=>(K1 b.2.2.length g.length).bind fun _=>cond (decide ((w64 (b.1 - a.1)) < (w64 (a.2.1 - b.1)))) ((rec b.2.2 a.1 b.1 d.1).bind fun p=>(K1 p.length b.2.2.length).bind fun _=>some (.inl (w64 (b.1 + 1),a.2.1,d.1,decide ((w64 (b.1 - a.1)) ≥ (w64 (Int.tdiv (w64 (a.2.1 - a.1)) 8))),b.2.1,p))) ((rec b.2.2 (w64 (b.1 + 1)) a.2.1 d.1).bind fun q=>(K1 q.length b.2.2.length).bind fun _=>some (.inl (a.1,b.1,d.1,decide ((w64 (a.2.1 - b.1)) ≥ (w64 (Int.tdiv (w64 (a.2.1 - a.1)) 8))),b.2.1,q)))) | .inr y=>some (.inr y))))
noncomputable def q7y (rec : List ql→Int→Int→Int→Option (List ql)) (a : ql→ql→Option Int) (b : List ql) (c : Int) (d : Int) (f : Int) : Option (List ql):=
  (loop (q7x a rec) (c,d,f,true,true,b)).bind fun g=>some g
noncomputable def q7w : Nat→(ql→ql→Option Int)→List ql→Int→Int→Int→Option (List ql)
  | 0,_,_,_,_,_=>none
  | n + 1,a,b,c,d,f=>q7y (q7w n a) a b c d f
noncomputable def q77 (c : ql→ql→Option Int) (a : List ql) : Option (List ql):=
  (q1e (IntKind.wrap .u64 (a.length : Int))).bind fun d=>(lim (fun n=>q7w n c a 0 (a.length : Int) d)).bind fun b=>(K1 b.length a.length).bind fun _=>some b
noncomputable def qde (a : List ql) : Option (List ql):=
  some a
noncomputable def q5c (b : List qj) (c : Int × List ql) (a : Int × List ql) : Option ((Int × List ql) ⊕ (List ql)):=
  cond (decide (a.1 < (b.length : Int))) ((idx b a.1).bind fun d=>(app 24 a.2 [({at_:=d.Lo,list_:=c.1,by_:=1} : ql),({at_:=d.Hi,list_:=c.1,by_:=(-1)} : ql)]).bind fun f=>some (.inl (w64 (a.1 + 1),f))) (some (.inr a.2))
noncomputable def q1i (b : List (List qj)) (a : Int × List ql) : Option ((Int × List ql) ⊕ (List ql)):=
  cond (decide (a.1 < (b.length : Int))) (((idx b a.1).bind fun c=>(loop (q5c c a) (0,a.2)).bind fun d=>some d).bind fun f=>some (.inl (w64 (a.1 + 1),f))) (some (.inr a.2))
noncomputable def qb5 (b : List (List qj)) : Option (List (List qj) × List ql):=
  (loop (q1i b) (0,[])).bind fun c=>(q77 (fun f g=>qb4 f g) c).bind fun a=>(K1 a.length c.length).bind fun _=>(qde a).bind fun d=>(K1 d.length a.length).bind fun _=>some (b,d)
noncomputable def qb6 (d : Int) (c : Bool) (b : Int) (a : List qj) : Option (Bool × Int × List qj):=
  (cond (!c) (some true) (some (b == d))).bind fun f=>cond f (some (c,b,a)) ((cond (decide ((a.length : Int) > 0)) ((idx a (w64 ((a.length : Int) - 1))).bind fun g=>some (g.Hi == b)) (some false)).bind fun h=>cond h ((idx a (w64 ((a.length : Int) - 1))).bind fun j=>some (c,b,a.set (w64 ((a.length : Int) - 1)).toNat ({Lo:=j.Lo,Hi:=d} : qj))) ((app 16 a [({Lo:=b,Hi:=d} : qj)]).bind fun k=>some (c,b,k)))
noncomputable def q5d (f : List (List qj) × List ql) (g : Bool→Bool→Option Bool) (a : Int × List Int × Int × Bool × List qj) : Option ((Int × List Int × Int × Bool × List qj) ⊕ (List qj)):=
  cond (decide (a.1 < (f.2.length : Int))) ((idx f.2 a.1).bind fun b=>((qb6 b.at_ a.2.2.2.1 a.2.2.1 a.2.2.2.2).bind fun h=>(idxA 2 a.2.1 b.list_).bind fun c=>(idxA 2 a.2.1 b.list_).bind fun _=>(idxA 2 (a.2.1.set b.list_.toNat (w64 (c + b.by_))) 0).bind fun j=>(idxA 2 (a.2.1.set b.list_.toNat (w64 (c + b.by_))) 1).bind fun k=>(g (decide (j > 0)) (decide (k > 0))).bind fun l=>some (a.2.1.set b.list_.toNat (w64 (c + b.by_)),l,h.2.2)).bind fun d=>some (.inl (w64 (a.1 + 1),d.1,b.at_,d.2.1,d.2.2))) (some (.inr a.2.2.2.2))
noncomputable def q3p (a : List qj) (b : List qj) (d : Bool→Bool→Option Bool) : Option (List qj):=
  (qb5 [a,b]).bind fun c=>(K1 c.1.length [a,b].length).bind fun _=>((loop (q5d c d) (0,[0,0],0,false,[])).bind fun f=>some f).bind fun g=>some g
noncomputable def qb3 (a : Bool) (b : Bool) : Option Bool:=
  some a
noncomputable def q8g (a : List qj) : Option (List qj × Int):=
  cond (decide ((a.length : Int) > 400)) (some ([],4)) ((qa5 a (fun b=>qdn b)).bind fun c=>cond c (some ([],8)) ((q3p a [] (fun b d=>qb3 b d)).bind fun f=>some (f,0)))
noncomputable def qd9 (b : List qj) (f : List qj) (a : Int) : Option ((Int) ⊕ ((Unit) ⊕ (Bool))):=
  cond (decide (a < (b.length : Int))) ((idx b a).bind fun c=>(idx f a).bind fun d=>cond (!((c.Lo == d.Lo) && ((c.Hi == d.Hi) && true))) (some (.inr (.inr false))) (some (.inl (w64 (a + 1))))) (some (.inr (.inl ())))
noncomputable def qa6 (a : List qj) (b : List qj) : Option Bool:=
  cond ((a.length : Int) != (b.length : Int)) (some false) ((loop (qd9 a b) 0 : Option ((Unit) ⊕ (Bool))).bind fun c=>(match c with | .inl _=>some true | .inr d=>some d))
noncomputable def q6y (c : Int) (a : Int × List qi) : Option ((Int × List qi) ⊕ (List qi)):=
  cond (decide (a.1 < (a.2.length : Int))) ((idx a.2 a.1).bind fun b=>some (.inl (w64 (a.1 + 1),a.2.set a.1.toNat ({X0:=b.X0,Y0:=b.Y0,X1:=c,Y1:=b.Y1} : qi)))) (some (.inr a.2))
noncomputable def q6z (b : List qj) (f : Int) (c : Int) (g : List qi) (a : Int × List qi) : Option ((Int × List qi) ⊕ (List qj × Int × Int × List qi)):=
  cond (decide (a.1 < (b.length : Int))) ((idx b a.1).bind fun d=>(app 32 a.2 [({X0:=f,Y0:=d.Lo,X1:=c,Y1:=d.Hi} : qi)]).bind fun h=>some (.inl (w64 (a.1 + 1),h))) (some (.inr (b,(g.length : Int),c,a.2)))
noncomputable def q6x (a : List qi) (d : List qj) (f : Int) (h : Int) (g : Int) (b : Int) (c : List qj) : Option (List qj × Int × Int × List qi):=
  (cond (decide ((c.length : Int) > 0)) (some (h == g)) (some false)).bind fun j=>(cond j ((qa6 d c).bind fun k=>some k) (some false)).bind fun l=>cond l ((loop (q6y b) (f,a)).bind fun m=>some (d,f,b,m)) ((loop (q6z c g b a) (0,a)).bind fun n=>some n)
noncomputable def J9 (b : List qi) (a : Int × List Int) : Option ((Int × List Int) ⊕ (List Int)):=
  cond (decide (a.1 < (b.length : Int))) ((idx b a.1).bind fun c=>(app 8 a.2 [c.X0,c.X1]).bind fun d=>some (.inl (w64 (a.1 + 1),d))) (some (.inr a.2))
noncomputable def Uu (c : List qi) (d : Int) (a : Int × List qj) : Option ((Int × List qj) ⊕ (List qj)):=
  cond (decide (a.1 < (c.length : Int))) (((idx c a.1).bind fun b=>(cond (decide (b.X0≤d)) (some (decide (d < b.X1))) (some false)).bind fun f=>cond f ((app 16 a.2 [({Lo:=b.Y0,Hi:=b.Y1} : qj)]).bind fun g=>some g) (some a.2)).bind fun h=>some (.inl (w64 (a.1 + 1),h))) (some (.inr a.2))
noncomputable def q3d (d : List Int) (g : List qi) (a : Int × List qj × Int × Int × List qi) : Option ((Int × List qj × Int × Int × List qi) ⊕ (List qj × Int × Int × List qi)):=
  cond (decide (a.1 < (d.length : Int))) ((idx d (w64 (a.1 - 1))).bind fun f=>(idx d a.1).bind fun h=>((idx [g] 0).bind fun j=>(loop (Uu j f) (0,[])).bind fun k=>some k).bind fun l=>((q8g l).bind fun m=>(q6x a.2.2.2.2 a.2.1 a.2.2.1 a.2.2.2.1 f h m.1).bind fun b=>some (b.1,b.2.1,b.2.2.1,b.2.2.2)).bind fun c=>some (.inl (w64 (a.1 + 1),c.1,c.2.1,c.2.2.1,c.2.2.2))) (some (.inr (a.2.1,a.2.2.1,a.2.2.2.1,a.2.2.2.2)))
noncomputable def q71 (d : List qi) : Option (List qi × Int):=
  (((idx [d] 0).bind fun j=>(loop (J9 j) (0,[])).bind fun b=>some b).bind fun f=>(Ud f).bind fun c=>(K1 c.length f.length).bind fun _=>(q1g c).bind fun a=>(K1 a.2.length c.length).bind fun _=>(q1j a.2.length a.1).bind fun _=>some ((a.2.drop a.1.1).take a.1.2)).bind fun k=>((loop (q3d k d) (1,[],0,0,[])).bind fun b=>some b).bind fun g=>(cond (decide ((g.2.2.2.length : Int) > 400)) (some (4,[])) (some (0,g.2.2.2))).bind fun h=>some (h.2,h.1)
noncomputable def q28 (a : List qi) : Option (List qi × Int):=
  cond (decide ((a.length : Int) > 400)) (some ([],4)) ((qa3 a (fun c=>q3b c)).bind fun d=>cond d (some ([],8)) ((q71 a).bind fun b=>some (b.1,b.2)))
noncomputable def qd7 (d : List qi) (f : List qi) (a : Int) : Option ((Int) ⊕ ((Unit) ⊕ (Bool))):=
  cond (decide (a < (d.length : Int))) ((idx d a).bind fun b=>(idx f a).bind fun c=>cond (!((b.X0 == c.X0) && ((b.Y0 == c.Y0) && ((b.X1 == c.X1) && ((b.Y1 == c.Y1) && true))))) (some (.inr (.inr false))) (some (.inl (w64 (a + 1))))) (some (.inr (.inl ())))
noncomputable def q76 (a : List qi) (b : List qi) : Option Bool:=
  cond ((a.length : Int) != (b.length : Int)) (some false) ((loop (qd7 a b) 0 : Option ((Unit) ⊕ (Bool))).bind fun c=>(match c with | .inl _=>some true | .inr d=>some d))
noncomputable def q89 (c : Int) (a : Int × List qe) : Option ((Int × List qe) ⊕ (List qe)):=
  cond (decide (a.1 < (a.2.length : Int))) ((idx a.2 a.1).bind fun b=>some (.inl (w64 (a.1 + 1),a.2.set a.1.toNat ({Lo:=b.Lo,Hi:=({X:=b.Hi.X,Y:=b.Hi.Y,Z:=c} : Q6)} : qe)))) (some (.inr a.2))
noncomputable def q8a (c : List qi) (f : Int) (d : Int) (g : List qe) (a : Int × List qe) : Option ((Int × List qe) ⊕ (List qi × Int × Int × List qe)):=
  cond (decide (a.1 < (c.length : Int))) ((idx c a.1).bind fun b=>(app 48 a.2 [({Lo:=({X:=b.X0,Y:=b.Y0,Z:=f} : Q6),Hi:=({X:=b.X1,Y:=b.Y1,Z:=d} : Q6)} : qe)]).bind fun h=>some (.inl (w64 (a.1 + 1),h))) (some (.inr (c,(g.length : Int),d,a.2)))
noncomputable def q88 (a : List qe) (d : List qi) (f : Int) (h : Int) (g : Int) (b : Int) (c : List qi) : Option (List qi × Int × Int × List qe):=
  (cond (decide ((c.length : Int) > 0)) (some (h == g)) (some false)).bind fun j=>(cond j ((q76 d c).bind fun k=>some k) (some false)).bind fun l=>cond l ((loop (q89 b) (f,a)).bind fun m=>some (d,f,b,m)) ((loop (q8a c g b a) (0,a)).bind fun n=>some n)
noncomputable def q2g (b : List qe) (a : Int × List Int) : Option ((Int × List Int) ⊕ (List Int)):=
  cond (decide (a.1 < (b.length : Int))) ((idx b a.1).bind fun c=>(app 8 a.2 [c.Lo.Z,c.Hi.Z]).bind fun d=>some (.inl (w64 (a.1 + 1),d))) (some (.inr a.2))
noncomputable def q2h (c : List qe) (d : Int) (a : Int × List qi) : Option ((Int × List qi) ⊕ (List qi)):=
  cond (decide (a.1 < (c.length : Int))) (((idx c a.1).bind fun b=>(cond (decide (b.Lo.Z≤d)) (some (decide (d < b.Hi.Z))) (some false)).bind fun f=>cond f ((app 32 a.2 [({X0:=b.Lo.X,Y0:=b.Lo.Y,X1:=b.Hi.X,Y1:=b.Hi.Y} : qi)]).bind fun g=>some g) (some a.2)).bind fun h=>some (.inl (w64 (a.1 + 1),h))) (some (.inr a.2))
noncomputable def q5b (d : List Int) (h : List qe) (a : Int × List qi × Int × Int × List qe) : Option ((Int × List qi × Int × Int × List qe) ⊕ ((List qi × Int × Int × List qe) ⊕ (List qe × Int))):=
  cond (decide (a.1 < (d.length : Int))) ((idx d (w64 (a.1 - 1))).bind fun g=>(idx d a.1).bind fun j=>((idx [h] 0).bind fun k=>(loop (q2h k g) (0,[])).bind fun l=>some l).bind fun m=>((q28 m).bind fun f=>cond (f.2 != 0) (some (.inr ([],f.2))) ((q88 a.2.2.2.2 a.2.1 a.2.2.1 a.2.2.2.1 g j f.1).bind fun b=>some (.inl (b.1,b.2.1,b.2.2.1,b.2.2.2))) : Option ((List qi × Int × Int × List qe) ⊕ (List qe × Int))).bind fun n=>(match n with | .inl c=>some (.inl (w64 (a.1 + 1),c.1,c.2.1,c.2.2.1,c.2.2.2)) | .inr o=>some (.inr (.inr o)))) (some (.inr (.inl (a.2.1,a.2.2.1,a.2.2.2.1,a.2.2.2.2))))
noncomputable def q8f (f : List qe) : Option (List qe × Int):=
  (((idx [f] 0).bind fun j=>(loop (q2g j) (0,[])).bind fun b=>some b).bind fun g=>(Ud g).bind fun c=>(K1 c.length g.length).bind fun _=>(q1g c).bind fun a=>(K1 a.2.length c.length).bind fun _=>(q1j a.2.length a.1).bind fun _=>some ((a.2.drop a.1.1).take a.1.2)).bind fun k=>((loop (q5b k f) (1,[],0,0,[]) : Option ((List qi × Int × Int × List qe) ⊕ (List qe × Int))).bind fun l=>(match l with | .inl b=>some (.inl b) | .inr d=>some (.inr d)) : Option ((List qi × Int × Int × List qe) ⊕ (List qe × Int))).bind fun m=>(match m with | .inl h=>cond (decide ((h.2.2.2.length : Int) > 400)) (some ([],4)) (some (h.2.2.2,0)) | .inr d=>some d)
noncomputable def qh7 (d : List qe) (f : List qe) (c : Int) : Option ((Int) ⊕ ((Unit) ⊕ (Bool))):=
  cond (decide (c < (d.length : Int))) ((idx d c).bind fun a=>(idx f c).bind fun b=>cond (!((a.Lo.X == b.Lo.X) && ((a.Lo.Y == b.Lo.Y) && ((a.Lo.Z == b.Lo.Z) && ((a.Hi.X == b.Hi.X) && ((a.Hi.Y == b.Hi.Y) && ((a.Hi.Z == b.Hi.Z) && true))))))) (some (.inr (.inr false))) (some (.inl (w64 (c + 1))))) (some (.inr (.inl ())))
noncomputable def qd8 (a : List qe) (b : List qe) : Option Bool:=
  cond ((a.length : Int) != (b.length : Int)) (some false) ((loop (qh7 a b) 0 : Option ((Unit) ⊕ (Bool))).bind fun c=>(match c with | .inl _=>some true | .inr d=>some d))
noncomputable def Jt (a : List qe) : Option Int:=
  cond (decide ((a.length : Int) > 400)) (some 4) ((q4n a (fun c=>q3j c)).bind fun d=>cond d (some 8) ((q8f a).bind fun b=>(cond (b.2 != 0) (some true) ((qd8 b.1 a).bind fun f=>some (!f))).bind fun g=>cond g (some 8) (some 0)))
noncomputable def q8d (a : qe) : Option (Int × Int × Int):=
  some (w64 (a.Hi.X - a.Lo.X),w64 (a.Hi.Y - a.Lo.Y),w64 (a.Hi.Z - a.Lo.Z))
noncomputable def q87 (c : List qe) (a : Int × Int) : Option ((Int × Int) ⊕ (Int)):=
  cond (decide (a.2 < (c.length : Int))) ((idx c a.2).bind fun d=>(q8d d).bind fun b=>some (.inl (w64 (a.1 + (w64 ((w64 (b.1 * b.2.1)) * b.2.2))),w64 (a.2 + 1)))) (some (.inr a.1))
noncomputable def q86 (a : List qe) : Option (Int × Int):=
  (Jt a).bind fun b=>cond (b != 0) (some (0,b)) ((loop (q87 a) (0,0)).bind fun c=>some (c,0))
noncomputable def q59 (a : qe) (b : qe) : Option Int:=
  (cond ((w64 ((min a.Hi.X b.Hi.X) - (max a.Lo.X b.Lo.X))) == 0) (some (decide ((w64 ((min a.Hi.Y b.Hi.Y) - (max a.Lo.Y b.Lo.Y))) > 0))) (some false)).bind fun c=>(cond c (some (decide ((w64 ((min a.Hi.Z b.Hi.Z) - (max a.Lo.Z b.Lo.Z))) > 0))) (some false)).bind fun d=>cond d (some (w64 ((w64 ((min a.Hi.Y b.Hi.Y) - (max a.Lo.Y b.Lo.Y))) * (w64 ((min a.Hi.Z b.Hi.Z) - (max a.Lo.Z b.Lo.Z)))))) ((cond (decide ((w64 ((min a.Hi.X b.Hi.X) - (max a.Lo.X b.Lo.X))) > 0)) (some ((w64 ((min a.Hi.Y b.Hi.Y) - (max a.Lo.Y b.Lo.Y))) == 0)) (some false)).bind fun f=>(cond f (some (decide ((w64 ((min a.Hi.Z b.Hi.Z) - (max a.Lo.Z b.Lo.Z))) > 0))) (some false)).bind fun g=>cond g (some (w64 ((w64 ((min a.Hi.X b.Hi.X) - (max a.Lo.X b.Lo.X))) * (w64 ((min a.Hi.Z b.Hi.Z) - (max a.Lo.Z b.Lo.Z)))))) ((cond (decide ((w64 ((min a.Hi.X b.Hi.X) - (max a.Lo.X b.Lo.X))) > 0)) (some (decide ((w64 ((min a.Hi.Y b.Hi.Y) - (max a.Lo.Y b.Lo.Y))) > 0))) (some false)).bind fun h=>(cond h (some ((w64 ((min a.Hi.Z b.Hi.Z) - (max a.Lo.Z b.Lo.Z))) == 0)) (some false)).bind fun j=>cond j (some (w64 ((w64 ((min a.Hi.X b.Hi.X) - (max a.Lo.X b.Lo.X))) * (w64 ((min a.Hi.Y b.Hi.Y) - (max a.Lo.Y b.Lo.Y)))))) (some 0)))
noncomputable def q58 (b : List qe) (c : qe) (a : Int × Int) : Option ((Int × Int) ⊕ (Int)):=
  cond (decide (a.2 < (b.length : Int))) ((idx b a.2).bind fun d=>(q59 c d).bind fun f=>some (.inl (w64 (a.1 - (w64 (2 * f))),w64 (a.2 + 1)))) (some (.inr a.1))
noncomputable def q57 (c : List qe) (a : Int × Int) : Option ((Int × Int) ⊕ (Int)):=
  cond (decide (a.2 < (c.length : Int))) (((idx c a.2).bind fun d=>(q8d d).bind fun b=>(slc c 0 a.2).bind fun f=>(loop (q58 f d) (w64 (a.1 + (w64 (2 * (w64 ((w64 ((w64 (b.1 * b.2.1)) + (w64 (b.1 * b.2.2)))) + (w64 (b.2.1 * b.2.2))))))),0)).bind fun g=>some g).bind fun h=>some (.inl (h,w64 (a.2 + 1)))) (some (.inr a.1))
noncomputable def q3n (a : List qe) : Option (Int × Int):=
  (Jt a).bind fun b=>cond (b != 0) (some (0,b)) ((loop (q57 a) (0,0)).bind fun c=>some (c,0))
structure Y2 where
  Turn : Int
  At : Q6
  deriving DecidableEq
noncomputable def q3z (a : Q6) (b : Int) : Option Bool:=
  (cond (decide ((min (min a.X a.Y) a.Z) ≥ b)) (some (decide ((max (max a.X a.Y) a.Z)≤1000000))) (some false)).bind fun c=>some c
noncomputable def q5x (a : Y2) : Option Int:=
  (cond (decide (a.Turn ≥ 24)) (some true) ((q3z a.At (-1000000)).bind fun b=>some (!b))).bind fun c=>cond c (some 8) (some 0)
noncomputable def qc2 (a : Int) : Option Q6:=
  cond ((IntKind.wrap .u8 (Int.tdiv a 2)) == 0) (some ({X:=w64 (1 - (w64 (2 * (w64 (Int.tmod a 2))))),Y:=0,Z:=0} : Q6)) (cond ((IntKind.wrap .u8 (Int.tdiv a 2)) == 1) (some ({X:=0,Y:=w64 (1 - (w64 (2 * (w64 (Int.tmod a 2))))),Z:=0} : Q6)) (some ({X:=0,Y:=0,Z:=w64 (1 - (w64 (2 * (w64 (Int.tmod a 2)))))} : Q6)))
noncomputable def qfg (a : Q6) (b : Q6) : Option Q6:=
  some ({X:=w64 ((w64 (a.Y * b.Z)) - (w64 (a.Z * b.Y))),Y:=w64 ((w64 (a.Z * b.X)) - (w64 (a.X * b.Z))),Z:=w64 ((w64 (a.X * b.Y)) - (w64 (a.Y * b.X)))} : Q6)
noncomputable def q97 (a : Int) : Option (Q6 × Q6 × Q6):=
  (cond (decide ((Int.tmod a 4) ≥ (IntKind.wrap .u8 ((IntKind.wrap .u8 (Int.tdiv (IntKind.wrap .u8 (Int.tdiv a 4)) 2)) * 2)))) (some (IntKind.wrap .u8 ((Int.tmod a 4) + 2))) (some (Int.tmod a 4))).bind fun d=>(qc2 (IntKind.wrap .u8 (Int.tdiv a 4))).bind fun b=>(qc2 d).bind fun c=>(qfg b c).bind fun f=>some (b,c,f)
noncomputable def q99 (a : Q6 × Q6 × Q6) (b : Q6) : Option Q6:=
  some ({X:=w64 ((w64 ((w64 (b.X * a.1.X)) + (w64 (b.Y * a.2.1.X)))) + (w64 (b.Z * a.2.2.X))),Y:=w64 ((w64 ((w64 (b.X * a.1.Y)) + (w64 (b.Y * a.2.1.Y)))) + (w64 (b.Z * a.2.2.Y))),Z:=w64 ((w64 ((w64 (b.X * a.1.Z)) + (w64 (b.Y * a.2.1.Z)))) + (w64 (b.Z * a.2.2.Z)))} : Q6)
noncomputable def q98 (a : Y2) (c : Q6) : Option Q6:=
  (q97 a.Turn).bind fun d=>(q99 d c).bind fun b=>some ({X:=w64 (b.X + a.At.X),Y:=w64 (b.Y + a.At.Y),Z:=w64 (b.Z + a.At.Z)} : Q6)
noncomputable def q5w (a : Y2) (b : Q6) : Option (Q6 × Int):=
  (q5x a).bind fun c=>cond (c != 0) (some (({X:=0,Y:=0,Z:=0} : Q6),c)) ((q3z b (-1000000)).bind fun f=>cond (!f) (some (({X:=0,Y:=0,Z:=0} : Q6),2)) ((q98 a b).bind fun d=>(q3z d (-1000000)).bind fun g=>cond (!g) (some (({X:=0,Y:=0,Z:=0} : Q6),16)) (some (d,0))))
noncomputable def q4o (b : List qe) (c : qe→Option Bool) (a : Int) : Option ((Int) ⊕ ((Unit) ⊕ (Int))):=
  cond (decide (a < (b.length : Int))) ((idx b a).bind fun d=>(c d).bind fun f=>cond f (some (.inr (.inr a))) (some (.inl (w64 (a + 1))))) (some (.inr (.inl ())))
noncomputable def qda (a : List qe) (b : qe→Option Bool) : Option Int:=
  (loop (q4o a b) 0 : Option ((Unit) ⊕ (Int))).bind fun c=>(match c with | .inl _=>some (-1) | .inr d=>some d)
noncomputable def qa2 (a : List qe) (b : qe→Option Bool) : Option Bool:=
  (qda a b).bind fun c=>some (decide (c ≥ 0))
noncomputable def q3k (a : qe) : Option Bool:=
  (q8e a).bind fun b=>some (!b)
noncomputable def Uw (a : List qe) : Option (List qe × Int):=
  cond (decide ((a.length : Int) > 400)) (some ([],4)) ((qa2 a (fun c=>q3k c)).bind fun d=>cond d (some ([],8)) ((q8f a).bind fun b=>some (b.1,b.2)))
noncomputable def q56 (d : List qe) (f : Y2) (c : Int × List qe) : Option ((Int × List qe) ⊕ ((List qe) ⊕ (List qe × Int))):=
  cond (decide (c.1 < (d.length : Int))) ((idx d c.1).bind fun g=>(q5w f g.Lo).bind fun a=>(q5w f g.Hi).bind fun b=>(cond (a.2 != 0) (some true) (some (b.2 != 0))).bind fun h=>cond h (some (.inr (.inr ([],16)))) ((app 48 c.2 [({Lo:=({X:=min a.1.X b.1.X,Y:=min a.1.Y b.1.Y,Z:=min a.1.Z b.1.Z} : Q6),Hi:=({X:=max a.1.X b.1.X,Y:=max a.1.Y b.1.Y,Z:=max a.1.Z b.1.Z} : Q6)} : qe)]).bind fun j=>some (.inl (w64 (c.1 + 1),j)))) (some (.inr (.inl c.2)))
noncomputable def q55 (a : List qe) (b : Y2) : Option (List qe × Int):=
  (Jt a).bind fun c=>cond (c != 0) (some ([],c)) ((q5x b).bind fun d=>cond (d != 0) (some ([],d)) ((loop (q56 a b) (0,[]) : Option ((List qe) ⊕ (List qe × Int))).bind fun g=>(match g with | .inl h=>(Uw h).bind fun f=>some (f.1,f.2) | .inr j=>some j)))
noncomputable def qcw (d : List qe) (f : List qe) (c : Int) : Option ((Int) ⊕ ((Unit) ⊕ (Bool))):=
  cond (decide (c < (d.length : Int))) ((idx d c).bind fun a=>(idx f c).bind fun b=>cond (!((a.Lo.X == b.Lo.X) && ((a.Lo.Y == b.Lo.Y) && ((a.Lo.Z == b.Lo.Z) && ((a.Hi.X == b.Hi.X) && ((a.Hi.Y == b.Hi.Y) && ((a.Hi.Z == b.Hi.Z) && true))))))) (some (.inr (.inr false))) (some (.inl (w64 (c + 1))))) (some (.inr (.inl ())))
noncomputable def q4l (a : List qe) (b : List qe) : Option Bool:=
  cond ((a.length : Int) != (b.length : Int)) (some false) ((loop (qcw a b) 0 : Option ((Unit) ⊕ (Bool))).bind fun c=>(match c with | .inl _=>some true | .inr d=>some d))
noncomputable def q50 (a : qe) (b : Q6) : Option Bool:=
  (cond (decide (a.Lo.X≤b.X)) (some (decide (b.X < a.Hi.X))) (some false)).bind fun c=>(cond c (some (decide (a.Lo.Y≤b.Y))) (some false)).bind fun d=>(cond d (some (decide (b.Y < a.Hi.Y))) (some false)).bind fun f=>(cond f (some (decide (a.Lo.Z≤b.Z))) (some false)).bind fun g=>(cond g (some (decide (b.Z < a.Hi.Z))) (some false)).bind fun h=>some h
noncomputable def q83 (a : List qe) (b : Q6) : Option Bool:=
  (q4n a (fun c=>q50 c b)).bind fun d=>some d
noncomputable def q67 : Option Bool:=
  Jk.bind fun f=>(q86 f).bind fun a=>Jk.bind fun g=>(q3n g).bind fun b=>Jk.bind fun h=>(q55 h ({Turn:=9,At:=({X:=0,Y:=0,Z:=0} : Q6)} : Y2)).bind fun c=>(Yr 0 0 0 1 2 2).bind fun j=>(Yr 1 0 0 2 2 1).bind fun k=>(Uw [j,k]).bind fun d=>(cond (a.2 == 0) (some (a.1 == 6)) (some false)).bind fun l=>(cond l (some (b.2 == 0)) (some false)).bind fun m=>(cond m (some (b.1 == 22)) (some false)).bind fun n=>(cond n (some (c.2 == 0)) (some false)).bind fun o=>cond o ((Yr (-2) 0 0 0 2 1).bind fun p=>(Yr (-2) 0 1 0 1 2).bind fun q=>(q4l c.1 [p,q]).bind fun r=>(cond r (some (d.2 == 0)) (some false)).bind fun s=>(cond s (Jk.bind fun t=>(q4l d.1 t).bind fun u=>some u) (some false)).bind fun v=>(cond v (Jk.bind fun w=>(q83 w ({X:=0,Y:=0,Z:=1} : Q6)).bind fun x=>some x) (some false)).bind fun y=>(cond y (Jk.bind fun z=>(q83 z ({X:=1,Y:=0,Z:=1} : Q6)).bind fun aa=>some (!aa)) (some false)).bind fun ab=>some ab) (some false)
noncomputable def q6p (a : Q6) (b : Int) : Option Bool:=
  (cond (decide (a.X ≥ b)) (some (decide (a.Y ≥ b))) (some false)).bind fun c=>(cond c (some (decide (a.Z ≥ b))) (some false)).bind fun d=>(cond d (some (decide (a.X≤1000000))) (some false)).bind fun f=>(cond f (some (decide (a.Y≤1000000))) (some false)).bind fun g=>(cond g (some (decide (a.Z≤1000000))) (some false)).bind fun h=>some h
noncomputable def q9u (a : qe) : Option Bool:=
  (q6p a.Lo (-1000000)).bind fun b=>(cond b ((q6p a.Hi (-1000000)).bind fun c=>some c) (some false)).bind fun d=>(cond d (some (decide (a.Lo.X < a.Hi.X))) (some false)).bind fun f=>(cond f (some (decide (a.Lo.Y < a.Hi.Y))) (some false)).bind fun g=>(cond g (some (decide (a.Lo.Z < a.Hi.Z))) (some false)).bind fun h=>some h
noncomputable def q49 (b : Int × List Int) (c : List Int) (a : Int) : Option ((Int) ⊕ (Int)):=
  (cond (decide (a > 0)) ((idx b.2 (w64 (a - 1))).bind fun d=>(idx c b.1).bind fun f=>some (decide (d > f))) (some false)).bind fun g=>cond g (some (.inl (w64 (a - 1)))) (some (.inr a))
noncomputable def q48 (d : List Int) (a : Int × List Int) : Option ((Int × List Int) ⊕ (List Int)):=
  cond (decide (a.1 < (d.length : Int))) (((loop (q49 a d) (a.2.length : Int)).bind fun c=>(cond (decide (c > 0)) ((idx a.2 (w64 (c - 1))).bind fun h=>(idx d a.1).bind fun j=>some (h == j)) (some false)).bind fun k=>cond k (some a.2) ((app 8 a.2 [0]).bind fun b=>(sub2 b.length (w64 (c + 1)) b.length).bind fun g=>(sub2 b.length c b.length).bind fun f=>(idx d a.1).bind fun l=>(idx (cpyw b g ((b.drop f.1).take f.2)) c).bind fun _=>some ((cpyw b g ((b.drop f.1).take f.2)).set c.toNat l))).bind fun m=>some (.inl (w64 (a.1 + 1),m))) (some (.inr a.2))
noncomputable def Ub (a : List Int) : Option (List Int):=
  (loop (q48 a) (0,[])).bind fun b=>some b
noncomputable def q4h (b : List qe) (a : Int × List Int) : Option ((Int × List Int) ⊕ (List Int)):=
  cond (decide (a.1 < (b.length : Int))) ((idx b a.1).bind fun c=>(idx b a.1).bind fun d=>(app 8 a.2 [c.Lo.Z,d.Hi.Z]).bind fun f=>some (.inl (w64 (a.1 + 1),f))) (some (.inr a.2))
noncomputable def q4i (b : List qe) (a : Int × List Int) : Option ((Int × List Int) ⊕ (List Int)):=
  cond (decide (a.1 < (b.length : Int))) ((idx b a.1).bind fun c=>(idx b a.1).bind fun d=>(app 8 a.2 [c.Lo.Z,d.Hi.Z]).bind fun f=>some (.inl (w64 (a.1 + 1),f))) (some (.inr a.2))
noncomputable def q9t (a : List qe) (b : List qe) : Option (List Int):=
  (loop (q4h a) (0,[])).bind fun c=>(loop (q4i b) (0,c)).bind fun d=>(Ub d).bind fun f=>some f
noncomputable def q6q (b : List qe) (c : Int) (a : Int × List qi) : Option ((Int × List qi) ⊕ (List qi)):=
  cond (decide (a.1 < (b.length : Int))) (((idx b a.1).bind fun d=>(cond (decide (d.Lo.Z≤c)) ((idx b a.1).bind fun f=>some (decide (c < f.Hi.Z))) (some false)).bind fun g=>cond g ((idx b a.1).bind fun h=>(idx b a.1).bind fun j=>(idx b a.1).bind fun k=>(idx b a.1).bind fun l=>(app 32 a.2 [({X0:=h.Lo.X,Y0:=j.Lo.Y,X1:=k.Hi.X,Y1:=l.Hi.Y} : qi)]).bind fun m=>some m) (some a.2)).bind fun n=>some (.inl (w64 (a.1 + 1),n))) (some (.inr a.2))
noncomputable def Uc (a : List qe) (b : Int) : Option (List qi):=
  (loop (q6q a b) (0,[])).bind fun c=>some c
noncomputable def q4c (b : List qi) (a : Int × List Int) : Option ((Int × List Int) ⊕ (List Int)):=
  cond (decide (a.1 < (b.length : Int))) ((idx b a.1).bind fun c=>(idx b a.1).bind fun d=>(app 8 a.2 [c.X0,d.X1]).bind fun f=>some (.inl (w64 (a.1 + 1),f))) (some (.inr a.2))
noncomputable def q4d (b : List qi) (a : Int × List Int) : Option ((Int × List Int) ⊕ (List Int)):=
  cond (decide (a.1 < (b.length : Int))) ((idx b a.1).bind fun c=>(idx b a.1).bind fun d=>(app 8 a.2 [c.X0,d.X1]).bind fun f=>some (.inl (w64 (a.1 + 1),f))) (some (.inr a.2))
noncomputable def q9q (a : List qi) (b : List qi) : Option (List Int):=
  (loop (q4c a) (0,[])).bind fun c=>(loop (q4d b) (0,c)).bind fun d=>(Ub d).bind fun f=>some f
noncomputable def q4e (b : List qi) (a : Int × List Int) : Option ((Int × List Int) ⊕ (List Int)):=
  cond (decide (a.1 < (b.length : Int))) ((idx b a.1).bind fun c=>(idx b a.1).bind fun d=>(app 8 a.2 [c.Y0,d.Y1]).bind fun f=>some (.inl (w64 (a.1 + 1),f))) (some (.inr a.2))
noncomputable def q4f (b : List qi) (a : Int × List Int) : Option ((Int × List Int) ⊕ (List Int)):=
  cond (decide (a.1 < (b.length : Int))) ((idx b a.1).bind fun c=>(idx b a.1).bind fun d=>(app 8 a.2 [c.Y0,d.Y1]).bind fun f=>some (.inl (w64 (a.1 + 1),f))) (some (.inr a.2))
noncomputable def q9r (a : List qi) (b : List qi) : Option (List Int):=
  (loop (q4e a) (0,[])).bind fun c=>(loop (q4f b) (0,c)).bind fun d=>(Ub d).bind fun f=>some f
noncomputable def q38 (b : List qi) (c : Int) (d : Int) (a : Int) : Option ((Int) ⊕ ((Unit) ⊕ (Bool))):=
  cond (decide (a < (b.length : Int))) ((idx b a).bind fun f=>(cond (decide (f.X0≤c)) ((idx b a).bind fun g=>some (decide (c < g.X1))) (some false)).bind fun h=>(cond h ((idx b a).bind fun j=>some (decide (j.Y0≤d))) (some false)).bind fun k=>(cond k ((idx b a).bind fun l=>some (decide (d < l.Y1))) (some false)).bind fun m=>cond m (some (.inr (.inr true))) (some (.inl (w64 (a + 1))))) (some (.inr (.inl ())))
noncomputable def q6l (a : List qi) (b : Int) (c : Int) : Option Bool:=
  (loop (q38 a b c) 0 : Option ((Unit) ⊕ (Bool))).bind fun d=>(match d with | .inl _=>some false | .inr f=>some f)
noncomputable def q6j (c : Int) (a : Bool) (b : Bool) : Option Bool:=
  cond (c == 1) ((cond a (some b) (some false)).bind fun d=>some d) (cond (c == 2) ((cond a (some true) (some b)).bind fun f=>some f) ((cond a (some (!b)) (some false)).bind fun g=>some g))
noncomputable def q47 (b : List Int) (c : List Bool) (a : Int × List qj) : Option ((Int × List qj) ⊕ (List qj)):=
  cond (decide ((w64 (a.1 + 1)) < (b.length : Int))) (((idx c a.1).bind fun d=>cond (!d) (some a.2) ((cond (decide ((a.2.length : Int) > 0)) ((idx a.2 (w64 ((a.2.length : Int) - 1))).bind fun f=>(idx b a.1).bind fun g=>some (f.Hi == g)) (some false)).bind fun h=>cond h ((idx b (w64 (a.1 + 1))).bind fun j=>(idx a.2 (w64 ((a.2.length : Int) - 1))).bind fun k=>some (a.2.set (w64 ((a.2.length : Int) - 1)).toNat ({Lo:=k.Lo,Hi:=j} : qj))) ((idx b a.1).bind fun l=>(idx b (w64 (a.1 + 1))).bind fun m=>(app 16 a.2 [({Lo:=l,Hi:=m} : qj)]).bind fun n=>some n))).bind fun o=>some (.inl (w64 (a.1 + 1),o))) (some (.inr a.2))
noncomputable def q46 (a : List Int) (b : List Bool) : Option (List qj):=
  (loop (q47 a b) (0,[])).bind fun c=>some c
noncomputable def qcs (b : List qj) (f : List qj) (a : Int) : Option ((Int) ⊕ ((Unit) ⊕ (Bool))):=
  cond (decide (a < (b.length : Int))) ((idx b a).bind fun c=>(idx f a).bind fun d=>cond (!((c.Lo == d.Lo) && ((c.Hi == d.Hi) && true))) (some (.inr (.inr false))) (some (.inl (w64 (a + 1))))) (some (.inr (.inl ())))
noncomputable def q6k (a : List qj) (b : List qj) : Option Bool:=
  cond ((a.length : Int) != (b.length : Int)) (some false) ((loop (qcs a b) 0 : Option ((Unit) ⊕ (Bool))).bind fun c=>(match c with | .inl _=>some true | .inr d=>some d))
noncomputable def q4a (b : List Int) (c : List Int) (d : List qj × Int × Int × List qi) (f : List qi) (g : List qi) (h : Int) (a : Int × List Bool) : Option ((Int × List Bool) ⊕ (List Bool)):=
  cond (decide (a.1 < (b.length : Int))) ((idx c d.2.2.1).bind fun j=>(idx b a.1).bind fun k=>(q6l f j k).bind fun l=>(idx c d.2.2.1).bind fun m=>(idx b a.1).bind fun n=>(q6l g m n).bind fun o=>(q6j h l o).bind fun p=>(app 1 a.2 [p]).bind fun q=>some (.inl (w64 (a.1 + 1),q))) (some (.inr a.2))
noncomputable def q4b (c : List Int) (d : List qj × Int × Int × List qi) (a : Int × List qi) : Option ((Int × List qi) ⊕ (List qi)):=
  cond (decide (a.1 < (a.2.length : Int))) ((idx c (w64 (d.2.2.1 + 1))).bind fun f=>(idx a.2 a.1).bind fun b=>some (.inl (w64 (a.1 + 1),a.2.set a.1.toNat ({X0:=b.X0,Y0:=b.Y0,X1:=f,Y1:=b.Y1} : qi)))) (some (.inr a.2))
noncomputable def q6m (b : List qj) (d : List Int) (c : List qj × Int × Int × List qi) (a : Int × List qi) : Option ((Int × List qi) ⊕ (List qj × Int × List qi)):=
  cond (decide (a.1 < (b.length : Int))) ((idx d c.2.2.1).bind fun f=>(idx b a.1).bind fun g=>(idx d (w64 (c.2.2.1 + 1))).bind fun h=>(idx b a.1).bind fun j=>(app 32 a.2 [({X0:=f,Y0:=g.Lo,X1:=h,Y1:=j.Hi} : qi)]).bind fun k=>some (.inl (w64 (a.1 + 1),k))) (some (.inr (b,(c.2.2.2.length : Int),a.2)))
noncomputable def q39 (b : List Int) (d : List Int) (g : List qi) (h : List qi) (j : Int) (a : List qj × Int × Int × List qi) : Option ((List qj × Int × Int × List qi) ⊕ (List qi)):=
  cond (decide ((w64 (a.2.2.1 + 1)) < (b.length : Int))) (((loop (q4a d b a g h j) (0,[])).bind fun k=>(q46 d k).bind fun f=>(cond (decide (a.2.2.1 > 0)) ((q6k f a.1).bind fun l=>some l) (some false)).bind fun m=>cond m ((loop (q4b b a) (a.2.1,a.2.2.2)).bind fun n=>some (a.1,a.2.1,n)) ((loop (q6m f b a) (0,a.2.2.2)).bind fun o=>some o)).bind fun c=>some (.inl (c.1,c.2.1,w64 (a.2.2.1 + 1),c.2.2))) (some (.inr a.2.2.2))
noncomputable def Jq (c : Int) (a : List qi) (b : List qi) : Option (List qi):=
  (q9q a b).bind fun d=>(q9r a b).bind fun f=>(loop (q39 d f a b c) ([],0,0,[])).bind fun g=>some g
noncomputable def qct (d : List qi) (f : List qi) (a : Int) : Option ((Int) ⊕ ((Unit) ⊕ (Bool))):=
  cond (decide (a < (d.length : Int))) ((idx d a).bind fun b=>(idx f a).bind fun c=>cond (!((b.X0 == c.X0) && ((b.Y0 == c.Y0) && ((b.X1 == c.X1) && ((b.Y1 == c.Y1) && true))))) (some (.inr (.inr false))) (some (.inl (w64 (a + 1))))) (some (.inr (.inl ())))
noncomputable def q6o (a : List qi) (b : List qi) : Option Bool:=
  cond ((a.length : Int) != (b.length : Int)) (some false) ((loop (qct a b) 0 : Option ((Unit) ⊕ (Bool))).bind fun c=>(match c with | .inl _=>some true | .inr d=>some d))
noncomputable def q4k (c : List Int) (d : List qi × Int × Int × List qe) (a : Int × List qe) : Option ((Int × List qe) ⊕ (List qe)):=
  cond (decide (a.1 < (a.2.length : Int))) ((idx c (w64 (d.2.2.1 + 1))).bind fun f=>(idx a.2 a.1).bind fun b=>some (.inl (w64 (a.1 + 1),a.2.set a.1.toNat ({Lo:=b.Lo,Hi:=({X:=b.Hi.X,Y:=b.Hi.Y,Z:=f} : Q6)} : qe)))) (some (.inr a.2))
noncomputable def q6s (b : List qi) (d : List Int) (c : List qi × Int × Int × List qe) (a : Int × List qe) : Option ((Int × List qe) ⊕ (List qi × Int × List qe)):=
  cond (decide (a.1 < (b.length : Int))) ((idx b a.1).bind fun f=>(idx b a.1).bind fun g=>(idx d c.2.2.1).bind fun h=>(idx b a.1).bind fun j=>(idx b a.1).bind fun k=>(idx d (w64 (c.2.2.1 + 1))).bind fun l=>(app 48 a.2 [({Lo:=({X:=f.X0,Y:=g.Y0,Z:=h} : Q6),Hi:=({X:=j.X1,Y:=k.Y1,Z:=l} : Q6)} : qe)]).bind fun m=>some (.inl (w64 (a.1 + 1),m))) (some (.inr (b,(c.2.2.2.length : Int),a.2)))
noncomputable def q27 (b : List Int) (f : List qe) (g : List qe) (h : Int) (a : List qi × Int × Int × List qe) : Option ((List qi × Int × Int × List qe) ⊕ ((List qe) ⊕ (List qe × Bool))):=
  cond (decide ((w64 (a.2.2.1 + 1)) < (b.length : Int))) (((idx b a.2.2.1).bind fun j=>(Uc f j).bind fun k=>(idx b a.2.2.1).bind fun l=>(Uc g l).bind fun m=>(Jq h k m).bind fun c=>(cond (decide ((c.length : Int) > 400)) (some true) ((idx b a.2.2.1).bind fun n=>(Uc f n).bind fun o=>(Jq 2 o []).bind fun p=>some (decide ((p.length : Int) > 400)))).bind fun q=>(cond q (some true) ((idx b a.2.2.1).bind fun r=>(Uc g r).bind fun s=>(Jq 2 s []).bind fun t=>some (decide ((t.length : Int) > 400)))).bind fun u=>cond u (some (.inr ([],false))) ((cond (decide (a.2.2.1 > 0)) ((q6o c a.1).bind fun v=>some v) (some false)).bind fun w=>cond w ((loop (q4k b a) (a.2.1,a.2.2.2)).bind fun x=>some (.inl (a.1,a.2.1,x))) ((loop (q6s c b a) (0,a.2.2.2)).bind fun y=>some (.inl y))) : Option ((List qi × Int × List qe) ⊕ (List qe × Bool))).bind fun z=>(match z with | .inl d=>some (.inl (d.1,d.2.1,w64 (a.2.2.1 + 1),d.2.2)) | .inr x1=>some (.inr (.inr x1)))) (some (.inr (.inl a.2.2.2)))
noncomputable def q4j (d : Int) (a : List qe) (b : List qe) : Option (List qe × Bool):=
  (q9t a b).bind fun f=>(loop (q27 f a b d) ([],0,0,[]) : Option ((List qe) ⊕ (List qe × Bool))).bind fun g=>(match g with | .inl c=>some (c,decide ((c.length : Int)≤400)) | .inr h=>some h)
noncomputable def q6r (b : List qe) (a : Int) : Option ((Int) ⊕ ((Unit) ⊕ (Int))):=
  cond (decide (a < (b.length : Int))) ((idx b a).bind fun c=>(q9u c).bind fun d=>cond (!d) (some (.inr (.inr 8))) (some (.inl (w64 (a + 1))))) (some (.inr (.inl ())))
noncomputable def q4g (a : List qe) : Option Int:=
  cond (decide ((a.length : Int) > 400)) (some 4) ((loop (q6r a) 0 : Option ((Unit) ⊕ (Int))).bind fun c=>(match c with | .inl _=>(q4j 2 a []).bind fun b=>(cond (!b.2) (some true) ((q4l b.1 a).bind fun d=>some (!d))).bind fun f=>cond f (some 8) (some 0) | .inr g=>some g))
noncomputable def q9s (a : List qe) (b : List qe) : Option Int:=
  (q4g a).bind fun c=>cond (c != 0) ((q4g a).bind fun d=>some d) ((q4g b).bind fun f=>some f)
noncomputable def q9c (a : List qe) (b : List qe) : Option Bool:=
  (cond (decide ((a.length : Int)≤30)) (some (decide ((b.length : Int)≤30))) (some false)).bind fun c=>(cond c ((q9s a b).bind fun d=>some (d == 0)) (some false)).bind fun f=>some f
noncomputable def q54 (b : List qe) (a : Int × (List (Int × Bool))) : Option ((Int × (List (Int × Bool))) ⊕ ((List (Int × Bool)))):=
  cond (decide (a.1 < (b.length : Int))) (some (.inl (w64 (a.1 + 1),Zk a.1 true a.2))) (some (.inr a.2))
noncomputable def q2f (b : List qe) (d : Int × (List (Int × Bool)) × List qe) (a : Int × (List (Int × Bool)) × List qe) : Option ((Int × (List (Int × Bool)) × List qe) ⊕ ((List (Int × Bool)) × List qe)):=
  cond (decide (a.1 < (b.length : Int))) (((cond (Yd false a.1 a.2.1) ((idx a.2.2 d.1).bind fun f=>(idx b a.1).bind fun g=>(q59 f g).bind fun h=>some (decide (h > 0))) (some false)).bind fun j=>cond j ((idx b a.1).bind fun k=>(app 48 a.2.2 [k]).bind fun l=>some (Yz a.1 a.2.1,l)) (some (a.2.1,a.2.2))).bind fun c=>some (.inl (w64 (a.1 + 1),c.1,c.2))) (some (.inr (a.2.1,a.2.2)))
noncomputable def q3m (c : List qe) (a : Int × (List (Int × Bool)) × List qe) : Option ((Int × (List (Int × Bool)) × List qe) ⊕ ((List (Int × Bool)) × List qe)):=
  cond (decide (a.1 < (a.2.2.length : Int))) (((loop (q2f c a) (0,a.2.1,a.2.2)).bind fun d=>some d).bind fun b=>some (.inl (w64 (a.1 + 1),b.1,b.2))) (some (.inr (a.2.1,a.2.2)))
noncomputable def q3l (b : List qe) (a : Int × (List (Int × Bool)) × List (List qe)) : Option ((Int × (List (Int × Bool)) × List (List qe)) ⊕ (List (List qe))):=
  cond (decide (a.1 < (b.length : Int))) ((cond (!(Yd false a.1 a.2.1)) (some (a.2.1,a.2.2)) ((idx b a.1).bind fun f=>(loop (q3m b) (0,Yz a.1 a.2.1,[f])).bind fun c=>(Uw c.2).bind fun g=>(app 24 a.2.2 [g.1]).bind fun h=>some (c.1,h))).bind fun d=>some (.inl (w64 (a.1 + 1),d.1,d.2))) (some (.inr a.2.2))
noncomputable def q53 (a : List qe) : Option (List (List qe) × Int):=
  (Jt a).bind fun b=>cond (b != 0) (some ([],b)) ((loop (q54 a) (0,[])).bind fun c=>(loop (q3l a) (0,c,[])).bind fun d=>some (d,0))
noncomputable def qdj (b : List qe) (a : Int × List Int) : Option ((Int × List Int) ⊕ (List Int)):=
  cond (decide (a.1 < (b.length : Int))) ((idx b a.1).bind fun c=>(app 8 a.2 [c.Lo.Z,c.Hi.Z]).bind fun d=>some (.inl (w64 (a.1 + 1),d))) (some (.inr a.2))
noncomputable def qdk (b : List qe) (a : Int × List Int) : Option ((Int × List Int) ⊕ (List Int)):=
  cond (decide (a.1 < (b.length : Int))) ((idx b a.1).bind fun c=>(app 8 a.2 [c.Lo.Z,c.Hi.Z]).bind fun d=>some (.inl (w64 (a.1 + 1),d))) (some (.inr a.2))
noncomputable def qdl (c : List qe) (d : Int) (a : Int × List qi) : Option ((Int × List qi) ⊕ (List qi)):=
  cond (decide (a.1 < (c.length : Int))) (((idx c a.1).bind fun b=>(cond (decide (b.Lo.Z≤d)) (some (decide (d < b.Hi.Z))) (some false)).bind fun f=>cond f ((app 32 a.2 [({X0:=b.Lo.X,Y0:=b.Lo.Y,X1:=b.Hi.X,Y1:=b.Hi.Y} : qi)]).bind fun g=>some g) (some a.2)).bind fun h=>some (.inl (w64 (a.1 + 1),h))) (some (.inr a.2))
noncomputable def qdm (c : List qe) (d : Int) (a : Int × List qi) : Option ((Int × List qi) ⊕ (List qi)):=
  cond (decide (a.1 < (c.length : Int))) (((idx c a.1).bind fun b=>(cond (decide (b.Lo.Z≤d)) (some (decide (d < b.Hi.Z))) (some false)).bind fun f=>cond f ((app 32 a.2 [({X0:=b.Lo.X,Y0:=b.Lo.Y,X1:=b.Hi.X,Y1:=b.Hi.Y} : qi)]).bind fun g=>some g) (some a.2)).bind fun h=>some (.inl (w64 (a.1 + 1),h))) (some (.inr a.2))
noncomputable def q5a (f : List Int) (l : List qe) (m : List qe) (o : List qi→List qi→Option (List qi × Int)) (a : Int × List qi × Int × Int × List qe) : Option ((Int × List qi × Int × Int × List qe) ⊕ ((List qi × Int × Int × List qe) ⊕ (List qe × Int))):=
  cond (decide (a.1 < (f.length : Int))) ((idx f (w64 (a.1 - 1))).bind fun g=>(idx f a.1).bind fun p=>((idx [l,m] 0).bind fun q=>(loop (qdl q g) (0,[])).bind fun h=>some h).bind fun r=>((idx [l,m] 1).bind fun s=>(loop (qdm s g) (0,[])).bind fun h=>some h).bind fun t=>((q28 r).bind fun b=>(cond (b.2 == 0) ((q28 t).bind fun j=>cond (j.2 == 0) ((o b.1 j.1).bind fun n=>some (n.1,n.2)) (some (b.1,j.2))) (some (b.1,b.2))).bind fun k=>cond (k.2 != 0) (some (.inr ([],k.2))) ((q88 a.2.2.2.2 a.2.1 a.2.2.1 a.2.2.2.1 g p k.1).bind fun c=>some (.inl (c.1,c.2.1,c.2.2.1,c.2.2.2))) : Option ((List qi × Int × Int × List qe) ⊕ (List qe × Int))).bind fun u=>(match u with | .inl d=>some (.inl (w64 (a.1 + 1),d.1,d.2.1,d.2.2.1,d.2.2.2)) | .inr v=>some (.inr (.inr v)))) (some (.inr (.inl (a.2.1,a.2.2.1,a.2.2.2.1,a.2.2.2.2))))
noncomputable def qb1 (k : List qi→List qi→Option (List qi × Int)) (c : List qe) (d : List qe) : Option (List qe × Int):=
  (((idx [c,d] 0).bind fun l=>(loop (qdj l) (0,[])).bind fun b=>some b).bind fun m=>((idx [c,d] 1).bind fun n=>(loop (qdk n) (0,m)).bind fun b=>some b).bind fun h=>(Ud h).bind fun f=>(K1 f.length h.length).bind fun _=>(q1g f).bind fun a=>(K1 a.2.length f.length).bind fun _=>(q1j a.2.length a.1).bind fun _=>some ((a.2.drop a.1.1).take a.1.2)).bind fun o=>((loop (q5a o c d k) (1,[],0,0,[]) : Option ((List qi × Int × Int × List qe) ⊕ (List qe × Int))).bind fun p=>(match p with | .inl b=>some (.inl b) | .inr g=>some (.inr g)) : Option ((List qi × Int × Int × List qe) ⊕ (List qe × Int))).bind fun q=>(match q with | .inl j=>cond (decide ((j.2.2.2.length : Int) > 400)) (some ([],4)) (some (j.2.2.2,0)) | .inr g=>some g)
noncomputable def q8c (a : List qe) (b : List qe) (g : List qi→List qi→Option (List qi × Int)) : Option (List qe × Int):=
  (Jt a).bind fun c=>cond (c != 0) (some ([],c)) ((Jt b).bind fun d=>cond (d != 0) (some ([],d)) ((qb1 g a b).bind fun f=>some (f.1,f.2)))
noncomputable def q4q (b : List qi) (c : qi→Option Bool) (a : Int) : Option ((Int) ⊕ ((Unit) ⊕ (Int))):=
  cond (decide (a < (b.length : Int))) ((idx b a).bind fun d=>(c d).bind fun f=>cond f (some (.inr (.inr a))) (some (.inl (w64 (a + 1))))) (some (.inr (.inl ())))
noncomputable def qdc (a : List qi) (b : qi→Option Bool) : Option Int:=
  (loop (q4q a b) 0 : Option ((Unit) ⊕ (Int))).bind fun c=>(match c with | .inl _=>some (-1) | .inr d=>some d)
noncomputable def qa4 (a : List qi) (b : qi→Option Bool) : Option Bool:=
  (qdc a b).bind fun c=>some (decide (c ≥ 0))
noncomputable def q3a (a : qi) : Option Bool:=
  (q72 a).bind fun b=>some (!b)
noncomputable def q6u (a : List qi) : Option Int:=
  cond (decide ((a.length : Int) > 400)) (some 4) ((qa4 a (fun c=>q3a c)).bind fun d=>cond d (some 8) ((q71 a).bind fun b=>(cond (b.2 != 0) (some true) ((q76 b.1 a).bind fun f=>some (!f))).bind fun g=>cond g (some 8) (some 0)))
noncomputable def q9v (b : List qi) (c : List qi) : Option Int:=
  (q6u b).bind fun a=>cond (a != 0) (some a) ((q6u c).bind fun d=>some d)
noncomputable def qcz (b : List qi) (a : Int × List Int) : Option ((Int × List Int) ⊕ (List Int)):=
  cond (decide (a.1 < (b.length : Int))) ((idx b a.1).bind fun c=>(app 8 a.2 [c.X0,c.X1]).bind fun d=>some (.inl (w64 (a.1 + 1),d))) (some (.inr a.2))
noncomputable def qd0 (b : List qi) (a : Int × List Int) : Option ((Int × List Int) ⊕ (List Int)):=
  cond (decide (a.1 < (b.length : Int))) ((idx b a.1).bind fun c=>(app 8 a.2 [c.X0,c.X1]).bind fun d=>some (.inl (w64 (a.1 + 1),d))) (some (.inr a.2))
noncomputable def qd1 (c : List qi) (d : Int) (a : Int × List qj) : Option ((Int × List qj) ⊕ (List qj)):=
  cond (decide (a.1 < (c.length : Int))) (((idx c a.1).bind fun b=>(cond (decide (b.X0≤d)) (some (decide (d < b.X1))) (some false)).bind fun f=>cond f ((app 16 a.2 [({Lo:=b.Y0,Hi:=b.Y1} : qj)]).bind fun g=>some g) (some a.2)).bind fun h=>some (.inl (w64 (a.1 + 1),h))) (some (.inr a.2))
noncomputable def qd2 (c : List qi) (d : Int) (a : Int × List qj) : Option ((Int × List qj) ⊕ (List qj)):=
  cond (decide (a.1 < (c.length : Int))) (((idx c a.1).bind fun b=>(cond (decide (b.X0≤d)) (some (decide (d < b.X1))) (some false)).bind fun f=>cond f ((app 16 a.2 [({Lo:=b.Y0,Hi:=b.Y1} : qj)]).bind fun g=>some g) (some a.2)).bind fun h=>some (.inl (w64 (a.1 + 1),h))) (some (.inr a.2))
noncomputable def q4m (d : List Int) (j : List qi) (k : List qi) (l : List qj→List qj→Option (List qj × Int)) (a : Int × List qj × Int × Int × List qi) : Option ((Int × List qj × Int × Int × List qi) ⊕ ((List qj × Int × Int × List qi) ⊕ (List qi × Int))):=
  cond (decide (a.1 < (d.length : Int))) ((idx d (w64 (a.1 - 1))).bind fun f=>(idx d a.1).bind fun m=>((idx [j,k] 0).bind fun n=>(loop (qd1 n f) (0,[])).bind fun g=>some g).bind fun o=>((idx [j,k] 1).bind fun p=>(loop (qd2 p f) (0,[])).bind fun g=>some g).bind fun q=>((l o q).bind fun h=>cond (h.2 != 0) (some (.inr ([],h.2))) ((q6x a.2.2.2.2 a.2.1 a.2.2.1 a.2.2.2.1 f m h.1).bind fun b=>some (.inl (b.1,b.2.1,b.2.2.1,b.2.2.2))) : Option ((List qj × Int × Int × List qi) ⊕ (List qi × Int))).bind fun r=>(match r with | .inl c=>some (.inl (w64 (a.1 + 1),c.1,c.2.1,c.2.2.1,c.2.2.2)) | .inr s=>some (.inr (.inr s)))) (some (.inr (.inl (a.2.1,a.2.2.1,a.2.2.2.1,a.2.2.2.2))))
noncomputable def q70 (c : List qi) (d : List qi) (m : List qj→List qj→Option (List qj × Int)) : Option (List qi × Int):=
  (q9v c d).bind fun h=>cond (h != 0) (some ([],h)) ((((idx [c,d] 0).bind fun n=>(loop (qcz n) (0,[])).bind fun b=>some b).bind fun o=>((idx [c,d] 1).bind fun p=>(loop (qd0 p) (0,o)).bind fun b=>some b).bind fun j=>(Ud j).bind fun f=>(K1 f.length j.length).bind fun _=>(q1g f).bind fun a=>(K1 a.2.length f.length).bind fun _=>(q1j a.2.length a.1).bind fun _=>some ((a.2.drop a.1.1).take a.1.2)).bind fun q=>((loop (q4m q c d m) (1,[],0,0,[]) : Option ((List qj × Int × Int × List qi) ⊕ (List qi × Int))).bind fun r=>(match r with | .inl b=>some (.inl b) | .inr g=>some (.inr g)) : Option ((List qj × Int × Int × List qi) ⊕ (List qi × Int))).bind fun s=>(match s with | .inl k=>(cond (decide ((k.2.2.2.length : Int) > 400)) (some (4,[])) (some (0,k.2.2.2))).bind fun l=>some (l.2,l.1) | .inr g=>some g))
noncomputable def q2i (b : List qj) (a : Int) : Option ((Int) ⊕ ((Unit) ⊕ (Int))):=
  cond (decide (a < (b.length : Int))) ((idx b a).bind fun c=>(q3q c).bind fun d=>(cond (!d) (some true) ((cond (decide (a > 0)) ((idx b (w64 (a - 1))).bind fun f=>some (decide (f.Hi ≥ c.Lo))) (some false)).bind fun g=>some g)).bind fun h=>cond h (some (.inr (.inr 8))) (some (.inl (w64 (a + 1))))) (some (.inr (.inl ())))
noncomputable def q3o (a : List qj) : Option Int:=
  cond (decide ((a.length : Int) > 400)) (some 4) ((loop (q2i a) 0 : Option ((Unit) ⊕ (Int))).bind fun b=>(match b with | .inl _=>some 0 | .inr c=>some c))
noncomputable def q8j (a : List qj) (b : List qj) (g : Bool→Bool→Option Bool) : Option (List qj × Int):=
  (q3o a).bind fun c=>cond (c != 0) (some ([],c)) ((q3o b).bind fun d=>cond (d != 0) (some ([],d)) ((q3p a b g).bind fun f=>cond (decide ((f.length : Int) > 400)) (some ([],4)) (some (f,0))))
noncomputable def qdo (a : Bool) (b : Bool) : Option Bool:=
  (cond a (some b) (some false)).bind fun c=>some c
noncomputable def q8h (b : List qj) (c : List qj) : Option (List qj × Int):=
  (q8j b c (fun d f=>qdo d f)).bind fun a=>some (a.1,a.2)
noncomputable def q6v (b : List qi) (c : List qi) : Option (List qi × Int):=
  (q70 b c (fun d f=>q8h d f)).bind fun a=>some (a.1,a.2)
noncomputable def q84 (b : List qe) (c : List qe) : Option (List qe × Int):=
  (q8c b c (fun d f=>q6v d f)).bind fun a=>some (a.1,a.2)
noncomputable def qdp (a : Bool) (b : Bool) : Option Bool:=
  (cond a (some true) (some b)).bind fun c=>some c
noncomputable def q8i (b : List qj) (c : List qj) : Option (List qj × Int):=
  (q8j b c (fun d f=>qdp d f)).bind fun a=>some (a.1,a.2)
noncomputable def q6w (b : List qi) (c : List qi) : Option (List qi × Int):=
  (q70 b c (fun d f=>q8i d f)).bind fun a=>some (a.1,a.2)
noncomputable def q85 (b : List qe) (c : List qe) : Option (List qe × Int):=
  (q8c b c (fun d f=>q6w d f)).bind fun a=>some (a.1,a.2)
noncomputable def q43 (b : List (List qe) × Int) (a : List qe × Int × Int) : Option ((List qe × Int × Int) ⊕ ((List qe × Int) ⊕ (Bool))):=
  cond (decide (a.2.2 < (b.1.length : Int))) ((idx b.1 a.2.2).bind fun h=>(q53 h).bind fun c=>(idx b.1 a.2.2).bind fun j=>(q3n j).bind fun d=>(idx b.1 a.2.2).bind fun k=>(q84 a.1 k).bind fun f=>(cond (c.2 != 0) (some true) (some ((c.1.length : Int) != 1))).bind fun l=>(cond l (some true) (some (d.2 != 0))).bind fun m=>(cond m (some true) (some (f.2 != 0))).bind fun n=>(cond n (some true) (some (decide ((f.1.length : Int) > 0)))).bind fun o=>cond o (some (.inr (.inr false))) ((idx b.1 a.2.2).bind fun p=>(q85 a.1 p).bind fun g=>cond (g.2 != 0) (some (.inr (.inr false))) (some (.inl (g.1,w64 (a.2.1 + d.1),w64 (a.2.2 + 1)))))) (some (.inr (.inl (a.1,a.2.1))))
noncomputable def qcb (a : List qe) : Option Bool:=
  q67.bind fun b=>(q9c a []).bind fun g=>(cond (!g) (some true) (some (!b))).bind fun h=>cond h (some b) ((q53 a).bind fun c=>(cond (c.2 != 0) (some true) (some (decide ((c.1.length : Int) > (a.length : Int))))).bind fun j=>cond j (some false) ((loop (q43 c) ([],0,0) : Option ((List qe × Int) ⊕ (Bool))).bind fun k=>(match k with | .inl d=>(q3n a).bind fun f=>(cond b (some (f.2 == 0)) (some false)).bind fun l=>(cond l (some (f.1 == d.2)) (some false)).bind fun m=>(cond m ((q4l d.1 a).bind fun n=>some n) (some false)).bind fun o=>some o | .inr p=>some p)))
noncomputable def q51 (c : List qe) (a : Int × Int × Int × Int × Int × Int × Int) : Option ((Int × Int × Int × Int × Int × Int × Int) ⊕ (Int × Int × Int × Int × Int × Int)):=
  cond (decide (a.1 < (c.length : Int))) ((idx c a.1).bind fun b=>some (.inl (w64 (a.1 + 1),min a.2.1 b.Lo.X,min a.2.2.1 b.Lo.Y,min a.2.2.2.1 b.Lo.Z,max a.2.2.2.2.1 b.Hi.X,max a.2.2.2.2.2.1 b.Hi.Y,max a.2.2.2.2.2.2 b.Hi.Z))) (some (.inr (a.2.1,a.2.2.1,a.2.2.2.1,a.2.2.2.2.1,a.2.2.2.2.2.1,a.2.2.2.2.2.2)))
noncomputable def qb0 (c : List qe) : Option (qe × Int):=
  (Jt c).bind fun d=>cond (d != 0) (some (({Lo:=({X:=0,Y:=0,Z:=0} : Q6),Hi:=({X:=0,Y:=0,Z:=0} : Q6)} : qe),d)) (cond ((c.length : Int) == 0) (some (({Lo:=({X:=0,Y:=0,Z:=0} : Q6),Hi:=({X:=0,Y:=0,Z:=0} : Q6)} : qe),6)) ((idx c 0).bind fun a=>(loop (q51 c) (0,a.Lo.X,a.Lo.Y,a.Lo.Z,a.Hi.X,a.Hi.Y,a.Hi.Z)).bind fun b=>some (({Lo:=({X:=b.1,Y:=b.2.1,Z:=b.2.2.1} : Q6),Hi:=({X:=b.2.2.2.1,Y:=b.2.2.2.2.1,Z:=b.2.2.2.2.2} : Q6)} : qe),0)))
noncomputable def q66 (a : Int × List qe × List qe) : Option ((Int × List qe × List qe) ⊕ (List qe × List qe)):=
  cond (decide (a.1 < 21)) ((Yr (w64 (2 * a.1)) 0 0 (w64 ((w64 (2 * a.1)) + 1)) 60 1).bind fun b=>(app 48 a.2.1 [b]).bind fun c=>(Yr 0 (w64 (2 * a.1)) 0 60 (w64 ((w64 (2 * a.1)) + 1)) 1).bind fun d=>(app 48 a.2.2 [d]).bind fun f=>some (.inl (w64 (a.1 + 1),c,f))) (some (.inr (a.2.1,a.2.2)))
noncomputable def qca : Option Bool:=
  (mks 48 401 ({Lo:=({X:=0,Y:=0,Z:=0} : Q6),Hi:=({X:=0,Y:=0,Z:=0} : Q6)} : qe)).bind fun j=>(Uw j).bind fun k=>(Yr 0 0 0 1 1 0).bind fun l=>(Uw [l]).bind fun m=>(qb0 []).bind fun n=>Jk.bind fun o=>(q55 o ({Turn:=0,At:=({X:=999999,Y:=0,Z:=0} : Q6)} : Y2)).bind fun p=>Jk.bind fun q=>(q55 q ({Turn:=24,At:=({X:=0,Y:=0,Z:=0} : Q6)} : Y2)).bind fun r=>Jk.bind fun s=>(Yr 0 0 0 1 1 1).bind fun t=>(Yr 0 0 1 1 1 2).bind fun u=>(q85 s [t,u]).bind fun v=>(Yr 0 0 1 1 1 2).bind fun w=>(Yr 0 0 0 2 1 1).bind fun x=>(Jt [w,x]).bind fun y=>(Yr 0 0 0 1000001 1 1).bind fun z=>(Jt [z]).bind fun aa=>(Yr (-1000000) (-1000000) (-1000000) 1000000 1000000 1000000).bind fun b=>(q86 [b]).bind fun c=>(q3n [b]).bind fun d=>(loop q66 (0,[],[])).bind fun f=>(Uw f.1).bind fun a=>(Uw f.2).bind fun g=>(q84 a.1 g.1).bind fun ab=>(q53 a.1).bind fun h=>q67.bind fun ac=>(cond ac (some (k.2 == 4)) (some false)).bind fun ad=>(cond ad (some (m.2 == 8)) (some false)).bind fun ae=>(cond ae (some (n.2 == 6)) (some false)).bind fun af=>(cond af (some (p.2 == 16)) (some false)).bind fun ag=>(cond ag (some (r.2 == 8)) (some false)).bind fun ah=>(cond ah (some (v.2 == 8)) (some false)).bind fun ai=>(cond ai (some (y == 8)) (some false)).bind fun aj=>(cond aj (some (aa == 8)) (some false)).bind fun ak=>(cond ak (some (c.2 == 0)) (some false)).bind fun al=>(cond al (some (c.1 == 8000000000000000000)) (some false)).bind fun am=>(cond am (some (d.2 == 0)) (some false)).bind fun an=>(cond an (some (d.1 == 24000000000000)) (some false)).bind fun ao=>(cond ao (some (a.2 == 0)) (some false)).bind fun ap=>(cond ap (some (g.2 == 0)) (some false)).bind fun aq=>(cond aq (some (ab.2 == 4)) (some false)).bind fun ar=>(cond ar (some (h.2 == 0)) (some false)).bind fun au=>(cond au (some ((h.1.length : Int) == 21)) (some false)).bind fun av=>some av
structure qia where
  Frame : Y2
  Size : Q6
  deriving DecidableEq
structure qpv where
  Num : Int
  Den : Int
  deriving DecidableEq
structure q14a where
  Kind : Int
  Size : Int
  Share : qpv
  deriving DecidableEq
def Zq (x : Q6) : List DV:=[.int .i64 x.X,.int .i64 x.Y,.int .i64 x.Z]
noncomputable def qmq (a : qj) : Option Bool:=
  (cond (decide (a.Lo < a.Hi)) (some (decide (a.Lo ≥ (-1000000)))) (some false)).bind fun b=>(cond b (some (decide (a.Hi≤1000000))) (some false)).bind fun c=>some c
noncomputable def qgq (b : List qj) (a : Int) : Option ((Int) ⊕ ((Unit) ⊕ (Int))):=
  cond (decide (a < (b.length : Int))) ((idx b a).bind fun c=>(qmq c).bind fun d=>(cond (!d) (some true) ((cond (decide (a > 0)) ((idx b (w64 (a - 1))).bind fun f=>(idx b a).bind fun g=>some (decide (f.Hi ≥ g.Lo))) (some false)).bind fun h=>some h)).bind fun j=>cond j (some (.inr (.inr 8))) (some (.inl (w64 (a + 1))))) (some (.inr (.inl ())))
noncomputable def qcp (a : List qj) : Option Int:=
  cond (decide ((a.length : Int) > 400)) (some 4) ((loop (qgq a) 0 : Option ((Unit) ⊕ (Int))).bind fun b=>(match b with | .inl _=>some 0 | .inr c=>some c))
noncomputable def q9m (b : List qj) (a : Int × List Int) : Option ((Int × List Int) ⊕ (List Int)):=
  cond (decide (a.1 < (b.length : Int))) ((idx b a.1).bind fun c=>(idx b a.1).bind fun d=>(app 8 a.2 [c.Lo,d.Hi]).bind fun f=>some (.inl (w64 (a.1 + 1),f))) (some (.inr a.2))
noncomputable def qmn (b : List qj) (a : Int × List Int) : Option ((Int × List Int) ⊕ (List Int)):=
  cond (decide (a.1 < (b.length : Int))) ((idx b a.1).bind fun c=>(idx b a.1).bind fun d=>(app 8 a.2 [c.Lo,d.Hi]).bind fun f=>some (.inl (w64 (a.1 + 1),f))) (some (.inr a.2))
noncomputable def qgr (a : List qj) (b : List qj) : Option (List Int):=
  (loop (q9m a) (0,[])).bind fun c=>(loop (qmn b) (0,c)).bind fun d=>(Ub d).bind fun f=>some f
noncomputable def q9n (b : List qj) (c : Int) (a : Int) : Option ((Int) ⊕ ((Unit) ⊕ (Bool))):=
  cond (decide (a < (b.length : Int))) ((idx b a).bind fun d=>(cond (decide (d.Lo≤c)) ((idx b a).bind fun f=>some (decide (c < f.Hi))) (some false)).bind fun g=>cond g (some (.inr (.inr true))) (some (.inl (w64 (a + 1))))) (some (.inr (.inl ())))
noncomputable def qcq (a : List qj) (b : Int) : Option Bool:=
  (loop (q9n a b) 0 : Option ((Unit) ⊕ (Bool))).bind fun c=>(match c with | .inl _=>some false | .inr d=>some d)
noncomputable def q9o (b : List Int) (c : List qj) (d : List qj) (f : Int) (a : Int × List Bool) : Option ((Int × List Bool) ⊕ (List Bool)):=
  cond (decide (a.1 < (b.length : Int))) ((idx b a.1).bind fun g=>(qcq c g).bind fun h=>(idx b a.1).bind fun j=>(qcq d j).bind fun k=>(q6j f h k).bind fun l=>(app 1 a.2 [l]).bind fun m=>some (.inl (w64 (a.1 + 1),m))) (some (.inr a.2))
noncomputable def qcr (d : Int) (a : List qj) (b : List qj) : Option (List qj):=
  (qgr a b).bind fun c=>(loop (q9o c a b d) (0,[])).bind fun f=>(q46 c f).bind fun g=>some g
noncomputable def qb2 (b : List qj) (a : Int × Int) : Option ((Int × Int) ⊕ (Int)):=
  cond (decide (a.2 < (b.length : Int))) ((idx b a.2).bind fun c=>some (.inl (w64 (a.1 + (w64 (c.Hi - c.Lo))),w64 (a.2 + 1)))) (some (.inr a.1))
noncomputable def qon (a : List qj) : Option (Int × Int):=
  (q3o a).bind fun b=>cond (b != 0) (some (0,b)) ((loop (qb2 a) (0,0)).bind fun c=>some (c,0))
noncomputable def q9p (b : List qj) (a : Int × Int) : Option ((Int × Int) ⊕ (Int)):=
  cond (decide (a.2 < (b.length : Int))) ((idx b a.2).bind fun c=>(idx b a.2).bind fun d=>some (.inl (w64 ((w64 (a.1 + c.Hi)) - d.Lo),w64 (a.2 + 1)))) (some (.inr a.1))
noncomputable def qmp (a : List qj) : Option (Int × Int):=
  (qcp a).bind fun b=>cond (b != 0) ((qcp a).bind fun c=>some (0,c)) ((loop (q9p a) (0,0)).bind fun d=>some (d,0))
structure q149 where
  t_ : Int
  at_ : Q6
  flat_ : Q6
  deriving DecidableEq
end Go.Sh
