/- PX -/
import Derived.Test.YtjjmcdlnadkjbaaGreatK7
namespace Go.Sh
open Go Go.Am
structure qk where
  X : Int
  Y : Int
  Z : Int
  deriving DecidableEq
structure q8 where
  Lo : qk
  Hi : qk
  deriving DecidableEq
def qf (x : q8) : List DV:=[.int .i64 x.Lo.X,.int .i64 x.Lo.Y,.int .i64 x.Lo.Z,.int .i64 x.Hi.X,.int .i64 x.Hi.Y,.int .i64 x.Hi.Z]
noncomputable def qdx (a : List q8) : Option Bool:=
  (cond (decide ((a.length : Int) > 30)) (some (decide ((a.length : Int)≤400))) (some false)).bind fun b=>(cond b (some true) (some (decide ((a.length : Int) > 420)))).bind fun c=>some c
noncomputable def qh2 (a : List q8) : Option (List q8):=
  (app 48 [] a).bind fun b=>some b
noncomputable def q22 (b : List q8) (c : q8→Option Bool) (a : Int) : Option ((Int) ⊕ ((Unit) ⊕ (Int))):=
  cond (decide (a < (b.length : Int))) ((idx b a).bind fun d=>(c d).bind fun f=>cond f (some (.inr (.inr a))) (some (.inl (w64 (a + 1))))) (some (.inr (.inl ())))
noncomputable def q5s (a : List q8) (b : q8→Option Bool) : Option Int:=
  (loop (q22 a b) 0 : Option ((Unit) ⊕ (Int))).bind fun c=>(match c with | .inl _=>some (-1) | .inr d=>some d)
noncomputable def q46 (a : List q8) (b : q8→Option Bool) : Option Bool:=
  (q5s a b).bind fun c=>some (decide (c ≥ 0))
noncomputable def qd1 (a : qk) : Option Bool:=
  (cond (decide ((min (min a.X a.Y) a.Z) ≥ (-1000000))) (some (decide ((max (max a.X a.Y) a.Z)≤1000000))) (some false)).bind fun b=>some b
noncomputable def qbn (a : q8) : Option Bool:=
  (cond (decide (a.Lo.X < a.Hi.X)) (some (decide (a.Lo.Y < a.Hi.Y))) (some false)).bind fun b=>(cond b (some (decide (a.Lo.Z < a.Hi.Z))) (some false)).bind fun c=>(cond c ((qd1 a.Lo).bind fun d=>some d) (some false)).bind fun f=>(cond f ((qd1 a.Hi).bind fun g=>some g) (some false)).bind fun h=>some h
noncomputable def q80 (a : q8) : Option Bool:=
  (qbn a).bind fun b=>some (!b)
def qy (x : List q8) : List DV:=[.sl 6 (x.map qf)]
def q9c : ByteArray:=⟨#[0,1,2,2,3,3,3,3,4,4,4,4,4,4,4,4,5,5,5,5,5,5,5,5,5,5,5,5,5,5,5,5,6,6,6,6,6,6,6,6,6,6,6,6,6,6,6,6,6,6,6,6,6,6,6,6,6,6,6,6,6,6,6,6,7,7,7,7,7,7,7,7,7,7,7,7,7,7,7,7,7,7,7,7,7,7,7,7,7,7,7,7,7,7,7,7,7,7,7,7,7,7,7,7,7,7,7,7,7,7,7,7,7,7,7,7,7,7,7,7,7,7,7,7,7,7,7,7,8,8,8,8,8,8,8,8,8,8,8,8,8,8,8,8,8,8,8,8,8,8,8,8,8,8,8,8,8,8,8,8,8,8,8,8,8,8,8,8,8,8,8,8,8,8,8,8,8,8,8,8,8,8,8,8,8,8,8,8,8,8,8,8,8,8,8,8,8,8,8,8,8,8,8,8,8,8,8,8,8,8,8,8,8,8,8,8,8,8,8,8,8,8,8,8,8,8,8,8,8,8,8,8,8,8,8,8,8,8,8,8,8,8,8,8,8,8,8,8,8,8,8,8,8,8,8,8]⟩
noncomputable def q6i (c : Int) : Option Int:=
  (cond (decide (c ≥ 4294967296)) (some (Int.fdiv c (2 ^ 32),32)) (some (c,0))).bind fun a=>(cond (decide (a.1 ≥ 65536)) (some (Int.fdiv a.1 (2 ^ 16),w64 (a.2 + 16))) (some (a.1,a.2))).bind fun b=>(cond (decide (b.1 ≥ 256)) (some (Int.fdiv b.1 (2 ^ 8),w64 (b.2 + 8))) (some (b.1,b.2))).bind fun d=>(qha q9c (IntKind.wrap .u8 d.1)).bind fun f=>some (w64 (d.2 + (w64 f)))
noncomputable def q68 (a : Int) : Option Int:=
  (q6i a).bind fun b=>some b
noncomputable def qb6 (a : Int) : Option Bool:=
  some (a != a)
noncomputable def q3g (a : Int) (b : Int) : Option Bool:=
  (qb6 a).bind fun c=>(cond c ((qb6 b).bind fun d=>some (!d)) (some false)).bind fun f=>(cond f (some true) (some (decide (a < b)))).bind fun g=>some g
noncomputable def q2e (c : Int) (a : Int × List Int) : Option ((Int × List Int) ⊕ (List Int)):=
  (cond (decide (a.1 > c)) ((idx a.2 a.1).bind fun d=>(idx a.2 (w64 (a.1 - 1))).bind fun f=>(q3g d f).bind fun g=>some g) (some false)).bind fun h=>cond h ((idx a.2 (w64 (a.1 - 1))).bind fun b=>(idx a.2 a.1).bind fun j=>(idx a.2 a.1).bind fun _=>(idx (a.2.set a.1.toNat b) (w64 (a.1 - 1))).bind fun _=>some (.inl (w64 (a.1 - 1),(a.2.set a.1.toNat b).set (w64 (a.1 - 1)).toNat j))) (some (.inr a.2))
noncomputable def q2d (b : Int) (c : Int) (a : Int × List Int) : Option ((Int × List Int) ⊕ (List Int)):=
  cond (decide (a.1 < b)) (((loop (q2e c) (a.1,a.2)).bind fun d=>some d).bind fun f=>some (.inl (w64 (a.1 + 1),f))) (some (.inr a.2))
noncomputable def q2z (b : List Int) (a : Int) (c : Int) : Option (List Int):=
  (loop (q2d c a) (w64 (a + 1),b)).bind fun d=>some d
noncomputable def q3v (d : Int) (b : Int) (a : Int × List Int) : Option ((Int × List Int) ⊕ (List Int)):=
  cond (decide ((w64 ((w64 (2 * a.1)) + 1)) ≥ d)) (some (.inr a.2)) ((cond (decide ((w64 ((w64 ((w64 (2 * a.1)) + 1)) + 1)) < d)) ((idx a.2 (w64 (b + (w64 ((w64 (2 * a.1)) + 1))))).bind fun g=>(idx a.2 (w64 ((w64 (b + (w64 ((w64 (2 * a.1)) + 1)))) + 1))).bind fun h=>(q3g g h).bind fun j=>some j) (some false)).bind fun k=>(cond k (some (w64 ((w64 ((w64 (2 * a.1)) + 1)) + 1))) (some (w64 ((w64 (2 * a.1)) + 1)))).bind fun c=>(idx a.2 (w64 (b + a.1))).bind fun l=>(idx a.2 (w64 (b + c))).bind fun m=>(q3g l m).bind fun n=>cond (!n) (some (.inr a.2)) ((idx a.2 (w64 (b + c))).bind fun f=>(idx a.2 (w64 (b + a.1))).bind fun o=>(idx a.2 (w64 (b + a.1))).bind fun _=>(idx (a.2.set (w64 (b + a.1)).toNat f) (w64 (b + c))).bind fun _=>some (.inl (c,(a.2.set (w64 (b + a.1)).toNat f).set (w64 (b + c)).toNat o))))
noncomputable def q35 (a : List Int) (b : Int) (c : Int) (d : Int) : Option (List Int):=
  (loop (q3v c d) (b,a)).bind fun f=>some f
noncomputable def q3s (d : Int) (b : Int) (a : Int × List Int) : Option ((Int × List Int) ⊕ (List Int)):=
  cond (decide (a.1 ≥ 0)) ((q35 a.2 a.1 (w64 (d - b)) b).bind fun c=>(q1d c.length a.2.length).bind fun _=>some (.inl (w64 (a.1 - 1),c))) (some (.inr a.2))
noncomputable def q3t (b : Int) (a : Int × List Int) : Option ((Int × List Int) ⊕ (List Int)):=
  cond (decide (a.1 ≥ 0)) ((idx a.2 (w64 (b + a.1))).bind fun c=>(idx a.2 b).bind fun d=>(idx a.2 b).bind fun _=>(idx (a.2.set b.toNat c) (w64 (b + a.1))).bind fun _=>(q35 ((a.2.set b.toNat c).set (w64 (b + a.1)).toNat d) 0 a.1 b).bind fun f=>(q1d f.length ((a.2.set b.toNat c).set (w64 (b + a.1)).toNat d).length).bind fun _=>some (.inl (w64 (a.1 - 1),f))) (some (.inr a.2))
noncomputable def q4k (c : List Int) (a : Int) (b : Int) : Option (List Int):=
  (loop (q3s b a) (w64 (Int.tdiv (w64 ((w64 (b - a)) - 1)) 2),c)).bind fun d=>(loop (q3t a) (w64 ((w64 (b - a)) - 1),d)).bind fun f=>some f
noncomputable def q2u (c : List Int) (a : Int) (b : Int) (d : Int) : Option (Int × Int × Int):=
  (idx c b).bind fun f=>(idx c a).bind fun g=>(q3g f g).bind fun h=>cond h (some (b,a,w64 (d + 1))) (some (a,b,d))
noncomputable def q44 (a : List Int) (f : Int) (g : Int) (h : Int) (j : Int) : Option (Int × Int):=
  (q2u a f g j).bind fun b=>(q2u a b.2.1 h b.2.2).bind fun c=>(q2u a b.1 c.1 c.2.2).bind fun d=>some (d.2.1,d.2.2)
noncomputable def q1l (c : List Int) (a : Int) (d : Int) : Option (Int × Int):=
  (q44 c (w64 (a - 1)) a (w64 (a + 1)) d).bind fun b=>some (b.1,b.2)
noncomputable def q4j (d : List Int) (a : Int) (b : Int) : Option (Int × Int):=
  (cond (decide ((w64 (b - a)) ≥ 8)) ((cond (decide ((w64 (b - a)) ≥ 50)) ((q1l d (w64 (a + (w64 ((w64 (Int.tdiv (w64 (b - a)) 4)) * 1)))) 0).bind fun g=>(q1l d (w64 (a + (w64 ((w64 (Int.tdiv (w64 (b - a)) 4)) * 2)))) g.2).bind fun h=>(q1l d (w64 (a + (w64 ((w64 (Int.tdiv (w64 (b - a)) 4)) * 3)))) h.2).bind fun j=>some (g.1,h.1,j.1,j.2)) (some (w64 (a + (w64 ((w64 (Int.tdiv (w64 (b - a)) 4)) * 1))),w64 (a + (w64 ((w64 (Int.tdiv (w64 (b - a)) 4)) * 2))),w64 (a + (w64 ((w64 (Int.tdiv (w64 (b - a)) 4)) * 3))),0))).bind fun f=>(q44 d f.1 f.2.1 f.2.2.1 f.2.2.2).bind fun k=>some (k.1,k.2)) (some (w64 (a + (w64 ((w64 (Int.tdiv (w64 (b - a)) 4)) * 2))),0))).bind fun c=>cond (c.2 == 0) (some (c.1,1)) (cond (c.2 == 12) (some (c.1,2)) (some (c.1,0)))
noncomputable def q45 (a : Int × Int × List Int) : Option ((Int × Int × List Int) ⊕ (List Int)):=
  cond (decide (a.1 < a.2.1)) ((idx a.2.2 a.2.1).bind fun b=>(idx a.2.2 a.1).bind fun c=>(idx a.2.2 a.1).bind fun _=>(idx (a.2.2.set a.1.toNat b) a.2.1).bind fun _=>some (.inl (w64 (a.1 + 1),w64 (a.2.1 - 1),(a.2.2.set a.1.toNat b).set a.2.1.toNat c))) (some (.inr a.2.2))
noncomputable def q3d (a : List Int) (b : Int) (c : Int) : Option (List Int):=
  (loop q45 (b,w64 (c - 1),a)).bind fun d=>some d
noncomputable def q1n (c : Int) (b : Int × Int × List Int) (a : Int) : Option ((Int) ⊕ (Int)):=
  (cond (decide (a < c)) ((idx b.2.2 a).bind fun d=>(idx b.2.2 (w64 (a - 1))).bind fun f=>(q3g d f).bind fun g=>some (!g)) (some false)).bind fun h=>cond h (some (.inl (w64 (a + 1)))) (some (.inr a))
noncomputable def q2b (a : Int × List Int) : Option ((Int × List Int) ⊕ (List Int)):=
  cond (decide (a.1 ≥ 1)) ((idx a.2 a.1).bind fun c=>(idx a.2 (w64 (a.1 - 1))).bind fun d=>(q3g c d).bind fun f=>cond (!f) (some (.inr a.2)) ((idx a.2 (w64 (a.1 - 1))).bind fun b=>(idx a.2 a.1).bind fun g=>(idx a.2 a.1).bind fun _=>(idx (a.2.set a.1.toNat b) (w64 (a.1 - 1))).bind fun _=>some (.inl (w64 (a.1 - 1),(a.2.set a.1.toNat b).set (w64 (a.1 - 1)).toNat g)))) (some (.inr a.2))
noncomputable def q1o (d : Int) (b : Int) (a : Int × List Int) : Option ((Int × List Int) ⊕ (Int × List Int)):=
  cond (decide (a.1 < d)) ((idx a.2 a.1).bind fun f=>(idx a.2 (w64 (a.1 - 1))).bind fun g=>(q3g f g).bind fun h=>cond (!h) (some (.inr (b,a.2))) ((idx a.2 (w64 (a.1 - 1))).bind fun c=>(idx a.2 a.1).bind fun j=>(idx a.2 a.1).bind fun _=>(idx (a.2.set a.1.toNat c) (w64 (a.1 - 1))).bind fun _=>some (.inl (w64 (a.1 + 1),(a.2.set a.1.toNat c).set (w64 (a.1 - 1)).toNat j)))) (some (.inr (b,a.2)))
noncomputable def q17 (c : Int) (g : Int) (b : Int × Int × List Int) : Option ((Int × Int × List Int) ⊕ ((List Int) ⊕ (Bool × List Int))):=
  cond (decide (b.2.1 < 5)) (((loop (q1n c b) b.1).bind fun a=>cond (a == c) (some (.inr (true,b.2.2))) (cond (decide ((w64 (c - g)) < 50)) (some (.inr (false,b.2.2))) ((idx b.2.2 (w64 (a - 1))).bind fun d=>(idx b.2.2 a).bind fun h=>(idx b.2.2 a).bind fun _=>(idx (b.2.2.set a.toNat d) (w64 (a - 1))).bind fun _=>(cond (decide ((w64 (a - g)) ≥ 2)) ((loop q2b (w64 (a - 1),(b.2.2.set a.toNat d).set (w64 (a - 1)).toNat h)).bind fun f=>some f) (some ((b.2.2.set a.toNat d).set (w64 (a - 1)).toNat h))).bind fun j=>cond (decide ((w64 (c - a)) ≥ 2)) ((loop (q1o c a) (w64 (a + 1),j)).bind fun f=>some (.inl f)) (some (.inl (a,j))))) : Option ((Int × List Int) ⊕ (Bool × List Int))).bind fun l=>(match l with | .inl k=>some (.inl (k.1,w64 (b.2.1 + 1),k.2)) | .inr m=>some (.inr (.inr m)))) (some (.inr (.inl b.2.2)))
noncomputable def q1e (b : List Int) (a : Int) (c : Int) : Option (Bool × List Int):=
  (loop (q17 c a) (w64 (a + 1),0,b) : Option ((List Int) ⊕ (Bool × List Int))).bind fun d=>(match d with | .inl f=>some (false,f) | .inr g=>some g)
noncomputable def q28 (b : Int × Int × List Int) (c : Int) (a : Int) : Option ((Int) ⊕ (Int)):=
  (cond (decide (a≤b.2.1)) ((idx b.2.2 c).bind fun d=>(idx b.2.2 a).bind fun f=>(q3g d f).bind fun g=>some (!g)) (some false)).bind fun h=>cond h (some (.inl (w64 (a + 1)))) (some (.inr a))
noncomputable def q29 (c : Int) (b : Int × Int × List Int) (d : Int) (a : Int) : Option ((Int) ⊕ (Int)):=
  (cond (decide (c≤a)) ((idx b.2.2 d).bind fun f=>(idx b.2.2 a).bind fun g=>(q3g f g).bind fun h=>some h) (some false)).bind fun j=>cond j (some (.inl (w64 (a - 1)))) (some (.inr a))
noncomputable def q27 (d : Int) (a : Int × Int × List Int) : Option ((Int × Int × List Int) ⊕ (Int × List Int)):=
  (loop (q28 a d) a.1).bind fun b=>(loop (q29 b a d) a.2.1).bind fun c=>cond (decide (b > c)) (some (.inr (b,a.2.2))) ((idx a.2.2 c).bind fun f=>(idx a.2.2 b).bind fun g=>(idx a.2.2 b).bind fun _=>(idx (a.2.2.set b.toNat f) c).bind fun _=>some (.inl (w64 (b + 1),w64 (c - 1),(a.2.2.set b.toNat f).set c.toNat g)))
noncomputable def q2s (b : List Int) (a : Int) (g : Int) (c : Int) : Option (Int × List Int):=
  (idx b c).bind fun d=>(idx b a).bind fun h=>(idx b a).bind fun _=>(idx (b.set a.toNat d) c).bind fun _=>(loop (q27 a) (w64 (a + 1),w64 (g - 1),(b.set a.toNat d).set c.toNat h)).bind fun f=>some (f.1,f.2)
noncomputable def q37 (h : Int) (c : List Int) (b : Int) (d : Int) (f : Int) (g : Int) (a : Int) : Option ((Int) ⊕ (Int)):=
  (cond (decide (a≤(w64 (h - 1)))) ((idx ((c.set b.toNat d).set f.toNat g) a).bind fun j=>(idx ((c.set b.toNat d).set f.toNat g) b).bind fun k=>(q3g j k).bind fun l=>some l) (some false)).bind fun m=>cond m (some (.inl (w64 (a + 1)))) (some (.inr a))
noncomputable def q38 (h : Int) (c : List Int) (b : Int) (d : Int) (f : Int) (g : Int) (a : Int) : Option ((Int) ⊕ (Int)):=
  (cond (decide (h≤a)) ((idx ((c.set b.toNat d).set f.toNat g) a).bind fun j=>(idx ((c.set b.toNat d).set f.toNat g) b).bind fun k=>(q3g j k).bind fun l=>some (!l)) (some false)).bind fun m=>cond m (some (.inl (w64 (a - 1)))) (some (.inr a))
noncomputable def q3a (b : Int × Int × List Int) (c : Int) (a : Int) : Option ((Int) ⊕ (Int)):=
  (cond (decide (a≤b.2.1)) ((idx b.2.2 a).bind fun d=>(idx b.2.2 c).bind fun f=>(q3g d f).bind fun g=>some g) (some false)).bind fun h=>cond h (some (.inl (w64 (a + 1)))) (some (.inr a))
noncomputable def q3b (c : Int) (b : Int × Int × List Int) (d : Int) (a : Int) : Option ((Int) ⊕ (Int)):=
  (cond (decide (c≤a)) ((idx b.2.2 a).bind fun f=>(idx b.2.2 d).bind fun g=>(q3g f g).bind fun h=>some (!h)) (some false)).bind fun j=>cond j (some (.inl (w64 (a - 1)))) (some (.inr a))
noncomputable def q39 (d : Int) (a : Int × Int × List Int) : Option ((Int × Int × List Int) ⊕ (Int × List Int)):=
  (loop (q3a a d) a.1).bind fun b=>(loop (q3b b a d) a.2.1).bind fun c=>cond (decide (b > c)) (some (.inr (c,a.2.2))) ((idx a.2.2 c).bind fun f=>(idx a.2.2 b).bind fun g=>(idx a.2.2 b).bind fun _=>(idx (a.2.2.set b.toNat f) c).bind fun _=>some (.inl (w64 (b + 1),w64 (c - 1),(a.2.2.set b.toNat f).set c.toNat g)))
noncomputable def q49 (b : List Int) (a : Int) (k : Int) (c : Int) : Option (Int × Bool × List Int):=
  (idx b c).bind fun d=>(idx b a).bind fun f=>(idx b a).bind fun _=>(idx (b.set a.toNat d) c).bind fun _=>(loop (q37 k b a d c f) (w64 (a + 1))).bind fun j=>(loop (q38 j b a d c f) (w64 (k - 1))).bind fun g=>cond (decide (j > g)) ((idx ((b.set a.toNat d).set c.toNat f) a).bind fun l=>(idx ((b.set a.toNat d).set c.toNat f) g).bind fun o=>(idx ((b.set a.toNat d).set c.toNat f) g).bind fun _=>(idx (((b.set a.toNat d).set c.toNat f).set g.toNat l) a).bind fun _=>some (g,true,(((b.set a.toNat d).set c.toNat f).set g.toNat l).set a.toNat o)) ((idx ((b.set a.toNat d).set c.toNat f) g).bind fun m=>(idx ((b.set a.toNat d).set c.toNat f) j).bind fun p=>(idx ((b.set a.toNat d).set c.toNat f) j).bind fun _=>(idx (((b.set a.toNat d).set c.toNat f).set j.toNat m) g).bind fun _=>(loop (q39 a) (w64 (j + 1),w64 (g - 1),(((b.set a.toNat d).set c.toNat f).set j.toNat m).set g.toNat p)).bind fun h=>(idx h.2 a).bind fun n=>(idx h.2 h.1).bind fun q=>(idx h.2 h.1).bind fun _=>(idx (h.2.set h.1.toNat n) a).bind fun _=>some (h.1,false,(h.2.set h.1.toNat n).set a.toNat q))
noncomputable def q47 (a : Int) : Option Int:=
  (q68 (IntKind.wrap .u64 a)).bind fun b=>(shlK .u64 1 b).bind fun c=>some c
noncomputable def q3f (a : Int) : Option Int:=
  some (xorI .u64 (xorI .u64 (xorI .u64 a (IntKind.wrap .u64 (a * (2 ^ 13)))) (Int.fdiv (xorI .u64 a (IntKind.wrap .u64 (a * (2 ^ 13)))) (2 ^ 7))) (IntKind.wrap .u64 ((xorI .u64 (xorI .u64 a (IntKind.wrap .u64 (a * (2 ^ 13)))) (Int.fdiv (xorI .u64 a (IntKind.wrap .u64 (a * (2 ^ 13)))) (2 ^ 7))) * (2 ^ 17))))
noncomputable def q2c (b : Int) (d : Int) (f : Int) (a : Int × List Int × Int) : Option ((Int × List Int × Int) ⊕ (List Int)):=
  cond (decide (a.1≤(w64 ((w64 (b + (w64 ((w64 (Int.tdiv (w64 (d - b)) 4)) * 2)))) + 1)))) ((q3f a.2.2).bind fun c=>(cond (decide ((w64 (andI .u64 c (IntKind.wrap .u64 (f - 1)))) ≥ (w64 (d - b)))) (some (w64 ((w64 (andI .u64 c (IntKind.wrap .u64 (f - 1)))) - (w64 (d - b))))) (some (w64 (andI .u64 c (IntKind.wrap .u64 (f - 1)))))).bind fun g=>(idx a.2.1 (w64 (b + g))).bind fun h=>(idx a.2.1 a.1).bind fun j=>(idx a.2.1 a.1).bind fun _=>(idx (a.2.1.set a.1.toNat h) (w64 (b + g))).bind fun _=>some (.inl (w64 (a.1 + 1),(a.2.1.set a.1.toNat h).set (w64 (b + g)).toNat j,c))) (some (.inr a.2.1))
noncomputable def q2y (c : List Int) (a : Int) (b : Int) : Option (List Int):=
  cond (decide ((w64 (b - a)) ≥ 8)) ((q47 (w64 (b - a))).bind fun d=>(loop (q2c a b d) (w64 ((w64 (a + (w64 ((w64 (Int.tdiv (w64 (b - a)) 4)) * 2)))) - 1),c,IntKind.wrap .u64 (w64 (b - a)))).bind fun f=>some f) (some c)
noncomputable def q2q (rec : List Int→Int→Int→Int→Option (List Int)) (a : Int × Int × Int × Bool × Bool × List Int) : Option ((Int × Int × Int × Bool × Bool × List Int) ⊕ (List Int)):=
  cond (decide ((w64 (a.2.1 - a.1))≤12)) ((q2z a.2.2.2.2.2 a.1 a.2.1).bind fun k=>(q1d k.length a.2.2.2.2.2.length).bind fun _=>some (.inr k)) (cond (a.2.2.1 == 0) ((q4k a.2.2.2.2.2 a.1 a.2.1).bind fun l=>(q1d l.length a.2.2.2.2.2.length).bind fun _=>some (.inr l)) ((cond (!a.2.2.2.1) ((q2y a.2.2.2.2.2 a.1 a.2.1).bind fun m=>(q1d m.length a.2.2.2.2.2.length).bind fun _=>some (w64 (a.2.2.1 - 1),m)) (some (a.2.2.1,a.2.2.2.2.2))).bind fun c=>(q4j c.2 a.1 a.2.1).bind fun g=>(cond (g.2 == 2) ((q3d c.2 a.1 a.2.1).bind fun n=>(q1d n.length c.2.length).bind fun _=>some (w64 ((w64 (a.2.1 - 1)) - (w64 (g.1 - a.1))),1,n)) (some (g.1,g.2,c.2))).bind fun d=>(cond a.2.2.2.1 (some a.2.2.2.2.1) (some false)).bind fun q=>(cond q (some (d.2.1 == 1)) (some false)).bind fun r=>(cond r ((q1e d.2.2 a.1 a.2.1).bind fun h=>(q1d h.2.length d.2.2.length).bind fun _=>cond h.1 (some (.inr h.2)) (some (.inl h.2))) (some (.inl d.2.2)) : Option ((List Int) ⊕ (List Int))).bind fun s=>(match s with | .inl f=>(cond (decide (a.1 > 0)) ((idx f (w64 (a.1 - 1))).bind fun t=>(idx f d.1).bind fun u=>(q3g t u).bind fun v=>some (!v)) (some false)).bind fun w=>cond w ((q2s f a.1 a.2.1 d.1).bind fun j=>(q1d j.2.length f.length).bind fun _=>some (.inl (j.1,a.2.1,c.1,a.2.2.2.1,a.2.2.2.2.1,j.2))) ((q49 f a.1 a.2.1 d.1).bind fun b=>(q1d b.2.2.length f.length).bind fun _=>cond (decide ((w64 (b.1 - a.1)) < (w64 (a.2.1 - b.1)))) ((rec b.2.2 a.1 b.1 c.1).bind fun o=>(q1d o.length b.2.2.length).bind fun _=>some (.inl (w64 (b.1 + 1),a.2.1,c.1,decide ((w64 (b.1 - a.1)) ≥ (w64 (Int.tdiv (w64 (a.2.1 - a.1)) 8))),b.2.1,o))) ((rec b.2.2 (w64 (b.1 + 1)) a.2.1 c.1).bind fun p=>(q1d p.length b.2.2.length).bind fun _=>some (.inl (a.1,b.1,c.1,decide ((w64 (a.2.1 - b.1)) ≥ (w64 (Int.tdiv (w64 (a.2.1 - a.1)) 8))),b.2.1,p)))) | .inr x=>some (.inr x))))
noncomputable def q2x (rec : List Int→Int→Int→Int→Option (List Int)) (a : List Int) (b : Int) (c : Int) (d : Int) : Option (List Int):=
  (loop (q2q rec) (b,c,d,true,true,a)).bind fun f=>some f
noncomputable def q4p : Nat→List Int→Int→Int→Int→Option (List Int)
  | 0,_,_,_,_=>none
  | n + 1,a,b,c,d=>q2x (q4p n)  a b c d
noncomputable def q2v (a : List Int) : Option (List Int):=
  (q68 (IntKind.wrap .u64 (a.length : Int))).bind fun c=>(lim (fun n=>q4p n a 0 (a.length : Int) c)).bind fun b=>(q1d b.length a.length).bind fun _=>some b
noncomputable def q21 (a : Int × (Nat × Nat) × Int × List Int) : Option ((Int × (Nat × Nat) × Int × List Int) ⊕ (Int × List Int)):=
  cond (decide (a.2.2.1 < (a.2.1.2 : Int))) (((idxW a.2.2.2 a.2.1 a.2.2.1).bind fun c=>(idxW a.2.2.2 a.2.1 (w64 (a.2.2.1 - 1))).bind fun d=>cond (c != d) ((idxW a.2.2.2 a.2.1 a.2.2.1).bind fun f=>(idx a.2.2.2 a.1).bind fun _=>some (w64 (a.1 + 1),a.2.1,a.2.2.2.set a.1.toNat f)) (some (a.1,a.2.1,a.2.2.2))).bind fun b=>some (.inl (b.1,b.2.1,w64 (a.2.2.1 + 1),b.2.2))) (some (.inr (a.1,a.2.2.2)))
noncomputable def q14 (a : List Int) (b : Int) : Option ((Int) ⊕ ((Unit) ⊕ ((Nat × Nat) × List Int))):=
  cond (decide (b < (a.length : Int))) ((idx a b).bind fun d=>(idx a (w64 (b - 1))).bind fun f=>cond (d == f) ((sub2 a.length b a.length).bind fun g=>(loop q21 (b,g,1,a)).bind fun c=>(sub2 c.2.length c.1 c.2.length).bind fun h=>(sub2 c.2.length 0 c.1).bind fun j=>some (.inr (.inr (j,clrw c.2 h 0)))) (some (.inl (w64 (b + 1))))) (some (.inr (.inl ())))
noncomputable def q3o (a : List Int) : Option ((Nat × Nat) × List Int):=
  cond (decide ((a.length : Int) < 2)) (some ((0,a.length),a)) ((loop (q14 a) 1 : Option ((Unit) ⊕ ((Nat × Nat) × List Int))).bind fun b=>(match b with | .inl _=>some ((0,a.length),a) | .inr c=>some c))
structure qb where
  X0 : Int
  Y0 : Int
  X1 : Int
  Y1 : Int
  deriving DecidableEq
def qd (x : qb) : List DV:=[.int .i64 x.X0,.int .i64 x.Y0,.int .i64 x.X1,.int .i64 x.Y1]
noncomputable def q1u (b : List qb) (c : qb→Option Bool) (a : Int) : Option ((Int) ⊕ ((Unit) ⊕ (Int))):=
  cond (decide (a < (b.length : Int))) ((idx b a).bind fun d=>(c d).bind fun f=>cond f (some (.inr (.inr a))) (some (.inl (w64 (a + 1))))) (some (.inr (.inl ())))
noncomputable def q5a (a : List qb) (b : qb→Option Bool) : Option Int:=
  (loop (q1u a b) 0 : Option ((Unit) ⊕ (Int))).bind fun c=>(match c with | .inl _=>some (-1) | .inr d=>some d)
noncomputable def q3w (a : List qb) (b : qb→Option Bool) : Option Bool:=
  (q5a a b).bind fun c=>some (decide (c ≥ 0))
noncomputable def q8q (a : Int) : Option Bool:=
  (cond (decide (a ≥ (-1000000))) (some (decide (a≤1000000))) (some false)).bind fun b=>some b
noncomputable def qal (a : qb) : Option Bool:=
  (cond (decide (a.X0 < a.X1)) (some (decide (a.Y0 < a.Y1))) (some false)).bind fun b=>(cond b ((q8q a.X0).bind fun c=>some c) (some false)).bind fun d=>(cond d ((q8q a.X1).bind fun f=>some f) (some false)).bind fun g=>(cond g ((q8q a.Y0).bind fun h=>some h) (some false)).bind fun j=>(cond j ((q8q a.Y1).bind fun k=>some k) (some false)).bind fun l=>some l
noncomputable def q7m (a : qb) : Option Bool:=
  (qal a).bind fun b=>some (!b)
def q1r (x : List qb) : List DV:=[.sl 4 (x.map qd)]
structure qe where
  Lo : Int
  Hi : Int
  deriving DecidableEq
def qo (x : qe) : List DV:=[.int .i64 x.Lo,.int .i64 x.Hi]
noncomputable def q1c (b : List qe) (c : qe→Option Bool) (a : Int) : Option ((Int) ⊕ ((Unit) ⊕ (Int))):=
  cond (decide (a < (b.length : Int))) ((idx b a).bind fun d=>(c d).bind fun f=>cond f (some (.inr (.inr a))) (some (.inl (w64 (a + 1))))) (some (.inr (.inl ())))
noncomputable def q4g (a : List qe) (b : qe→Option Bool) : Option Int:=
  (loop (q1c a b) 0 : Option ((Unit) ⊕ (Int))).bind fun c=>(match c with | .inl _=>some (-1) | .inr d=>some d)
noncomputable def q3x (a : List qe) (b : qe→Option Bool) : Option Bool:=
  (q4g a b).bind fun c=>some (decide (c ≥ 0))
noncomputable def q9x (a : qe) : Option Bool:=
  (cond (decide (a.Lo < a.Hi)) (some (decide (a.Lo ≥ (-1000000)))) (some false)).bind fun b=>(cond b (some (decide (a.Hi≤1000000))) (some false)).bind fun c=>some c
noncomputable def qfk (a : qe) : Option Bool:=
  (q9x a).bind fun b=>some (!b)
def q42 (x : List qe) : List DV:=[.sl 2 (x.map qo)]
structure qc where
  at_ : Int
  list_ : Int
  by_ : Int
  deriving DecidableEq
def qj (x : qc) : List DV:=[.int .i64 x.at_,.int .i64 x.list_,.int .i64 x.by_]
noncomputable def qdg (a : qc) (b : qc) : Option Int:=
  some (w64 (a.at_ - b.at_))
noncomputable def q2n (c : Int) (d : qc→qc→Option Int) (a : Int × List qc) : Option ((Int × List qc) ⊕ (List qc)):=
  (cond (decide (a.1 > c)) ((idx a.2 a.1).bind fun f=>(idx a.2 (w64 (a.1 - 1))).bind fun g=>(d f g).bind fun h=>some (decide (h < 0))) (some false)).bind fun j=>cond j ((idx a.2 (w64 (a.1 - 1))).bind fun b=>(idx a.2 a.1).bind fun k=>(idx a.2 a.1).bind fun _=>(idx (a.2.set a.1.toNat b) (w64 (a.1 - 1))).bind fun _=>some (.inl (w64 (a.1 - 1),(a.2.set a.1.toNat b).set (w64 (a.1 - 1)).toNat k))) (some (.inr a.2))
noncomputable def q2m (b : Int) (c : Int) (d : qc→qc→Option Int) (a : Int × List qc) : Option ((Int × List qc) ⊕ (List qc)):=
  cond (decide (a.1 < b)) (((loop (q2n c d) (a.1,a.2)).bind fun f=>some f).bind fun g=>some (.inl (w64 (a.1 + 1),g))) (some (.inr a.2))
noncomputable def q34 (b : qc→qc→Option Int) (c : List qc) (a : Int) (d : Int) : Option (List qc):=
  (loop (q2m d a b) (w64 (a + 1),c)).bind fun f=>some f
noncomputable def q40 (d : Int) (b : Int) (f : qc→qc→Option Int) (a : Int × List qc) : Option ((Int × List qc) ⊕ (List qc)):=
  cond (decide ((w64 ((w64 (2 * a.1)) + 1)) ≥ d)) (some (.inr a.2)) ((cond (decide ((w64 ((w64 ((w64 (2 * a.1)) + 1)) + 1)) < d)) ((idx a.2 (w64 (b + (w64 ((w64 (2 * a.1)) + 1))))).bind fun h=>(idx a.2 (w64 ((w64 (b + (w64 ((w64 (2 * a.1)) + 1)))) + 1))).bind fun j=>(f h j).bind fun k=>some (decide (k < 0))) (some false)).bind fun l=>(cond l (some (w64 ((w64 ((w64 (2 * a.1)) + 1)) + 1))) (some (w64 ((w64 (2 * a.1)) + 1)))).bind fun c=>(idx a.2 (w64 (b + a.1))).bind fun m=>(idx a.2 (w64 (b + c))).bind fun n=>(f m n).bind fun o=>cond (!(decide (o < 0))) (some (.inr a.2)) ((idx a.2 (w64 (b + c))).bind fun g=>(idx a.2 (w64 (b + a.1))).bind fun p=>(idx a.2 (w64 (b + a.1))).bind fun _=>(idx (a.2.set (w64 (b + a.1)).toNat g) (w64 (b + c))).bind fun _=>some (.inl (c,(a.2.set (w64 (b + a.1)).toNat g).set (w64 (b + c)).toNat p))))
noncomputable def q30 (a : qc→qc→Option Int) (b : List qc) (c : Int) (d : Int) (f : Int) : Option (List qc):=
  (loop (q40 d f a) (c,b)).bind fun g=>some g
noncomputable def q3y (d : qc→qc→Option Int) (f : Int) (b : Int) (a : Int × List qc) : Option ((Int × List qc) ⊕ (List qc)):=
  cond (decide (a.1 ≥ 0)) ((q30 d a.2 a.1 (w64 (f - b)) b).bind fun c=>(q1d c.length a.2.length).bind fun _=>some (.inl (w64 (a.1 - 1),c))) (some (.inr a.2))
noncomputable def q3z (b : Int) (g : qc→qc→Option Int) (a : Int × List qc) : Option ((Int × List qc) ⊕ (List qc)):=
  cond (decide (a.1 ≥ 0)) ((idx a.2 (w64 (b + a.1))).bind fun c=>(idx a.2 b).bind fun d=>(idx a.2 b).bind fun _=>(idx (a.2.set b.toNat c) (w64 (b + a.1))).bind fun _=>(q30 g ((a.2.set b.toNat c).set (w64 (b + a.1)).toNat d) 0 a.1 b).bind fun f=>(q1d f.length ((a.2.set b.toNat c).set (w64 (b + a.1)).toNat d).length).bind fun _=>some (.inl (w64 (a.1 - 1),f))) (some (.inr a.2))
noncomputable def q4i (c : qc→qc→Option Int) (d : List qc) (a : Int) (b : Int) : Option (List qc):=
  (loop (q3y c b a) (w64 (Int.tdiv (w64 ((w64 (b - a)) - 1)) 2),d)).bind fun f=>(loop (q3z a c) (w64 ((w64 (b - a)) - 1),f)).bind fun g=>some g
noncomputable def q2j (f : qc→qc→Option Int) (c : List qc) (a : Int) (b : Int) (d : Int) : Option (Int × Int × Int):=
  (idx c b).bind fun g=>(idx c a).bind fun h=>(f g h).bind fun j=>cond (decide (j < 0)) (some (b,a,w64 (d + 1))) (some (a,b,d))
noncomputable def q3u (a : qc→qc→Option Int) (b : List qc) (g : Int) (h : Int) (j : Int) (k : Int) : Option (Int × Int):=
  (q2j a b g h k).bind fun c=>(q2j a b c.2.1 j c.2.2).bind fun d=>(q2j a b c.1 d.1 d.2.2).bind fun f=>some (f.2.1,f.2.2)
noncomputable def q1i (c : qc→qc→Option Int) (d : List qc) (a : Int) (f : Int) : Option (Int × Int):=
  (q3u c d (w64 (a - 1)) a (w64 (a + 1)) f).bind fun b=>some (b.1,b.2)
noncomputable def q4h (d : List qc) (a : Int) (b : Int) (f : qc→qc→Option Int) : Option (Int × Int):=
  (cond (decide ((w64 (b - a)) ≥ 8)) ((cond (decide ((w64 (b - a)) ≥ 50)) ((q1i f d (w64 (a + (w64 ((w64 (Int.tdiv (w64 (b - a)) 4)) * 1)))) 0).bind fun h=>(q1i f d (w64 (a + (w64 ((w64 (Int.tdiv (w64 (b - a)) 4)) * 2)))) h.2).bind fun j=>(q1i f d (w64 (a + (w64 ((w64 (Int.tdiv (w64 (b - a)) 4)) * 3)))) j.2).bind fun k=>some (h.1,j.1,k.1,k.2)) (some (w64 (a + (w64 ((w64 (Int.tdiv (w64 (b - a)) 4)) * 1))),w64 (a + (w64 ((w64 (Int.tdiv (w64 (b - a)) 4)) * 2))),w64 (a + (w64 ((w64 (Int.tdiv (w64 (b - a)) 4)) * 3))),0))).bind fun g=>(q3u f d g.1 g.2.1 g.2.2.1 g.2.2.2).bind fun l=>some (l.1,l.2)) (some (w64 (a + (w64 ((w64 (Int.tdiv (w64 (b - a)) 4)) * 2))),0))).bind fun c=>cond (c.2 == 0) (some (c.1,1)) (cond (c.2 == 12) (some (c.1,2)) (some (c.1,0)))
noncomputable def q2r (a : Int × Int × List qc) : Option ((Int × Int × List qc) ⊕ (List qc)):=
  cond (decide (a.1 < a.2.1)) ((idx a.2.2 a.2.1).bind fun b=>(idx a.2.2 a.1).bind fun c=>(idx a.2.2 a.1).bind fun _=>(idx (a.2.2.set a.1.toNat b) a.2.1).bind fun _=>some (.inl (w64 (a.1 + 1),w64 (a.2.1 - 1),(a.2.2.set a.1.toNat b).set a.2.1.toNat c))) (some (.inr a.2.2))
noncomputable def q3m (f : qc→qc→Option Int) (a : List qc) (b : Int) (c : Int) : Option (List qc):=
  (loop q2r (b,w64 (c - 1),a)).bind fun d=>some d
noncomputable def q1w (c : Int) (b : Int × Int × List qc) (d : qc→qc→Option Int) (a : Int) : Option ((Int) ⊕ (Int)):=
  (cond (decide (a < c)) ((idx b.2.2 a).bind fun f=>(idx b.2.2 (w64 (a - 1))).bind fun g=>(d f g).bind fun h=>some (!(decide (h < 0)))) (some false)).bind fun j=>cond j (some (.inl (w64 (a + 1)))) (some (.inr a))
noncomputable def q1x (c : qc→qc→Option Int) (a : Int × List qc) : Option ((Int × List qc) ⊕ (List qc)):=
  cond (decide (a.1 ≥ 1)) ((idx a.2 a.1).bind fun d=>(idx a.2 (w64 (a.1 - 1))).bind fun f=>(c d f).bind fun g=>cond (!(decide (g < 0))) (some (.inr a.2)) ((idx a.2 (w64 (a.1 - 1))).bind fun b=>(idx a.2 a.1).bind fun h=>(idx a.2 a.1).bind fun _=>(idx (a.2.set a.1.toNat b) (w64 (a.1 - 1))).bind fun _=>some (.inl (w64 (a.1 - 1),(a.2.set a.1.toNat b).set (w64 (a.1 - 1)).toNat h)))) (some (.inr a.2))
noncomputable def q1y (d : Int) (f : qc→qc→Option Int) (b : Int) (a : Int × List qc) : Option ((Int × List qc) ⊕ (Int × List qc)):=
  cond (decide (a.1 < d)) ((idx a.2 a.1).bind fun g=>(idx a.2 (w64 (a.1 - 1))).bind fun h=>(f g h).bind fun j=>cond (!(decide (j < 0))) (some (.inr (b,a.2))) ((idx a.2 (w64 (a.1 - 1))).bind fun c=>(idx a.2 a.1).bind fun k=>(idx a.2 a.1).bind fun _=>(idx (a.2.set a.1.toNat c) (w64 (a.1 - 1))).bind fun _=>some (.inl (w64 (a.1 + 1),(a.2.set a.1.toNat c).set (w64 (a.1 - 1)).toNat k)))) (some (.inr (b,a.2)))
noncomputable def q19 (c : Int) (d : qc→qc→Option Int) (h : Int) (b : Int × Int × List qc) : Option ((Int × Int × List qc) ⊕ ((List qc) ⊕ (Bool × List qc))):=
  cond (decide (b.2.1 < 5)) (((loop (q1w c b d) b.1).bind fun a=>cond (a == c) (some (.inr (true,b.2.2))) (cond (decide ((w64 (c - h)) < 50)) (some (.inr (false,b.2.2))) ((idx b.2.2 (w64 (a - 1))).bind fun f=>(idx b.2.2 a).bind fun j=>(idx b.2.2 a).bind fun _=>(idx (b.2.2.set a.toNat f) (w64 (a - 1))).bind fun _=>(cond (decide ((w64 (a - h)) ≥ 2)) ((loop (q1x d) (w64 (a - 1),(b.2.2.set a.toNat f).set (w64 (a - 1)).toNat j)).bind fun g=>some g) (some ((b.2.2.set a.toNat f).set (w64 (a - 1)).toNat j))).bind fun k=>cond (decide ((w64 (c - a)) ≥ 2)) ((loop (q1y c d a) (w64 (a + 1),k)).bind fun g=>some (.inl g)) (some (.inl (a,k))))) : Option ((Int × List qc) ⊕ (Bool × List qc))).bind fun m=>(match m with | .inl l=>some (.inl (l.1,w64 (b.2.1 + 1),l.2)) | .inr n=>some (.inr (.inr n)))) (some (.inr (.inl b.2.2)))
noncomputable def q1g (b : qc→qc→Option Int) (c : List qc) (a : Int) (d : Int) : Option (Bool × List qc):=
  (loop (q19 d b a) (w64 (a + 1),0,c) : Option ((List qc) ⊕ (Bool × List qc))).bind fun f=>(match f with | .inl g=>some (false,g) | .inr h=>some h)
noncomputable def q2h (b : Int × Int × List qc) (c : Int) (d : qc→qc→Option Int) (a : Int) : Option ((Int) ⊕ (Int)):=
  (cond (decide (a≤b.2.1)) ((idx b.2.2 c).bind fun f=>(idx b.2.2 a).bind fun g=>(d f g).bind fun h=>some (!(decide (h < 0)))) (some false)).bind fun j=>cond j (some (.inl (w64 (a + 1)))) (some (.inr a))
noncomputable def q2i (c : Int) (b : Int × Int × List qc) (d : Int) (f : qc→qc→Option Int) (a : Int) : Option ((Int) ⊕ (Int)):=
  (cond (decide (c≤a)) ((idx b.2.2 d).bind fun g=>(idx b.2.2 a).bind fun h=>(f g h).bind fun j=>some (decide (j < 0))) (some false)).bind fun k=>cond k (some (.inl (w64 (a - 1)))) (some (.inr a))
noncomputable def q2g (d : Int) (f : qc→qc→Option Int) (a : Int × Int × List qc) : Option ((Int × Int × List qc) ⊕ (Int × List qc)):=
  (loop (q2h a d f) a.1).bind fun b=>(loop (q2i b a d f) a.2.1).bind fun c=>cond (decide (b > c)) (some (.inr (b,a.2.2))) ((idx a.2.2 c).bind fun g=>(idx a.2.2 b).bind fun h=>(idx a.2.2 b).bind fun _=>(idx (a.2.2.set b.toNat g) c).bind fun _=>some (.inl (w64 (b + 1),w64 (c - 1),(a.2.2.set b.toNat g).set c.toNat h)))
noncomputable def q2w (g : qc→qc→Option Int) (b : List qc) (a : Int) (h : Int) (c : Int) : Option (Int × List qc):=
  (idx b c).bind fun d=>(idx b a).bind fun j=>(idx b a).bind fun _=>(idx (b.set a.toNat d) c).bind fun _=>(loop (q2g a g) (w64 (a + 1),w64 (h - 1),(b.set a.toNat d).set c.toNat j)).bind fun f=>some (f.1,f.2)
noncomputable def q3h (h : Int) (c : List qc) (b : Int) (d : qc) (f : Int) (g : qc) (j : qc→qc→Option Int) (a : Int) : Option ((Int) ⊕ (Int)):=
  (cond (decide (a≤(w64 (h - 1)))) ((idx ((c.set b.toNat d).set f.toNat g) a).bind fun k=>(idx ((c.set b.toNat d).set f.toNat g) b).bind fun l=>(j k l).bind fun m=>some (decide (m < 0))) (some false)).bind fun n=>cond n (some (.inl (w64 (a + 1)))) (some (.inr a))
noncomputable def q3i (h : Int) (c : List qc) (b : Int) (d : qc) (f : Int) (g : qc) (j : qc→qc→Option Int) (a : Int) : Option ((Int) ⊕ (Int)):=
  (cond (decide (h≤a)) ((idx ((c.set b.toNat d).set f.toNat g) a).bind fun k=>(idx ((c.set b.toNat d).set f.toNat g) b).bind fun l=>(j k l).bind fun m=>some (!(decide (m < 0)))) (some false)).bind fun n=>cond n (some (.inl (w64 (a - 1)))) (some (.inr a))
noncomputable def q3k (b : Int × Int × List qc) (c : Int) (d : qc→qc→Option Int) (a : Int) : Option ((Int) ⊕ (Int)):=
  (cond (decide (a≤b.2.1)) ((idx b.2.2 a).bind fun f=>(idx b.2.2 c).bind fun g=>(d f g).bind fun h=>some (decide (h < 0))) (some false)).bind fun j=>cond j (some (.inl (w64 (a + 1)))) (some (.inr a))
noncomputable def q3l (c : Int) (b : Int × Int × List qc) (d : Int) (f : qc→qc→Option Int) (a : Int) : Option ((Int) ⊕ (Int)):=
  (cond (decide (c≤a)) ((idx b.2.2 a).bind fun g=>(idx b.2.2 d).bind fun h=>(f g h).bind fun j=>some (!(decide (j < 0)))) (some false)).bind fun k=>cond k (some (.inl (w64 (a - 1)))) (some (.inr a))
noncomputable def q3j (d : Int) (f : qc→qc→Option Int) (a : Int × Int × List qc) : Option ((Int × Int × List qc) ⊕ (Int × List qc)):=
  (loop (q3k a d f) a.1).bind fun b=>(loop (q3l b a d f) a.2.1).bind fun c=>cond (decide (b > c)) (some (.inr (c,a.2.2))) ((idx a.2.2 c).bind fun g=>(idx a.2.2 b).bind fun h=>(idx a.2.2 b).bind fun _=>(idx (a.2.2.set b.toNat g) c).bind fun _=>some (.inl (w64 (b + 1),w64 (c - 1),(a.2.2.set b.toNat g).set c.toNat h)))
noncomputable def q48 (k : qc→qc→Option Int) (b : List qc) (a : Int) (l : Int) (c : Int) : Option (Int × Bool × List qc):=
  (idx b c).bind fun d=>(idx b a).bind fun f=>(idx b a).bind fun _=>(idx (b.set a.toNat d) c).bind fun _=>(loop (q3h l b a d c f k) (w64 (a + 1))).bind fun j=>(loop (q3i j b a d c f k) (w64 (l - 1))).bind fun g=>cond (decide (j > g)) ((idx ((b.set a.toNat d).set c.toNat f) a).bind fun m=>(idx ((b.set a.toNat d).set c.toNat f) g).bind fun p=>(idx ((b.set a.toNat d).set c.toNat f) g).bind fun _=>(idx (((b.set a.toNat d).set c.toNat f).set g.toNat m) a).bind fun _=>some (g,true,(((b.set a.toNat d).set c.toNat f).set g.toNat m).set a.toNat p)) ((idx ((b.set a.toNat d).set c.toNat f) g).bind fun n=>(idx ((b.set a.toNat d).set c.toNat f) j).bind fun q=>(idx ((b.set a.toNat d).set c.toNat f) j).bind fun _=>(idx (((b.set a.toNat d).set c.toNat f).set j.toNat n) g).bind fun _=>(loop (q3j a k) (w64 (j + 1),w64 (g - 1),(((b.set a.toNat d).set c.toNat f).set j.toNat n).set g.toNat q)).bind fun h=>(idx h.2 a).bind fun o=>(idx h.2 h.1).bind fun r=>(idx h.2 h.1).bind fun _=>(idx (h.2.set h.1.toNat o) a).bind fun _=>some (h.1,false,(h.2.set h.1.toNat o).set a.toNat r))
noncomputable def q2l (b : Int) (d : Int) (f : Int) (a : Int × List qc × Int) : Option ((Int × List qc × Int) ⊕ (List qc)):=
  cond (decide (a.1≤(w64 ((w64 (b + (w64 ((w64 (Int.tdiv (w64 (d - b)) 4)) * 2)))) + 1)))) ((q3f a.2.2).bind fun c=>(cond (decide ((w64 (andI .u64 c (IntKind.wrap .u64 (f - 1)))) ≥ (w64 (d - b)))) (some (w64 ((w64 (andI .u64 c (IntKind.wrap .u64 (f - 1)))) - (w64 (d - b))))) (some (w64 (andI .u64 c (IntKind.wrap .u64 (f - 1)))))).bind fun g=>(idx a.2.1 (w64 (b + g))).bind fun h=>(idx a.2.1 a.1).bind fun j=>(idx a.2.1 a.1).bind fun _=>(idx (a.2.1.set a.1.toNat h) (w64 (b + g))).bind fun _=>some (.inl (w64 (a.1 + 1),(a.2.1.set a.1.toNat h).set (w64 (b + g)).toNat j,c))) (some (.inr a.2.1))
noncomputable def q33 (g : qc→qc→Option Int) (c : List qc) (a : Int) (b : Int) : Option (List qc):=
  cond (decide ((w64 (b - a)) ≥ 8)) ((q47 (w64 (b - a))).bind fun d=>(loop (q2l a b d) (w64 ((w64 (a + (w64 ((w64 (Int.tdiv (w64 (b - a)) 4)) * 2)))) - 1),c,IntKind.wrap .u64 (w64 (b - a)))).bind fun f=>some f) (some c)
noncomputable def q2o (c : qc→qc→Option Int) (rec : List qc→Int→Int→Int→Option (List qc)) (a : Int × Int × Int × Bool × Bool × List qc) : Option ((Int × Int × Int × Bool × Bool × List qc) ⊕ (List qc)):=
  cond (decide ((w64 (a.2.1 - a.1))≤12)) ((q34 c a.2.2.2.2.2 a.1 a.2.1).bind fun l=>(q1d l.length a.2.2.2.2.2.length).bind fun _=>some (.inr l)) (cond (a.2.2.1 == 0) ((q4i c a.2.2.2.2.2 a.1 a.2.1).bind fun m=>(q1d m.length a.2.2.2.2.2.length).bind fun _=>some (.inr m)) ((cond (!a.2.2.2.1) ((q33 c a.2.2.2.2.2 a.1 a.2.1).bind fun n=>(q1d n.length a.2.2.2.2.2.length).bind fun _=>some (w64 (a.2.2.1 - 1),n)) (some (a.2.2.1,a.2.2.2.2.2))).bind fun d=>(q4h d.2 a.1 a.2.1 c).bind fun h=>(cond (h.2 == 2) ((q3m c d.2 a.1 a.2.1).bind fun o=>(q1d o.length d.2.length).bind fun _=>some (w64 ((w64 (a.2.1 - 1)) - (w64 (h.1 - a.1))),1,o)) (some (h.1,h.2,d.2))).bind fun f=>(cond a.2.2.2.1 (some a.2.2.2.2.1) (some false)).bind fun r=>(cond r (some (f.2.1 == 1)) (some false)).bind fun s=>(cond s ((q1g c f.2.2 a.1 a.2.1).bind fun j=>(q1d j.2.length f.2.2.length).bind fun _=>cond j.1 (some (.inr j.2)) (some (.inl j.2))) (some (.inl f.2.2)) : Option ((List qc) ⊕ (List qc))).bind fun t=>(match t with | .inl g=>(cond (decide (a.1 > 0)) ((idx g (w64 (a.1 - 1))).bind fun u=>(idx g f.1).bind fun v=>(c u v).bind fun w=>some (!(decide (w < 0)))) (some false)).bind fun x=>cond x ((q2w c g a.1 a.2.1 f.1).bind fun k=>(q1d k.2.length g.length).bind fun _=>some (.inl (k.1,a.2.1,d.1,a.2.2.2.1,a.2.2.2.2.1,k.2))) ((q48 c g a.1 a.2.1 f.1).bind fun b=>(q1d b.2.2.length g.length).bind fun _=>cond (decide ((w64 (b.1 - a.1)) < (w64 (a.2.1 - b.1)))) ((rec b.2.2 a.1 b.1 d.1).bind fun p=>(q1d p.length b.2.2.length).bind fun _=>some (.inl (w64 (b.1 + 1),a.2.1,d.1,decide ((w64 (b.1 - a.1)) ≥ (w64 (Int.tdiv (w64 (a.2.1 - a.1)) 8))),b.2.1,p))) ((rec b.2.2 (w64 (b.1 + 1)) a.2.1 d.1).bind fun q=>(q1d q.length b.2.2.length).bind fun _=>some (.inl (a.1,b.1,d.1,decide ((w64 (a.2.1 - b.1)) ≥ (w64 (Int.tdiv (w64 (a.2.1 - a.1)) 8))),b.2.1,q)))) | .inr y=>some (.inr y))))
noncomputable def q2t (rec : List qc→Int→Int→Int→Option (List qc)) (a : qc→qc→Option Int) (b : List qc) (c : Int) (d : Int) (f : Int) : Option (List qc):=
  (loop (q2o a rec) (c,d,f,true,true,b)).bind fun g=>some g
noncomputable def q3c : Nat→(qc→qc→Option Int)→List qc→Int→Int→Int→Option (List qc)
  | 0,_,_,_,_,_=>none
  | n + 1,a,b,c,d,f=>q2t (q3c n a) a b c d f
noncomputable def q2k (c : qc→qc→Option Int) (a : List qc) : Option (List qc):=
  (q68 (IntKind.wrap .u64 (a.length : Int))).bind fun d=>(lim (fun n=>q3c n c a 0 (a.length : Int) d)).bind fun b=>(q1d b.length a.length).bind fun _=>some b
noncomputable def q5b (a : List qc) : Option (List qc):=
  some a
noncomputable def q7g (b : List qe) (c : Int × List qc) (a : Int × List qc) : Option ((Int × List qc) ⊕ (List qc)):=
  cond (decide (a.1 < (b.length : Int))) ((idx b a.1).bind fun d=>(app 24 a.2 [({at_:=d.Lo,list_:=c.1,by_:=1} : qc),({at_:=d.Hi,list_:=c.1,by_:=(-1)} : qc)]).bind fun f=>some (.inl (w64 (a.1 + 1),f))) (some (.inr a.2))
noncomputable def q5i (b : List (List qe)) (a : Int × List qc) : Option ((Int × List qc) ⊕ (List qc)):=
  cond (decide (a.1 < (b.length : Int))) (((idx b a.1).bind fun c=>(loop (q7g c a) (0,a.2)).bind fun d=>some d).bind fun f=>some (.inl (w64 (a.1 + 1),f))) (some (.inr a.2))
noncomputable def qcn (b : List (List qe)) : Option (List (List qe) × List qc):=
  (loop (q5i b) (0,[])).bind fun c=>(q2k (fun f g=>qdg f g) c).bind fun a=>(q1d a.length c.length).bind fun _=>(q5b a).bind fun d=>(q1d d.length a.length).bind fun _=>some (b,d)
noncomputable def qaq (d : Int) (c : Bool) (b : Int) (a : List qe) : Option (Bool × Int × List qe):=
  (cond (!c) (some true) (some (b == d))).bind fun f=>cond f (some (c,b,a)) ((cond (decide ((a.length : Int) > 0)) ((idx a (w64 ((a.length : Int) - 1))).bind fun g=>some (g.Hi == b)) (some false)).bind fun h=>cond h ((idx a (w64 ((a.length : Int) - 1))).bind fun j=>some (c,b,a.set (w64 ((a.length : Int) - 1)).toNat ({Lo:=j.Lo,Hi:=d} : qe))) ((app 16 a [({Lo:=b,Hi:=d} : qe)]).bind fun k=>some (c,b,k)))
noncomputable def q99 (f : List (List qe) × List qc) (g : Bool→Bool→Option Bool) (a : Int × List Int × Int × Bool × List qe) : Option ((Int × List Int × Int × Bool × List qe) ⊕ (List qe)):=
  cond (decide (a.1 < (f.2.length : Int))) ((idx f.2 a.1).bind fun b=>((qaq b.at_ a.2.2.2.1 a.2.2.1 a.2.2.2.2).bind fun h=>(idxA 2 a.2.1 b.list_).bind fun c=>(idxA 2 a.2.1 b.list_).bind fun _=>(idxA 2 (a.2.1.set b.list_.toNat (w64 (c + b.by_))) 0).bind fun j=>(idxA 2 (a.2.1.set b.list_.toNat (w64 (c + b.by_))) 1).bind fun k=>(g (decide (j > 0)) (decide (k > 0))).bind fun l=>some (a.2.1.set b.list_.toNat (w64 (c + b.by_)),l,h.2.2)).bind fun d=>some (.inl (w64 (a.1 + 1),d.1,b.at_,d.2.1,d.2.2))) (some (.inr a.2.2.2.2))
noncomputable def qe4 (a : List qe) (b : List qe) (d : Bool→Bool→Option Bool) : Option (List qe):=
  (qcn [a,b]).bind fun c=>(q1d c.1.length [a,b].length).bind fun _=>((loop (q99 c d) (0,[0,0],0,false,[])).bind fun f=>some f).bind fun g=>some g
noncomputable def qdf (a : Bool) (b : Bool) : Option Bool:=
  some a
noncomputable def qe3 (a : List qe) : Option (List qe × Int):=
  cond (decide ((a.length : Int) > 400)) (some ([],4)) ((q3x a (fun b=>qfk b)).bind fun c=>cond c (some ([],8)) ((qe4 a [] (fun b d=>qdf b d)).bind fun f=>some (f,0)))
noncomputable def q5h (b : List qe) (f : List qe) (a : Int) : Option ((Int) ⊕ ((Unit) ⊕ (Bool))):=
  cond (decide (a < (b.length : Int))) ((idx b a).bind fun c=>(idx f a).bind fun d=>cond (!((c.Lo == d.Lo) && ((c.Hi == d.Hi) && true))) (some (.inr (.inr false))) (some (.inl (w64 (a + 1))))) (some (.inr (.inl ())))
noncomputable def q52 (a : List qe) (b : List qe) : Option Bool:=
  cond ((a.length : Int) != (b.length : Int)) (some false) ((loop (q5h a b) 0 : Option ((Unit) ⊕ (Bool))).bind fun c=>(match c with | .inl _=>some true | .inr d=>some d))
noncomputable def q5f (c : Int) (a : Int × List qb) : Option ((Int × List qb) ⊕ (List qb)):=
  cond (decide (a.1 < (a.2.length : Int))) ((idx a.2 a.1).bind fun b=>some (.inl (w64 (a.1 + 1),a.2.set a.1.toNat ({X0:=b.X0,Y0:=b.Y0,X1:=c,Y1:=b.Y1} : qb)))) (some (.inr a.2))
noncomputable def q5g (b : List qe) (f : Int) (c : Int) (g : List qb) (a : Int × List qb) : Option ((Int × List qb) ⊕ (List qe × Int × Int × List qb)):=
  cond (decide (a.1 < (b.length : Int))) ((idx b a.1).bind fun d=>(app 32 a.2 [({X0:=f,Y0:=d.Lo,X1:=c,Y1:=d.Hi} : qb)]).bind fun h=>some (.inl (w64 (a.1 + 1),h))) (some (.inr (b,(g.length : Int),c,a.2)))
noncomputable def q71 (a : List qb) (d : List qe) (f : Int) (h : Int) (g : Int) (b : Int) (c : List qe) : Option (List qe × Int × Int × List qb):=
  (cond (decide ((c.length : Int) > 0)) (some (h == g)) (some false)).bind fun j=>(cond j ((q52 d c).bind fun k=>some k) (some false)).bind fun l=>cond l ((loop (q5f b) (f,a)).bind fun m=>some (d,f,b,m)) ((loop (q5g c g b a) (0,a)).bind fun n=>some n)
noncomputable def q72 (b : List qb) (a : Int × List Int) : Option ((Int × List Int) ⊕ (List Int)):=
  cond (decide (a.1 < (b.length : Int))) ((idx b a.1).bind fun c=>(app 8 a.2 [c.X0,c.X1]).bind fun d=>some (.inl (w64 (a.1 + 1),d))) (some (.inr a.2))
noncomputable def q7s (c : List qb) (d : Int) (a : Int × List qe) : Option ((Int × List qe) ⊕ (List qe)):=
  cond (decide (a.1 < (c.length : Int))) (((idx c a.1).bind fun b=>(cond (decide (b.X0≤d)) (some (decide (d < b.X1))) (some false)).bind fun f=>cond f ((app 16 a.2 [({Lo:=b.Y0,Hi:=b.Y1} : qe)]).bind fun g=>some g) (some a.2)).bind fun h=>some (.inl (w64 (a.1 + 1),h))) (some (.inr a.2))
noncomputable def q73 (d : List Int) (g : List qb) (a : Int × List qe × Int × Int × List qb) : Option ((Int × List qe × Int × Int × List qb) ⊕ (List qe × Int × Int × List qb)):=
  cond (decide (a.1 < (d.length : Int))) ((idx d (w64 (a.1 - 1))).bind fun f=>(idx d a.1).bind fun h=>((idx [g] 0).bind fun j=>(loop (q7s j f) (0,[])).bind fun k=>some k).bind fun l=>((qe3 l).bind fun m=>(q71 a.2.2.2.2 a.2.1 a.2.2.1 a.2.2.2.1 f h m.1).bind fun b=>some (b.1,b.2.1,b.2.2.1,b.2.2.2)).bind fun c=>some (.inl (w64 (a.1 + 1),c.1,c.2.1,c.2.2.1,c.2.2.2))) (some (.inr (a.2.1,a.2.2.1,a.2.2.2.1,a.2.2.2.2)))
noncomputable def qbl (d : List qb) : Option (List qb × Int):=
  (((idx [d] 0).bind fun j=>(loop (q72 j) (0,[])).bind fun b=>some b).bind fun f=>(q2v f).bind fun c=>(q1d c.length f.length).bind fun _=>(q3o c).bind fun a=>(q1d a.2.length c.length).bind fun _=>(qht a.2.length a.1).bind fun _=>some ((a.2.drop a.1.1).take a.1.2)).bind fun k=>((loop (q73 k d) (1,[],0,0,[])).bind fun b=>some b).bind fun g=>(cond (decide ((g.2.2.2.length : Int) > 400)) (some (4,[])) (some (0,g.2.2.2))).bind fun h=>some (h.2,h.1)
noncomputable def qbk (a : List qb) : Option (List qb × Int):=
  cond (decide ((a.length : Int) > 400)) (some ([],4)) ((q3w a (fun c=>q7m c)).bind fun d=>cond d (some ([],8)) ((qbl a).bind fun b=>some (b.1,b.2)))
noncomputable def q57 (d : List qb) (f : List qb) (a : Int) : Option ((Int) ⊕ ((Unit) ⊕ (Bool))):=
  cond (decide (a < (d.length : Int))) ((idx d a).bind fun b=>(idx f a).bind fun c=>cond (!((b.X0 == c.X0) && ((b.Y0 == c.Y0) && ((b.X1 == c.X1) && ((b.Y1 == c.Y1) && true))))) (some (.inr (.inr false))) (some (.inl (w64 (a + 1))))) (some (.inr (.inl ())))
noncomputable def q3r (a : List qb) (b : List qb) : Option Bool:=
  cond ((a.length : Int) != (b.length : Int)) (some false) ((loop (q57 a b) 0 : Option ((Unit) ⊕ (Bool))).bind fun c=>(match c with | .inl _=>some true | .inr d=>some d))
noncomputable def q5l (c : Int) (a : Int × List q8) : Option ((Int × List q8) ⊕ (List q8)):=
  cond (decide (a.1 < (a.2.length : Int))) ((idx a.2 a.1).bind fun b=>some (.inl (w64 (a.1 + 1),a.2.set a.1.toNat ({Lo:=b.Lo,Hi:=({X:=b.Hi.X,Y:=b.Hi.Y,Z:=c} : qk)} : q8)))) (some (.inr a.2))
noncomputable def q5m (c : List qb) (f : Int) (d : Int) (g : List q8) (a : Int × List q8) : Option ((Int × List q8) ⊕ (List qb × Int × Int × List q8)):=
  cond (decide (a.1 < (c.length : Int))) ((idx c a.1).bind fun b=>(app 48 a.2 [({Lo:=({X:=b.X0,Y:=b.Y0,Z:=f} : qk),Hi:=({X:=b.X1,Y:=b.Y1,Z:=d} : qk)} : q8)]).bind fun h=>some (.inl (w64 (a.1 + 1),h))) (some (.inr (c,(g.length : Int),d,a.2)))
noncomputable def q7f (a : List q8) (d : List qb) (f : Int) (h : Int) (g : Int) (b : Int) (c : List qb) : Option (List qb × Int × Int × List q8):=
  (cond (decide ((c.length : Int) > 0)) (some (h == g)) (some false)).bind fun j=>(cond j ((q3r d c).bind fun k=>some k) (some false)).bind fun l=>cond l ((loop (q5l b) (f,a)).bind fun m=>some (d,f,b,m)) ((loop (q5m c g b a) (0,a)).bind fun n=>some n)
noncomputable def q4x (b : List q8) (a : Int × List Int) : Option ((Int × List Int) ⊕ (List Int)):=
  cond (decide (a.1 < (b.length : Int))) ((idx b a.1).bind fun c=>(app 8 a.2 [c.Lo.Z,c.Hi.Z]).bind fun d=>some (.inl (w64 (a.1 + 1),d))) (some (.inr a.2))
noncomputable def q4d (c : List q8) (d : Int) (a : Int × List qb) : Option ((Int × List qb) ⊕ (List qb)):=
  cond (decide (a.1 < (c.length : Int))) (((idx c a.1).bind fun b=>(cond (decide (b.Lo.Z≤d)) (some (decide (d < b.Hi.Z))) (some false)).bind fun f=>cond f ((app 32 a.2 [({X0:=b.Lo.X,Y0:=b.Lo.Y,X1:=b.Hi.X,Y1:=b.Hi.Y} : qb)]).bind fun g=>some g) (some a.2)).bind fun h=>some (.inl (w64 (a.1 + 1),h))) (some (.inr a.2))
noncomputable def q4y (d : List Int) (h : List q8) (a : Int × List qb × Int × Int × List q8) : Option ((Int × List qb × Int × Int × List q8) ⊕ ((List qb × Int × Int × List q8) ⊕ (List q8 × Int))):=
  cond (decide (a.1 < (d.length : Int))) ((idx d (w64 (a.1 - 1))).bind fun g=>(idx d a.1).bind fun j=>((idx [h] 0).bind fun k=>(loop (q4d k g) (0,[])).bind fun l=>some l).bind fun m=>((qbk m).bind fun f=>cond (f.2 != 0) (some (.inr ([],f.2))) ((q7f a.2.2.2.2 a.2.1 a.2.2.1 a.2.2.2.1 g j f.1).bind fun b=>some (.inl (b.1,b.2.1,b.2.2.1,b.2.2.2))) : Option ((List qb × Int × Int × List q8) ⊕ (List q8 × Int))).bind fun n=>(match n with | .inl c=>some (.inl (w64 (a.1 + 1),c.1,c.2.1,c.2.2.1,c.2.2.2)) | .inr o=>some (.inr (.inr o)))) (some (.inr (.inl (a.2.1,a.2.2.1,a.2.2.2.1,a.2.2.2.2))))
noncomputable def q6e (f : List q8) : Option (List q8 × Int):=
  (((idx [f] 0).bind fun j=>(loop (q4x j) (0,[])).bind fun b=>some b).bind fun g=>(q2v g).bind fun c=>(q1d c.length g.length).bind fun _=>(q3o c).bind fun a=>(q1d a.2.length c.length).bind fun _=>(qht a.2.length a.1).bind fun _=>some ((a.2.drop a.1.1).take a.1.2)).bind fun k=>((loop (q4y k f) (1,[],0,0,[]) : Option ((List qb × Int × Int × List q8) ⊕ (List q8 × Int))).bind fun l=>(match l with | .inl b=>some (.inl b) | .inr d=>some (.inr d)) : Option ((List qb × Int × Int × List q8) ⊕ (List q8 × Int))).bind fun m=>(match m with | .inl h=>cond (decide ((h.2.2.2.length : Int) > 400)) (some ([],4)) (some (h.2.2.2,0)) | .inr d=>some d)
noncomputable def qb1 (a : List q8) : Option (List q8 × Int):=
  cond (decide ((a.length : Int) > 400)) (some ([],4)) ((q46 a (fun c=>q80 c)).bind fun d=>cond d (some ([],8)) ((q6e a).bind fun b=>some (b.1,b.2)))
noncomputable def qij (a : qk) (b : Int) : Option Bool:=
  (cond (decide (a.X ≥ b)) (some (decide (a.Y ≥ b))) (some false)).bind fun c=>(cond c (some (decide (a.Z ≥ b))) (some false)).bind fun d=>(cond d (some (decide (a.X≤1000000))) (some false)).bind fun f=>(cond f (some (decide (a.Y≤1000000))) (some false)).bind fun g=>(cond g (some (decide (a.Z≤1000000))) (some false)).bind fun h=>some h
noncomputable def qdy (a : q8) : Option Bool:=
  (qij a.Lo (-1000000)).bind fun b=>(cond b ((qij a.Hi (-1000000)).bind fun c=>some c) (some false)).bind fun d=>(cond d (some (decide (a.Lo.X < a.Hi.X))) (some false)).bind fun f=>(cond f (some (decide (a.Lo.Y < a.Hi.Y))) (some false)).bind fun g=>(cond g (some (decide (a.Lo.Z < a.Hi.Z))) (some false)).bind fun h=>some h
noncomputable def q8a (b : Int × List Int) (c : List Int) (a : Int) : Option ((Int) ⊕ (Int)):=
  (cond (decide (a > 0)) ((idx b.2 (w64 (a - 1))).bind fun d=>(idx c b.1).bind fun f=>some (decide (d > f))) (some false)).bind fun g=>cond g (some (.inl (w64 (a - 1)))) (some (.inr a))
noncomputable def q89 (d : List Int) (a : Int × List Int) : Option ((Int × List Int) ⊕ (List Int)):=
  cond (decide (a.1 < (d.length : Int))) (((loop (q8a a d) (a.2.length : Int)).bind fun c=>(cond (decide (c > 0)) ((idx a.2 (w64 (c - 1))).bind fun h=>(idx d a.1).bind fun j=>some (h == j)) (some false)).bind fun k=>cond k (some a.2) ((app 8 a.2 [0]).bind fun b=>(sub2 b.length (w64 (c + 1)) b.length).bind fun g=>(sub2 b.length c b.length).bind fun f=>(idx d a.1).bind fun l=>(idx (cpyw b g ((b.drop f.1).take f.2)) c).bind fun _=>some ((cpyw b g ((b.drop f.1).take f.2)).set c.toNat l))).bind fun m=>some (.inl (w64 (a.1 + 1),m))) (some (.inr a.2))
noncomputable def q6p (a : List Int) : Option (List Int):=
  (loop (q89 a) (0,[])).bind fun b=>some b
noncomputable def qa4 (b : List q8) (a : Int × List Int) : Option ((Int × List Int) ⊕ (List Int)):=
  cond (decide (a.1 < (b.length : Int))) ((idx b a.1).bind fun c=>(idx b a.1).bind fun d=>(app 8 a.2 [c.Lo.Z,d.Hi.Z]).bind fun f=>some (.inl (w64 (a.1 + 1),f))) (some (.inr a.2))
noncomputable def qa5 (b : List q8) (a : Int × List Int) : Option ((Int × List Int) ⊕ (List Int)):=
  cond (decide (a.1 < (b.length : Int))) ((idx b a.1).bind fun c=>(idx b a.1).bind fun d=>(app 8 a.2 [c.Lo.Z,d.Hi.Z]).bind fun f=>some (.inl (w64 (a.1 + 1),f))) (some (.inr a.2))
noncomputable def qh0 (a : List q8) (b : List q8) : Option (List Int):=
  (loop (qa4 a) (0,[])).bind fun c=>(loop (qa5 b) (0,c)).bind fun d=>(q6p d).bind fun f=>some f
noncomputable def qdw (b : List q8) (c : Int) (a : Int × List qb) : Option ((Int × List qb) ⊕ (List qb)):=
  cond (decide (a.1 < (b.length : Int))) (((idx b a.1).bind fun d=>(cond (decide (d.Lo.Z≤c)) ((idx b a.1).bind fun f=>some (decide (c < f.Hi.Z))) (some false)).bind fun g=>cond g ((idx b a.1).bind fun h=>(idx b a.1).bind fun j=>(idx b a.1).bind fun k=>(idx b a.1).bind fun l=>(app 32 a.2 [({X0:=h.Lo.X,Y0:=j.Lo.Y,X1:=k.Hi.X,Y1:=l.Hi.Y} : qb)]).bind fun m=>some m) (some a.2)).bind fun n=>some (.inl (w64 (a.1 + 1),n))) (some (.inr a.2))
noncomputable def qb9 (a : List q8) (b : Int) : Option (List qb):=
  (loop (qdw a b) (0,[])).bind fun c=>some c
noncomputable def qcg (b : List qb) (a : Int × List Int) : Option ((Int × List Int) ⊕ (List Int)):=
  cond (decide (a.1 < (b.length : Int))) ((idx b a.1).bind fun c=>(idx b a.1).bind fun d=>(app 8 a.2 [c.X0,d.X1]).bind fun f=>some (.inl (w64 (a.1 + 1),f))) (some (.inr a.2))
noncomputable def qch (b : List qb) (a : Int × List Int) : Option ((Int × List Int) ⊕ (List Int)):=
  cond (decide (a.1 < (b.length : Int))) ((idx b a.1).bind fun c=>(idx b a.1).bind fun d=>(app 8 a.2 [c.X0,d.X1]).bind fun f=>some (.inl (w64 (a.1 + 1),f))) (some (.inr a.2))
noncomputable def qla (a : List qb) (b : List qb) : Option (List Int):=
  (loop (qcg a) (0,[])).bind fun c=>(loop (qch b) (0,c)).bind fun d=>(q6p d).bind fun f=>some f
noncomputable def qci (b : List qb) (a : Int × List Int) : Option ((Int × List Int) ⊕ (List Int)):=
  cond (decide (a.1 < (b.length : Int))) ((idx b a.1).bind fun c=>(idx b a.1).bind fun d=>(app 8 a.2 [c.Y0,d.Y1]).bind fun f=>some (.inl (w64 (a.1 + 1),f))) (some (.inr a.2))
noncomputable def qcj (b : List qb) (a : Int × List Int) : Option ((Int × List Int) ⊕ (List Int)):=
  cond (decide (a.1 < (b.length : Int))) ((idx b a.1).bind fun c=>(idx b a.1).bind fun d=>(app 8 a.2 [c.Y0,d.Y1]).bind fun f=>some (.inl (w64 (a.1 + 1),f))) (some (.inr a.2))
noncomputable def qlb (a : List qb) (b : List qb) : Option (List Int):=
  (loop (qci a) (0,[])).bind fun c=>(loop (qcj b) (0,c)).bind fun d=>(q6p d).bind fun f=>some f
noncomputable def q9t (b : List qb) (c : Int) (d : Int) (a : Int) : Option ((Int) ⊕ ((Unit) ⊕ (Bool))):=
  cond (decide (a < (b.length : Int))) ((idx b a).bind fun f=>(cond (decide (f.X0≤c)) ((idx b a).bind fun g=>some (decide (c < g.X1))) (some false)).bind fun h=>(cond h ((idx b a).bind fun j=>some (decide (j.Y0≤d))) (some false)).bind fun k=>(cond k ((idx b a).bind fun l=>some (decide (d < l.Y1))) (some false)).bind fun m=>cond m (some (.inr (.inr true))) (some (.inl (w64 (a + 1))))) (some (.inr (.inl ())))
noncomputable def qf7 (a : List qb) (b : Int) (c : Int) : Option Bool:=
  (loop (q9t a b c) 0 : Option ((Unit) ⊕ (Bool))).bind fun d=>(match d with | .inl _=>some false | .inr f=>some f)
noncomputable def qdv (c : Int) (a : Bool) (b : Bool) : Option Bool:=
  cond (c == 1) ((cond a (some b) (some false)).bind fun d=>some d) (cond (c == 2) ((cond a (some true) (some b)).bind fun f=>some f) ((cond a (some (!b)) (some false)).bind fun g=>some g))
noncomputable def q95 (b : List Int) (c : List Bool) (a : Int × List qe) : Option ((Int × List qe) ⊕ (List qe)):=
  cond (decide ((w64 (a.1 + 1)) < (b.length : Int))) (((idx c a.1).bind fun d=>cond (!d) (some a.2) ((cond (decide ((a.2.length : Int) > 0)) ((idx a.2 (w64 ((a.2.length : Int) - 1))).bind fun f=>(idx b a.1).bind fun g=>some (f.Hi == g)) (some false)).bind fun h=>cond h ((idx b (w64 (a.1 + 1))).bind fun j=>(idx a.2 (w64 ((a.2.length : Int) - 1))).bind fun k=>some (a.2.set (w64 ((a.2.length : Int) - 1)).toNat ({Lo:=k.Lo,Hi:=j} : qe))) ((idx b a.1).bind fun l=>(idx b (w64 (a.1 + 1))).bind fun m=>(app 16 a.2 [({Lo:=l,Hi:=m} : qe)]).bind fun n=>some n))).bind fun o=>some (.inl (w64 (a.1 + 1),o))) (some (.inr a.2))
noncomputable def qcf (a : List Int) (b : List Bool) : Option (List qe):=
  (loop (q95 a b) (0,[])).bind fun c=>some c
noncomputable def qfj (b : List qe) (f : List qe) (a : Int) : Option ((Int) ⊕ ((Unit) ⊕ (Bool))):=
  cond (decide (a < (b.length : Int))) ((idx b a).bind fun c=>(idx f a).bind fun d=>cond (!((c.Lo == d.Lo) && ((c.Hi == d.Hi) && true))) (some (.inr (.inr false))) (some (.inl (w64 (a + 1))))) (some (.inr (.inl ())))
noncomputable def qf6 (a : List qe) (b : List qe) : Option Bool:=
  cond ((a.length : Int) != (b.length : Int)) (some false) ((loop (qfj a b) 0 : Option ((Unit) ⊕ (Bool))).bind fun c=>(match c with | .inl _=>some true | .inr d=>some d))
noncomputable def q8b (b : List Int) (c : List Int) (d : List qe × Int × Int × List qb) (f : List qb) (g : List qb) (h : Int) (a : Int × List Bool) : Option ((Int × List Bool) ⊕ (List Bool)):=
  cond (decide (a.1 < (b.length : Int))) ((idx c d.2.2.1).bind fun j=>(idx b a.1).bind fun k=>(qf7 f j k).bind fun l=>(idx c d.2.2.1).bind fun m=>(idx b a.1).bind fun n=>(qf7 g m n).bind fun o=>(qdv h l o).bind fun p=>(app 1 a.2 [p]).bind fun q=>some (.inl (w64 (a.1 + 1),q))) (some (.inr a.2))
noncomputable def q8c (c : List Int) (d : List qe × Int × Int × List qb) (a : Int × List qb) : Option ((Int × List qb) ⊕ (List qb)):=
  cond (decide (a.1 < (a.2.length : Int))) ((idx c (w64 (d.2.2.1 + 1))).bind fun f=>(idx a.2 a.1).bind fun b=>some (.inl (w64 (a.1 + 1),a.2.set a.1.toNat ({X0:=b.X0,Y0:=b.Y0,X1:=f,Y1:=b.Y1} : qb)))) (some (.inr a.2))
noncomputable def q9h (b : List qe) (d : List Int) (c : List qe × Int × Int × List qb) (a : Int × List qb) : Option ((Int × List qb) ⊕ (List qe × Int × List qb)):=
  cond (decide (a.1 < (b.length : Int))) ((idx d c.2.2.1).bind fun f=>(idx b a.1).bind fun g=>(idx d (w64 (c.2.2.1 + 1))).bind fun h=>(idx b a.1).bind fun j=>(app 32 a.2 [({X0:=f,Y0:=g.Lo,X1:=h,Y1:=j.Hi} : qb)]).bind fun k=>some (.inl (w64 (a.1 + 1),k))) (some (.inr (b,(c.2.2.2.length : Int),a.2)))
noncomputable def q7l (b : List Int) (d : List Int) (g : List qb) (h : List qb) (j : Int) (a : List qe × Int × Int × List qb) : Option ((List qe × Int × Int × List qb) ⊕ (List qb)):=
  cond (decide ((w64 (a.2.2.1 + 1)) < (b.length : Int))) (((loop (q8b d b a g h j) (0,[])).bind fun k=>(qcf d k).bind fun f=>(cond (decide (a.2.2.1 > 0)) ((qf6 f a.1).bind fun l=>some l) (some false)).bind fun m=>cond m ((loop (q8c b a) (a.2.1,a.2.2.2)).bind fun n=>some (a.1,a.2.1,n)) ((loop (q9h f b a) (0,a.2.2.2)).bind fun o=>some o)).bind fun c=>some (.inl (c.1,c.2.1,w64 (a.2.2.1 + 1),c.2.2))) (some (.inr a.2.2.2))
noncomputable def q64 (c : Int) (a : List qb) (b : List qb) : Option (List qb):=
  (qla a b).bind fun d=>(qlb a b).bind fun f=>(loop (q7l d f a b c) ([],0,0,[])).bind fun g=>some g
noncomputable def qaw (d : List qb) (f : List qb) (a : Int) : Option ((Int) ⊕ ((Unit) ⊕ (Bool))):=
  cond (decide (a < (d.length : Int))) ((idx d a).bind fun b=>(idx f a).bind fun c=>cond (!((b.X0 == c.X0) && ((b.Y0 == c.Y0) && ((b.X1 == c.X1) && ((b.Y1 == c.Y1) && true))))) (some (.inr (.inr false))) (some (.inl (w64 (a + 1))))) (some (.inr (.inl ())))
noncomputable def q8e (a : List qb) (b : List qb) : Option Bool:=
  cond ((a.length : Int) != (b.length : Int)) (some false) ((loop (qaw a b) 0 : Option ((Unit) ⊕ (Bool))).bind fun c=>(match c with | .inl _=>some true | .inr d=>some d))
noncomputable def q8f (c : List Int) (d : List qb × Int × Int × List q8) (a : Int × List q8) : Option ((Int × List q8) ⊕ (List q8)):=
  cond (decide (a.1 < (a.2.length : Int))) ((idx c (w64 (d.2.2.1 + 1))).bind fun f=>(idx a.2 a.1).bind fun b=>some (.inl (w64 (a.1 + 1),a.2.set a.1.toNat ({Lo:=b.Lo,Hi:=({X:=b.Hi.X,Y:=b.Hi.Y,Z:=f} : qk)} : q8)))) (some (.inr a.2))
noncomputable def q9i (b : List qb) (d : List Int) (c : List qb × Int × Int × List q8) (a : Int × List q8) : Option ((Int × List q8) ⊕ (List qb × Int × List q8)):=
  cond (decide (a.1 < (b.length : Int))) ((idx b a.1).bind fun f=>(idx b a.1).bind fun g=>(idx d c.2.2.1).bind fun h=>(idx b a.1).bind fun j=>(idx b a.1).bind fun k=>(idx d (w64 (c.2.2.1 + 1))).bind fun l=>(app 48 a.2 [({Lo:=({X:=f.X0,Y:=g.Y0,Z:=h} : qk),Hi:=({X:=j.X1,Y:=k.Y1,Z:=l} : qk)} : q8)]).bind fun m=>some (.inl (w64 (a.1 + 1),m))) (some (.inr (b,(c.2.2.2.length : Int),a.2)))
noncomputable def q6q (b : List Int) (f : List q8) (g : List q8) (h : Int) (a : List qb × Int × Int × List q8) : Option ((List qb × Int × Int × List q8) ⊕ ((List q8) ⊕ (List q8 × Bool))):=
  cond (decide ((w64 (a.2.2.1 + 1)) < (b.length : Int))) (((idx b a.2.2.1).bind fun j=>(qb9 f j).bind fun k=>(idx b a.2.2.1).bind fun l=>(qb9 g l).bind fun m=>(q64 h k m).bind fun c=>(cond (decide ((c.length : Int) > 400)) (some true) ((idx b a.2.2.1).bind fun n=>(qb9 f n).bind fun o=>(q64 2 o []).bind fun p=>some (decide ((p.length : Int) > 400)))).bind fun q=>(cond q (some true) ((idx b a.2.2.1).bind fun r=>(qb9 g r).bind fun s=>(q64 2 s []).bind fun t=>some (decide ((t.length : Int) > 400)))).bind fun u=>cond u (some (.inr ([],false))) ((cond (decide (a.2.2.1 > 0)) ((q8e c a.1).bind fun v=>some v) (some false)).bind fun w=>cond w ((loop (q8f b a) (a.2.1,a.2.2.2)).bind fun x=>some (.inl (a.1,a.2.1,x))) ((loop (q9i c b a) (0,a.2.2.2)).bind fun y=>some (.inl y))) : Option ((List qb × Int × List q8) ⊕ (List q8 × Bool))).bind fun z=>(match z with | .inl d=>some (.inl (d.1,d.2.1,w64 (a.2.2.1 + 1),d.2.2)) | .inr x1=>some (.inr (.inr x1)))) (some (.inr (.inl a.2.2.2)))
noncomputable def q9u (d : Int) (a : List q8) (b : List q8) : Option (List q8 × Bool):=
  (qh0 a b).bind fun f=>(loop (q6q f a b d) ([],0,0,[]) : Option ((List q8) ⊕ (List q8 × Bool))).bind fun g=>(match g with | .inl c=>some (c,decide ((c.length : Int)≤400)) | .inr h=>some h)
noncomputable def qbj (b : List q8) (a : Int) : Option ((Int) ⊕ ((Unit) ⊕ (List q8 × Int))):=
  cond (decide (a < (b.length : Int))) ((idx b a).bind fun c=>(qdy c).bind fun d=>cond (!d) (some (.inr (.inr ([],8)))) (some (.inl (w64 (a + 1))))) (some (.inr (.inl ())))
noncomputable def qh1 (a : List q8) : Option (List q8 × Int):=
  cond (decide ((a.length : Int) > 400)) (some ([],4)) ((loop (qbj a) 0 : Option ((Unit) ⊕ (List q8 × Int))).bind fun c=>(match c with | .inl _=>(q9u 2 a []).bind fun b=>cond (!b.2) (some ([],4)) (some (b.1,0)) | .inr d=>some d))
noncomputable def q12 (b : List q8) (c : q8→Option Bool) (a : Int) : Option ((Int) ⊕ ((Unit) ⊕ (Int))):=
  cond (decide (a < (b.length : Int))) ((idx b a).bind fun d=>(c d).bind fun f=>cond f (some (.inr (.inr a))) (some (.inl (w64 (a + 1))))) (some (.inr (.inl ())))
noncomputable def q4f (a : List q8) (b : q8→Option Bool) : Option Int:=
  (loop (q12 a b) 0 : Option ((Unit) ⊕ (Int))).bind fun c=>(match c with | .inl _=>some (-1) | .inr d=>some d)
noncomputable def q1t (a : List q8) (b : q8→Option Bool) : Option Bool:=
  (q4f a b).bind fun c=>some (decide (c ≥ 0))
noncomputable def q7n (a : q8) : Option Bool:=
  (qbn a).bind fun b=>some (!b)
noncomputable def q6k (d : List q8) (f : List q8) (c : Int) : Option ((Int) ⊕ ((Unit) ⊕ (Bool))):=
  cond (decide (c < (d.length : Int))) ((idx d c).bind fun a=>(idx f c).bind fun b=>cond (!((a.Lo.X == b.Lo.X) && ((a.Lo.Y == b.Lo.Y) && ((a.Lo.Z == b.Lo.Z) && ((a.Hi.X == b.Hi.X) && ((a.Hi.Y == b.Hi.Y) && ((a.Hi.Z == b.Hi.Z) && true))))))) (some (.inr (.inr false))) (some (.inl (w64 (c + 1))))) (some (.inr (.inl ())))
noncomputable def q51 (a : List q8) (b : List q8) : Option Bool:=
  cond ((a.length : Int) != (b.length : Int)) (some false) ((loop (q6k a b) 0 : Option ((Unit) ⊕ (Bool))).bind fun c=>(match c with | .inl _=>some true | .inr d=>some d))
noncomputable def q77 (a : List q8) : Option Int:=
  cond (decide ((a.length : Int) > 400)) (some 4) ((q1t a (fun c=>q7n c)).bind fun d=>cond d (some 8) ((q6e a).bind fun b=>(cond (b.2 != 0) (some true) ((q51 b.1 a).bind fun f=>some (!f))).bind fun g=>cond g (some 8) (some 0)))
noncomputable def qd2 (a : q8) : Option (Int × Int × Int):=
  some (w64 (a.Hi.X - a.Lo.X),w64 (a.Hi.Y - a.Lo.Y),w64 (a.Hi.Z - a.Lo.Z))
noncomputable def q83 (c : List q8) (a : Int × Int) : Option ((Int × Int) ⊕ (Int)):=
  cond (decide (a.2 < (c.length : Int))) ((idx c a.2).bind fun d=>(qd2 d).bind fun b=>some (.inl (w64 (a.1 + (w64 ((w64 (b.1 * b.2.1)) * b.2.2))),w64 (a.2 + 1)))) (some (.inr a.1))
noncomputable def q98 (a : List q8) : Option (Int × Int):=
  (q77 a).bind fun b=>cond (b != 0) (some (0,b)) ((loop (q83 a) (0,0)).bind fun c=>some (c,0))
noncomputable def qax (d : List q8) (f : List q8) (c : Int) : Option ((Int) ⊕ ((Unit) ⊕ (Bool))):=
  cond (decide (c < (d.length : Int))) ((idx d c).bind fun a=>(idx f c).bind fun b=>cond (!((a.Lo.X == b.Lo.X) && ((a.Lo.Y == b.Lo.Y) && ((a.Lo.Z == b.Lo.Z) && ((a.Hi.X == b.Hi.X) && ((a.Hi.Y == b.Hi.Y) && ((a.Hi.Z == b.Hi.Z) && true))))))) (some (.inr (.inr false))) (some (.inl (w64 (c + 1))))) (some (.inr (.inl ())))
noncomputable def q6r (a : List q8) (b : List q8) : Option Bool:=
  cond ((a.length : Int) != (b.length : Int)) (some false) ((loop (qax a b) 0 : Option ((Unit) ⊕ (Bool))).bind fun c=>(match c with | .inl _=>some true | .inr d=>some d))
noncomputable def qaj (b : List q8) (a : Int) : Option ((Int) ⊕ ((Unit) ⊕ (Int))):=
  cond (decide (a < (b.length : Int))) ((idx b a).bind fun c=>(qdy c).bind fun d=>cond (!d) (some (.inr (.inr 8))) (some (.inl (w64 (a + 1))))) (some (.inr (.inl ())))
noncomputable def q8p (a : List q8) : Option Int:=
  cond (decide ((a.length : Int) > 400)) (some 4) ((loop (qaj a) 0 : Option ((Unit) ⊕ (Int))).bind fun c=>(match c with | .inl _=>(q9u 2 a []).bind fun b=>(cond (!b.2) (some true) ((q6r b.1 a).bind fun d=>some (!d))).bind fun f=>cond f (some 8) (some 0) | .inr g=>some g))
noncomputable def q9j (b : List q8) (a : Int × Int) : Option ((Int × Int) ⊕ (Int)):=
  cond (decide (a.2 < (b.length : Int))) ((idx b a.2).bind fun c=>(idx b a.2).bind fun d=>(idx b a.2).bind fun f=>(idx b a.2).bind fun g=>(idx b a.2).bind fun h=>(idx b a.2).bind fun j=>some (.inl (w64 (a.1 + (w64 ((w64 ((w64 (c.Hi.X - d.Lo.X)) * (w64 (f.Hi.Y - g.Lo.Y)))) * (w64 (h.Hi.Z - j.Lo.Z))))),w64 (a.2 + 1)))) (some (.inr a.1))
noncomputable def qek (a : List q8) : Option (Int × Int):=
  (q8p a).bind fun b=>cond (b != 0) ((q8p a).bind fun c=>some (0,c)) ((loop (q9j a) (0,0)).bind fun d=>some (d,0))
noncomputable def qbm (a : q8) (b : qk) : Option Bool:=
  (cond (decide (a.Lo.X≤b.X)) (some (decide (b.X < a.Hi.X))) (some false)).bind fun c=>(cond c (some (decide (a.Lo.Y≤b.Y))) (some false)).bind fun d=>(cond d (some (decide (b.Y < a.Hi.Y))) (some false)).bind fun f=>(cond f (some (decide (a.Lo.Z≤b.Z))) (some false)).bind fun g=>(cond g (some (decide (b.Z < a.Hi.Z))) (some false)).bind fun h=>some h
noncomputable def qau (a : List q8) (b : qk) : Option Bool:=
  (q1t a (fun c=>qbm c b)).bind fun d=>some d
noncomputable def qld (a : q8) (b : qk) : Option Bool:=
  (cond (decide (a.Lo.X≤b.X)) (some (decide (b.X < a.Hi.X))) (some false)).bind fun c=>(cond c (some (decide (a.Lo.Y≤b.Y))) (some false)).bind fun d=>(cond d (some (decide (b.Y < a.Hi.Y))) (some false)).bind fun f=>(cond f (some (decide (a.Lo.Z≤b.Z))) (some false)).bind fun g=>(cond g (some (decide (b.Z < a.Hi.Z))) (some false)).bind fun h=>some h
noncomputable def qcy (b : List q8) (c : qk) (a : Int) : Option ((Int) ⊕ ((Unit) ⊕ (Bool))):=
  cond (decide (a < (b.length : Int))) ((idx b a).bind fun d=>(qld d c).bind fun f=>cond f (some (.inr (.inr true))) (some (.inl (w64 (a + 1))))) (some (.inr (.inl ())))
noncomputable def qik (a : List q8) (b : qk) : Option Bool:=
  (loop (qcy a b) 0 : Option ((Unit) ⊕ (Bool))).bind fun c=>(match c with | .inl _=>some false | .inr d=>some d)
noncomputable def qep (a : List q8) (b : List q8) : Option Bool:=
  (q51 a b).bind fun c=>some c
noncomputable def qcs (a : List q8) (c : List q8) (d : qk) : Option Bool:=
  (qdx a).bind fun k=>(cond k (some true) ((qdx c).bind fun l=>some l)).bind fun m=>cond m (some true) ((qh2 a).bind fun b=>(qb1 b).bind fun f=>(qh1 a).bind fun g=>(q98 b).bind fun h=>(qek a).bind fun j=>(q77 b).bind fun n=>(q8p a).bind fun o=>(cond (n == o) ((q6r f.1 g.1).bind fun p=>some p) (some false)).bind fun q=>(cond q (some (f.2 == g.2)) (some false)).bind fun r=>(cond r (some (h.1 == j.1)) (some false)).bind fun s=>(cond s (some (h.2 == j.2)) (some false)).bind fun t=>(cond t ((qau b d).bind fun u=>(qik a d).bind fun v=>some (u == v)) (some false)).bind fun w=>(cond w ((qep b c).bind fun x=>(q6r a c).bind fun y=>some (x == y)) (some false)).bind fun z=>(cond z ((q6r b a).bind fun aa=>some aa) (some false)).bind fun ab=>some ab)
noncomputable def q1m (b : List qb) (c : qb→Option Bool) (a : Int) : Option ((Int) ⊕ ((Unit) ⊕ (Int))):=
  cond (decide (a < (b.length : Int))) ((idx b a).bind fun d=>(c d).bind fun f=>cond f (some (.inr (.inr a))) (some (.inl (w64 (a + 1))))) (some (.inr (.inl ())))
noncomputable def q53 (a : List qb) (b : qb→Option Bool) : Option Int:=
  (loop (q1m a b) 0 : Option ((Unit) ⊕ (Int))).bind fun c=>(match c with | .inl _=>some (-1) | .inr d=>some d)
noncomputable def q32 (a : List qb) (b : qb→Option Bool) : Option Bool:=
  (q53 a b).bind fun c=>some (decide (c ≥ 0))
noncomputable def q70 (a : qb) : Option Bool:=
  (qal a).bind fun b=>some (!b)
noncomputable def qck (a : List qb) : Option Int:=
  cond (decide ((a.length : Int) > 400)) (some 4) ((q32 a (fun c=>q70 c)).bind fun d=>cond d (some 8) ((qbl a).bind fun b=>(cond (b.2 != 0) (some true) ((q3r b.1 a).bind fun f=>some (!f))).bind fun g=>cond g (some 8) (some 0)))
noncomputable def q8h (b : List qe) (a : Int) : Option ((Int) ⊕ ((Unit) ⊕ (Int))):=
  cond (decide (a < (b.length : Int))) ((idx b a).bind fun c=>(q9x c).bind fun d=>(cond (!d) (some true) ((cond (decide (a > 0)) ((idx b (w64 (a - 1))).bind fun f=>some (decide (f.Hi ≥ c.Lo))) (some false)).bind fun g=>some g)).bind fun h=>cond h (some (.inr (.inr 8))) (some (.inl (w64 (a + 1))))) (some (.inr (.inl ())))
noncomputable def qgc (a : List qe) : Option Int:=
  cond (decide ((a.length : Int) > 400)) (some 4) ((loop (q8h a) 0 : Option ((Unit) ⊕ (Int))).bind fun b=>(match b with | .inl _=>some 0 | .inr c=>some c))
noncomputable def qgy (a : List q8) (b : List q8) : Option Int:=
  (q8p a).bind fun c=>cond (c != 0) ((q8p a).bind fun d=>some d) ((q8p b).bind fun f=>some f)
structure q4l where
  Turn : Int
  At : qk
  deriving DecidableEq
noncomputable def q8g (c : List q8) (a : Int × Int × Int × Int × Int × Int × Int) : Option ((Int × Int × Int × Int × Int × Int × Int) ⊕ (Int × Int × Int × Int × Int × Int)):=
  cond (decide (a.1 < (c.length : Int))) ((idx c a.1).bind fun b=>some (.inl (w64 (a.1 + 1),min a.2.1 b.Lo.X,min a.2.2.1 b.Lo.Y,min a.2.2.2.1 b.Lo.Z,max a.2.2.2.2.1 b.Hi.X,max a.2.2.2.2.2.1 b.Hi.Y,max a.2.2.2.2.2.2 b.Hi.Z))) (some (.inr (a.2.1,a.2.2.1,a.2.2.2.1,a.2.2.2.2.1,a.2.2.2.2.2.1,a.2.2.2.2.2.2)))
noncomputable def qeo (c : List q8) : Option (q8 × Int):=
  (q77 c).bind fun d=>cond (d != 0) (some (({Lo:=({X:=0,Y:=0,Z:=0} : qk),Hi:=({X:=0,Y:=0,Z:=0} : qk)} : q8),d)) (cond ((c.length : Int) == 0) (some (({Lo:=({X:=0,Y:=0,Z:=0} : qk),Hi:=({X:=0,Y:=0,Z:=0} : qk)} : q8),6)) ((idx c 0).bind fun a=>(loop (q8g c) (0,a.Lo.X,a.Lo.Y,a.Lo.Z,a.Hi.X,a.Hi.Y,a.Hi.Z)).bind fun b=>some (({Lo:=({X:=b.1,Y:=b.2.1,Z:=b.2.2.1} : qk),Hi:=({X:=b.2.2.2.1,Y:=b.2.2.2.2.1,Z:=b.2.2.2.2.2} : qk)} : q8),0)))
noncomputable def qb2 (c : List q8) (d : Int) (a : Int × List qb) : Option ((Int × List qb) ⊕ (List qb)):=
  cond (decide (a.1 < (c.length : Int))) (((idx c a.1).bind fun b=>(cond (decide (b.Lo.Z≤d)) (some (decide (d < b.Hi.Z))) (some false)).bind fun f=>cond f ((app 32 a.2 [({X0:=b.Lo.X,Y0:=b.Lo.Y,X1:=b.Hi.X,Y1:=b.Hi.Y} : qb)]).bind fun g=>some g) (some a.2)).bind fun h=>some (.inl (w64 (a.1 + 1),h))) (some (.inr a.2))
noncomputable def q9k (a : List q8) (c : Int) : Option (List qb × Int):=
  (q77 a).bind fun b=>cond (b != 0) (some ([],b)) ((loop (qb2 a c) (0,[])).bind fun d=>some (d,0))
noncomputable def qbg (a : q8) (b : q8) : Option Int:=
  (cond ((w64 ((min a.Hi.X b.Hi.X) - (max a.Lo.X b.Lo.X))) == 0) (some (decide ((w64 ((min a.Hi.Y b.Hi.Y) - (max a.Lo.Y b.Lo.Y))) > 0))) (some false)).bind fun c=>(cond c (some (decide ((w64 ((min a.Hi.Z b.Hi.Z) - (max a.Lo.Z b.Lo.Z))) > 0))) (some false)).bind fun d=>cond d (some (w64 ((w64 ((min a.Hi.Y b.Hi.Y) - (max a.Lo.Y b.Lo.Y))) * (w64 ((min a.Hi.Z b.Hi.Z) - (max a.Lo.Z b.Lo.Z)))))) ((cond (decide ((w64 ((min a.Hi.X b.Hi.X) - (max a.Lo.X b.Lo.X))) > 0)) (some ((w64 ((min a.Hi.Y b.Hi.Y) - (max a.Lo.Y b.Lo.Y))) == 0)) (some false)).bind fun f=>(cond f (some (decide ((w64 ((min a.Hi.Z b.Hi.Z) - (max a.Lo.Z b.Lo.Z))) > 0))) (some false)).bind fun g=>cond g (some (w64 ((w64 ((min a.Hi.X b.Hi.X) - (max a.Lo.X b.Lo.X))) * (w64 ((min a.Hi.Z b.Hi.Z) - (max a.Lo.Z b.Lo.Z)))))) ((cond (decide ((w64 ((min a.Hi.X b.Hi.X) - (max a.Lo.X b.Lo.X))) > 0)) (some (decide ((w64 ((min a.Hi.Y b.Hi.Y) - (max a.Lo.Y b.Lo.Y))) > 0))) (some false)).bind fun h=>(cond h (some ((w64 ((min a.Hi.Z b.Hi.Z) - (max a.Lo.Z b.Lo.Z))) == 0)) (some false)).bind fun j=>cond j (some (w64 ((w64 ((min a.Hi.X b.Hi.X) - (max a.Lo.X b.Lo.X))) * (w64 ((min a.Hi.Y b.Hi.Y) - (max a.Lo.Y b.Lo.Y)))))) (some 0)))
noncomputable def q6w (b : List q8) (c : q8) (a : Int × Int) : Option ((Int × Int) ⊕ (Int)):=
  cond (decide (a.2 < (b.length : Int))) ((idx b a.2).bind fun d=>(qbg c d).bind fun f=>some (.inl (w64 (a.1 - (w64 (2 * f))),w64 (a.2 + 1)))) (some (.inr a.1))
noncomputable def q6v (c : List q8) (a : Int × Int) : Option ((Int × Int) ⊕ (Int)):=
  cond (decide (a.2 < (c.length : Int))) (((idx c a.2).bind fun d=>(qd2 d).bind fun b=>(slc c 0 a.2).bind fun f=>(loop (q6w f d) (w64 (a.1 + (w64 (2 * (w64 ((w64 ((w64 (b.1 * b.2.1)) + (w64 (b.1 * b.2.2)))) + (w64 (b.2.1 * b.2.2))))))),0)).bind fun g=>some g).bind fun h=>some (.inl (h,w64 (a.2 + 1)))) (some (.inr a.1))
noncomputable def qbf (a : List q8) : Option (Int × Int):=
  (q77 a).bind fun b=>cond (b != 0) (some (0,b)) ((loop (q6v a) (0,0)).bind fun c=>some (c,0))
noncomputable def qav (a : qk) (b : Int) : Option Bool:=
  (cond (decide ((min (min a.X a.Y) a.Z) ≥ b)) (some (decide ((max (max a.X a.Y) a.Z)≤1000000))) (some false)).bind fun c=>some c
noncomputable def qbi (a : q4l) : Option Int:=
  (cond (decide (a.Turn ≥ 24)) (some true) ((qav a.At (-1000000)).bind fun b=>some (!b))).bind fun c=>cond c (some 8) (some 0)
noncomputable def qby (a : Int) : Option qk:=
  cond ((IntKind.wrap .u8 (Int.tdiv a 2)) == 0) (some ({X:=w64 (1 - (w64 (2 * (w64 (Int.tmod a 2))))),Y:=0,Z:=0} : qk)) (cond ((IntKind.wrap .u8 (Int.tdiv a 2)) == 1) (some ({X:=0,Y:=w64 (1 - (w64 (2 * (w64 (Int.tmod a 2))))),Z:=0} : qk)) (some ({X:=0,Y:=0,Z:=w64 (1 - (w64 (2 * (w64 (Int.tmod a 2)))))} : qk)))
noncomputable def qhz (a : qk) (b : qk) : Option qk:=
  some ({X:=w64 ((w64 (a.Y * b.Z)) - (w64 (a.Z * b.Y))),Y:=w64 ((w64 (a.Z * b.X)) - (w64 (a.X * b.Z))),Z:=w64 ((w64 (a.X * b.Y)) - (w64 (a.Y * b.X)))} : qk)
noncomputable def qef (a : Int) : Option (qk × qk × qk):=
  (cond (decide ((Int.tmod a 4) ≥ (IntKind.wrap .u8 ((IntKind.wrap .u8 (Int.tdiv (IntKind.wrap .u8 (Int.tdiv a 4)) 2)) * 2)))) (some (IntKind.wrap .u8 ((Int.tmod a 4) + 2))) (some (Int.tmod a 4))).bind fun d=>(qby (IntKind.wrap .u8 (Int.tdiv a 4))).bind fun b=>(qby d).bind fun c=>(qhz b c).bind fun f=>some (b,c,f)
noncomputable def qfq (a : qk × qk × qk) (b : qk) : Option qk:=
  some ({X:=w64 ((w64 ((w64 (b.X * a.1.X)) + (w64 (b.Y * a.2.1.X)))) + (w64 (b.Z * a.2.2.X))),Y:=w64 ((w64 ((w64 (b.X * a.1.Y)) + (w64 (b.Y * a.2.1.Y)))) + (w64 (b.Z * a.2.2.Y))),Z:=w64 ((w64 ((w64 (b.X * a.1.Z)) + (w64 (b.Y * a.2.1.Z)))) + (w64 (b.Z * a.2.2.Z)))} : qk)
noncomputable def qd9 (a : q4l) (c : qk) : Option qk:=
  (qef a.Turn).bind fun d=>(qfq d c).bind fun b=>some ({X:=w64 (b.X + a.At.X),Y:=w64 (b.Y + a.At.Y),Z:=w64 (b.Z + a.At.Z)} : qk)
noncomputable def qbh (a : q4l) (b : qk) : Option (qk × Int):=
  (qbi a).bind fun c=>cond (c != 0) (some (({X:=0,Y:=0,Z:=0} : qk),c)) ((qav b (-1000000)).bind fun f=>cond (!f) (some (({X:=0,Y:=0,Z:=0} : qk),2)) ((qd9 a b).bind fun d=>(qav d (-1000000)).bind fun g=>cond (!g) (some (({X:=0,Y:=0,Z:=0} : qk),16)) (some (d,0))))
noncomputable def q7t (d : List q8) (f : q4l) (c : Int × List q8) : Option ((Int × List q8) ⊕ ((List q8) ⊕ (List q8 × Int))):=
  cond (decide (c.1 < (d.length : Int))) ((idx d c.1).bind fun g=>(qbh f g.Lo).bind fun a=>(qbh f g.Hi).bind fun b=>(cond (a.2 != 0) (some true) (some (b.2 != 0))).bind fun h=>cond h (some (.inr (.inr ([],16)))) ((app 48 c.2 [({Lo:=({X:=min a.1.X b.1.X,Y:=min a.1.Y b.1.Y,Z:=min a.1.Z b.1.Z} : qk),Hi:=({X:=max a.1.X b.1.X,Y:=max a.1.Y b.1.Y,Z:=max a.1.Z b.1.Z} : qk)} : q8)]).bind fun j=>some (.inl (w64 (c.1 + 1),j)))) (some (.inr (.inl c.2)))
noncomputable def qde (a : List q8) (b : q4l) : Option (List q8 × Int):=
  (q77 a).bind fun c=>cond (c != 0) (some ([],c)) ((qbi b).bind fun d=>cond (d != 0) (some ([],d)) ((loop (q7t a b) (0,[]) : Option ((List q8) ⊕ (List q8 × Int))).bind fun g=>(match g with | .inl h=>(qb1 h).bind fun f=>some (f.1,f.2) | .inr j=>some j)))
noncomputable def q9g (a : Int) (b : Int) (c : Int) (d : Int) (f : Int) (g : Int) : Option q8:=
  some ({Lo:=({X:=a,Y:=b,Z:=c} : qk),Hi:=({X:=d,Y:=f,Z:=g} : qk)} : q8)
noncomputable def q9r : Option (List q8):=
  (q9g 0 0 0 2 2 1).bind fun a=>(q9g 0 0 1 1 2 2).bind fun b=>some [a,b]
noncomputable def qfs : Option Bool:=
  q9r.bind fun f=>(q98 f).bind fun a=>q9r.bind fun g=>(qbf g).bind fun b=>q9r.bind fun h=>(qde h ({Turn:=9,At:=({X:=0,Y:=0,Z:=0} : qk)} : q4l)).bind fun c=>(q9g 0 0 0 1 2 2).bind fun j=>(q9g 1 0 0 2 2 1).bind fun k=>(qb1 [j,k]).bind fun d=>(cond (a.2 == 0) (some (a.1 == 6)) (some false)).bind fun l=>(cond l (some (b.2 == 0)) (some false)).bind fun m=>(cond m (some (b.1 == 22)) (some false)).bind fun n=>(cond n (some (c.2 == 0)) (some false)).bind fun o=>cond o ((q9g (-2) 0 0 0 2 1).bind fun p=>(q9g (-2) 0 1 0 1 2).bind fun q=>(q6r c.1 [p,q]).bind fun r=>(cond r (some (d.2 == 0)) (some false)).bind fun s=>(cond s (q9r.bind fun t=>(q6r d.1 t).bind fun u=>some u) (some false)).bind fun v=>(cond v (q9r.bind fun w=>(qau w ({X:=0,Y:=0,Z:=1} : qk)).bind fun x=>some x) (some false)).bind fun y=>(cond y (q9r.bind fun z=>(qau z ({X:=1,Y:=0,Z:=1} : qk)).bind fun aa=>some (!aa)) (some false)).bind fun ab=>some ab) (some false)
noncomputable def qif (a : List q8) (b : List q8) : Option Bool:=
  (cond (decide ((a.length : Int)≤30)) (some (decide ((b.length : Int)≤30))) (some false)).bind fun c=>(cond c ((qgy a b).bind fun d=>some (d == 0)) (some false)).bind fun f=>some f
def q14j (x : qk) : List DV:=[.int .i64 x.X,.int .i64 x.Y,.int .i64 x.Z]
noncomputable def qii (a : Int) : Option Bool:=
  (cond (decide (a ≥ (-1000000))) (some (decide (a≤1000000))) (some false)).bind fun b=>some b
noncomputable def qhn (a : qb) : Option Bool:=
  (cond (decide (a.X0 < a.X1)) (some (decide (a.Y0 < a.Y1))) (some false)).bind fun b=>(cond b ((qii a.X0).bind fun c=>some c) (some false)).bind fun d=>(cond d ((qii a.X1).bind fun f=>some f) (some false)).bind fun g=>(cond g ((qii a.Y0).bind fun h=>some h) (some false)).bind fun j=>(cond j ((qii a.Y1).bind fun k=>some k) (some false)).bind fun l=>some l
noncomputable def q96 (b : List qb) (a : Int) : Option ((Int) ⊕ ((Unit) ⊕ (Int))):=
  cond (decide (a < (b.length : Int))) ((idx b a).bind fun c=>(qhn c).bind fun d=>cond (!d) (some (.inr (.inr 8))) (some (.inl (w64 (a + 1))))) (some (.inr (.inl ())))
noncomputable def qfu (a : List qb) : Option Int:=
  cond (decide ((a.length : Int) > 400)) (some 4) ((loop (q96 a) 0 : Option ((Unit) ⊕ (Int))).bind fun b=>(match b with | .inl _=>(q64 2 a []).bind fun c=>(q8e c a).bind fun d=>cond (!d) (some 8) (some 0) | .inr f=>some f))
noncomputable def q8y (c : List qb) (a : Int × Int) : Option ((Int × Int) ⊕ (Int)):=
  cond (decide (a.2 < (c.length : Int))) ((idx c a.2).bind fun b=>some (.inl (w64 (a.1 + (w64 ((w64 (b.X1 - b.X0)) * (w64 (b.Y1 - b.Y0))))),w64 (a.2 + 1)))) (some (.inr a.1))
noncomputable def qdb (a : List qb) : Option (Int × Int):=
  (qck a).bind fun b=>cond (b != 0) (some (0,b)) ((loop (q8y a) (0,0)).bind fun c=>some (c,0))
noncomputable def q5q (d : q8 × Int) (f : List q8) (a : Int × Int) : Option ((Int × Int) ⊕ ((Int) ⊕ (Bool))):=
  cond (decide (a.2 < d.1.Hi.Z)) ((q9k f a.2).bind fun b=>(qdb b.1).bind fun c=>(cond (b.2 != 0) (some true) (some (c.2 != 0))).bind fun g=>cond g (some (.inr (.inr false))) (some (.inl (w64 (a.1 - c.1),w64 (a.2 + 1))))) (some (.inr (.inl a.1)))
noncomputable def qac (a : List q8) (d : qk) : Option Bool:=
  qfs.bind fun c=>(qif a []).bind fun h=>(cond (!h) (some true) (some (!c))).bind fun j=>cond j (some c) ((q9k a d.Z).bind fun f=>(cond (f.2 != 0) (some true) ((qfu f.1).bind fun k=>some (k != 0))).bind fun l=>(cond l (some true) ((qf7 f.1 d.X d.Y).bind fun m=>(qau a d).bind fun n=>some (!(m == n)))).bind fun o=>cond o (some false) ((qeo a).bind fun b=>cond (b.2 != 0) ((cond c (some (b.2 == 6)) (some false)).bind fun p=>(cond p (some ((a.length : Int) == 0)) (some false)).bind fun q=>some q) ((cond (decide (b.1.Lo.Z < (-100))) (some true) (some (decide (b.1.Hi.Z > 100)))).bind fun r=>cond r (some c) ((q98 a).bind fun g=>(loop (q5q b a) (g.1,b.1.Lo.Z) : Option ((Int) ⊕ (Bool))).bind fun s=>(match s with | .inl t=>(cond c (some (g.2 == 0)) (some false)).bind fun u=>(cond u (some (t == 0)) (some false)).bind fun v=>some v | .inr w=>some w)))))
noncomputable def qrw (a : qe) : Option Bool:=
  (cond (decide (a.Lo < a.Hi)) (some (decide (a.Lo ≥ (-1000000)))) (some false)).bind fun b=>(cond b (some (decide (a.Hi≤1000000))) (some false)).bind fun c=>some c
noncomputable def qgw (b : List qe) (a : Int) : Option ((Int) ⊕ ((Unit) ⊕ (Int))):=
  cond (decide (a < (b.length : Int))) ((idx b a).bind fun c=>(qrw c).bind fun d=>(cond (!d) (some true) ((cond (decide (a > 0)) ((idx b (w64 (a - 1))).bind fun f=>(idx b a).bind fun g=>some (decide (f.Hi ≥ g.Lo))) (some false)).bind fun h=>some h)).bind fun j=>cond j (some (.inr (.inr 8))) (some (.inl (w64 (a + 1))))) (some (.inr (.inl ())))
noncomputable def qhl (a : List qe) : Option Int:=
  cond (decide ((a.length : Int) > 400)) (some 4) ((loop (qgw a) 0 : Option ((Unit) ⊕ (Int))).bind fun b=>(match b with | .inl _=>some 0 | .inr c=>some c))
noncomputable def qda (b : List qe) (a : Int × List Int) : Option ((Int × List Int) ⊕ (List Int)):=
  cond (decide (a.1 < (b.length : Int))) ((idx b a.1).bind fun c=>(idx b a.1).bind fun d=>(app 8 a.2 [c.Lo,d.Hi]).bind fun f=>some (.inl (w64 (a.1 + 1),f))) (some (.inr a.2))
noncomputable def qni (b : List qe) (a : Int × List Int) : Option ((Int × List Int) ⊕ (List Int)):=
  cond (decide (a.1 < (b.length : Int))) ((idx b a.1).bind fun c=>(idx b a.1).bind fun d=>(app 8 a.2 [c.Lo,d.Hi]).bind fun f=>some (.inl (w64 (a.1 + 1),f))) (some (.inr a.2))
noncomputable def qo6 (a : List qe) (b : List qe) : Option (List Int):=
  (loop (qda a) (0,[])).bind fun c=>(loop (qni b) (0,c)).bind fun d=>(q6p d).bind fun f=>some f
noncomputable def qej (b : List qe) (c : Int) (a : Int) : Option ((Int) ⊕ ((Unit) ⊕ (Bool))):=
  cond (decide (a < (b.length : Int))) ((idx b a).bind fun d=>(cond (decide (d.Lo≤c)) ((idx b a).bind fun f=>some (decide (c < f.Hi))) (some false)).bind fun g=>cond g (some (.inr (.inr true))) (some (.inl (w64 (a + 1))))) (some (.inr (.inl ())))
noncomputable def qmk (a : List qe) (b : Int) : Option Bool:=
  (loop (qej a b) 0 : Option ((Unit) ⊕ (Bool))).bind fun c=>(match c with | .inl _=>some false | .inr d=>some d)
noncomputable def qb7 (b : List Int) (c : List qe) (d : List qe) (f : Int) (a : Int × List Bool) : Option ((Int × List Bool) ⊕ (List Bool)):=
  cond (decide (a.1 < (b.length : Int))) ((idx b a.1).bind fun g=>(qmk c g).bind fun h=>(idx b a.1).bind fun j=>(qmk d j).bind fun k=>(qdv f h k).bind fun l=>(app 1 a.2 [l]).bind fun m=>some (.inl (w64 (a.1 + 1),m))) (some (.inr a.2))
noncomputable def qg7 (d : Int) (a : List qe) (b : List qe) : Option (List qe):=
  (qo6 a b).bind fun c=>(loop (qb7 c a b d) (0,[])).bind fun f=>(qcf c f).bind fun g=>some g
noncomputable def qap (b : List qe) (a : Int × Int) : Option ((Int × Int) ⊕ (Int)):=
  cond (decide (a.2 < (b.length : Int))) ((idx b a.2).bind fun c=>some (.inl (w64 (a.1 + (w64 (c.Hi - c.Lo))),w64 (a.2 + 1)))) (some (.inr a.1))
noncomputable def qno (a : List qe) : Option (Int × Int):=
  (qgc a).bind fun b=>cond (b != 0) (some (0,b)) ((loop (qap a) (0,0)).bind fun c=>some (c,0))
noncomputable def qb8 (b : List qe) (a : Int × Int) : Option ((Int × Int) ⊕ (Int)):=
  cond (decide (a.2 < (b.length : Int))) ((idx b a.2).bind fun c=>(idx b a.2).bind fun d=>some (.inl (w64 ((w64 (a.1 + c.Hi)) - d.Lo),w64 (a.2 + 1)))) (some (.inr a.1))
noncomputable def qpg (a : List qe) : Option (Int × Int):=
  (qhl a).bind fun b=>cond (b != 0) ((qhl a).bind fun c=>some (0,c)) ((loop (qb8 a) (0,0)).bind fun d=>some (d,0))
structure qr5 where
  Frame : q4l
  Size : qk
  deriving DecidableEq
structure qt1 where
  t_ : Int
  at_ : qk
  flat_ : qk
  deriving DecidableEq
end Go.Sh
