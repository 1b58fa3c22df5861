/- PX -/
import Derived.Test.YtjjmcdlnadkjbaaGreatK7
namespace Go.Sh
open Go Go.Am
structure qj where
  X : Int
  Y : Int
  Z : Int
  deriving DecidableEq
structure qg where
  Lo : qj
  Hi : qj
  deriving DecidableEq
def qy (x : qg) : List DV:=[.int .i64 x.Lo.X,.int .i64 x.Lo.Y,.int .i64 x.Lo.Z,.int .i64 x.Hi.X,.int .i64 x.Hi.Y,.int .i64 x.Hi.Z]
noncomputable def q3b (b : List qg) (c : qg→Option Bool) (a : Int) : Option ((Int) ⊕ ((Unit) ⊕ (Int))):=
  cond (decide (a < (b.length : Int))) ((idx b a).bind fun d=>(c d).bind fun f=>cond f (some (.inr (.inr a))) (some (.inl (w64 (a + 1))))) (some (.inr (.inl ())))
noncomputable def qb4 (a : List qg) (b : qg→Option Bool) : Option Int:=
  (loop (q3b a b) 0 : Option ((Unit) ⊕ (Int))).bind fun c=>(match c with | .inl _=>some (-1) | .inr d=>some d)
noncomputable def q82 (a : List qg) (b : qg→Option Bool) : Option Bool:=
  (qb4 a b).bind fun c=>some (decide (c ≥ 0))
noncomputable def q6h (a : qj) : Option Bool:=
  (cond (decide ((min (min a.X a.Y) a.Z) ≥ (-1000000))) (some (decide ((max (max a.X a.Y) a.Z)≤1000000))) (some false)).bind fun b=>some b
noncomputable def q6j (a : qg) : Option Bool:=
  (cond (decide (a.Lo.X < a.Hi.X)) (some (decide (a.Lo.Y < a.Hi.Y))) (some false)).bind fun b=>(cond b (some (decide (a.Lo.Z < a.Hi.Z))) (some false)).bind fun c=>(cond c ((q6h a.Lo).bind fun d=>some d) (some false)).bind fun f=>(cond f ((q6h a.Hi).bind fun g=>some g) (some false)).bind fun h=>some h
noncomputable def q24 (a : qg) : Option Bool:=
  (q6j a).bind fun b=>some (!b)
def Kd (x : List qg) : List DV:=[.sl 6 (x.map qy)]
def qbb : ByteArray:=⟨#[0,1,2,2,3,3,3,3,4,4,4,4,4,4,4,4,5,5,5,5,5,5,5,5,5,5,5,5,5,5,5,5,6,6,6,6,6,6,6,6,6,6,6,6,6,6,6,6,6,6,6,6,6,6,6,6,6,6,6,6,6,6,6,6,7,7,7,7,7,7,7,7,7,7,7,7,7,7,7,7,7,7,7,7,7,7,7,7,7,7,7,7,7,7,7,7,7,7,7,7,7,7,7,7,7,7,7,7,7,7,7,7,7,7,7,7,7,7,7,7,7,7,7,7,7,7,7,7,8,8,8,8,8,8,8,8,8,8,8,8,8,8,8,8,8,8,8,8,8,8,8,8,8,8,8,8,8,8,8,8,8,8,8,8,8,8,8,8,8,8,8,8,8,8,8,8,8,8,8,8,8,8,8,8,8,8,8,8,8,8,8,8,8,8,8,8,8,8,8,8,8,8,8,8,8,8,8,8,8,8,8,8,8,8,8,8,8,8,8,8,8,8,8,8,8,8,8,8,8,8,8,8,8,8,8,8,8,8,8,8,8,8,8,8,8,8,8,8,8,8,8,8,8,8,8,8]⟩
noncomputable def q1n (c : Int) : Option Int:=
  (cond (decide (c ≥ 4294967296)) (some (Int.fdiv c (2 ^ 32),32)) (some (c,0))).bind fun a=>(cond (decide (a.1 ≥ 65536)) (some (Int.fdiv a.1 (2 ^ 16),w64 (a.2 + 16))) (some (a.1,a.2))).bind fun b=>(cond (decide (b.1 ≥ 256)) (some (Int.fdiv b.1 (2 ^ 8),w64 (b.2 + 8))) (some (b.1,b.2))).bind fun d=>(q3z qbb (IntKind.wrap .u8 d.1)).bind fun f=>some (w64 (d.2 + (w64 f)))
noncomputable def U1 (a : Int) : Option Int:=
  (q1n a).bind fun b=>some b
noncomputable def q6r (a : Int) : Option Bool:=
  some (a != a)
noncomputable def Yh (a : Int) (b : Int) : Option Bool:=
  (q6r a).bind fun c=>(cond c ((q6r b).bind fun d=>some (!d)) (some false)).bind fun f=>(cond f (some true) (some (decide (a < b)))).bind fun g=>some g
noncomputable def q5p (c : Int) (a : Int × List Int) : Option ((Int × List Int) ⊕ (List Int)):=
  (cond (decide (a.1 > c)) ((idx a.2 a.1).bind fun d=>(idx a.2 (w64 (a.1 - 1))).bind fun f=>(Yh d f).bind fun g=>some g) (some false)).bind fun h=>cond h ((idx a.2 (w64 (a.1 - 1))).bind fun b=>(idx a.2 a.1).bind fun j=>(idx a.2 a.1).bind fun _=>(idx (a.2.set a.1.toNat b) (w64 (a.1 - 1))).bind fun _=>some (.inl (w64 (a.1 - 1),(a.2.set a.1.toNat b).set (w64 (a.1 - 1)).toNat j))) (some (.inr a.2))
noncomputable def q5o (b : Int) (c : Int) (a : Int × List Int) : Option ((Int × List Int) ⊕ (List Int)):=
  cond (decide (a.1 < b)) (((loop (q5p c) (a.1,a.2)).bind fun d=>some d).bind fun f=>some (.inl (w64 (a.1 + 1),f))) (some (.inr a.2))
noncomputable def q5n (b : List Int) (a : Int) (c : Int) : Option (List Int):=
  (loop (q5o c a) (w64 (a + 1),b)).bind fun d=>some d
noncomputable def q6b (d : Int) (b : Int) (a : Int × List Int) : Option ((Int × List Int) ⊕ (List Int)):=
  cond (decide ((w64 ((w64 (2 * a.1)) + 1)) ≥ d)) (some (.inr a.2)) ((cond (decide ((w64 ((w64 ((w64 (2 * a.1)) + 1)) + 1)) < d)) ((idx a.2 (w64 (b + (w64 ((w64 (2 * a.1)) + 1))))).bind fun g=>(idx a.2 (w64 ((w64 (b + (w64 ((w64 (2 * a.1)) + 1)))) + 1))).bind fun h=>(Yh g h).bind fun j=>some j) (some false)).bind fun k=>(cond k (some (w64 ((w64 ((w64 (2 * a.1)) + 1)) + 1))) (some (w64 ((w64 (2 * a.1)) + 1)))).bind fun c=>(idx a.2 (w64 (b + a.1))).bind fun l=>(idx a.2 (w64 (b + c))).bind fun m=>(Yh l m).bind fun n=>cond (!n) (some (.inr a.2)) ((idx a.2 (w64 (b + c))).bind fun f=>(idx a.2 (w64 (b + a.1))).bind fun o=>(idx a.2 (w64 (b + a.1))).bind fun _=>(idx (a.2.set (w64 (b + a.1)).toNat f) (w64 (b + c))).bind fun _=>some (.inl (c,(a.2.set (w64 (b + a.1)).toNat f).set (w64 (b + c)).toNat o))))
noncomputable def q3k (a : List Int) (b : Int) (c : Int) (d : Int) : Option (List Int):=
  (loop (q6b c d) (b,a)).bind fun f=>some f
noncomputable def q5l (d : Int) (b : Int) (a : Int × List Int) : Option ((Int × List Int) ⊕ (List Int)):=
  cond (decide (a.1 ≥ 0)) ((q3k a.2 a.1 (w64 (d - b)) b).bind fun c=>(Qm c.length a.2.length).bind fun _=>some (.inl (w64 (a.1 - 1),c))) (some (.inr a.2))
noncomputable def q5m (b : Int) (a : Int × List Int) : Option ((Int × List Int) ⊕ (List Int)):=
  cond (decide (a.1 ≥ 0)) ((idx a.2 (w64 (b + a.1))).bind fun c=>(idx a.2 b).bind fun d=>(idx a.2 b).bind fun _=>(idx (a.2.set b.toNat c) (w64 (b + a.1))).bind fun _=>(q3k ((a.2.set b.toNat c).set (w64 (b + a.1)).toNat d) 0 a.1 b).bind fun f=>(Qm f.length ((a.2.set b.toNat c).set (w64 (b + a.1)).toNat d).length).bind fun _=>some (.inl (w64 (a.1 - 1),f))) (some (.inr a.2))
noncomputable def q5k (c : List Int) (a : Int) (b : Int) : Option (List Int):=
  (loop (q5l b a) (w64 (Int.tdiv (w64 ((w64 (b - a)) - 1)) 2),c)).bind fun d=>(loop (q5m a) (w64 ((w64 (b - a)) - 1),d)).bind fun f=>some f
noncomputable def q21 (c : List Int) (a : Int) (b : Int) (d : Int) : Option (Int × Int × Int):=
  (idx c b).bind fun f=>(idx c a).bind fun g=>(Yh f g).bind fun h=>cond h (some (b,a,w64 (d + 1))) (some (a,b,d))
noncomputable def q3e (a : List Int) (f : Int) (g : Int) (h : Int) (j : Int) : Option (Int × Int):=
  (q21 a f g j).bind fun b=>(q21 a b.2.1 h b.2.2).bind fun c=>(q21 a b.1 c.1 c.2.2).bind fun d=>some (d.2.1,d.2.2)
noncomputable def q20 (c : List Int) (a : Int) (d : Int) : Option (Int × Int):=
  (q3e c (w64 (a - 1)) a (w64 (a + 1)) d).bind fun b=>some (b.1,b.2)
noncomputable def q5j (d : List Int) (a : Int) (b : Int) : Option (Int × Int):=
  (cond (decide ((w64 (b - a)) ≥ 8)) ((cond (decide ((w64 (b - a)) ≥ 50)) ((q20 d (w64 (a + (w64 ((w64 (Int.tdiv (w64 (b - a)) 4)) * 1)))) 0).bind fun g=>(q20 d (w64 (a + (w64 ((w64 (Int.tdiv (w64 (b - a)) 4)) * 2)))) g.2).bind fun h=>(q20 d (w64 (a + (w64 ((w64 (Int.tdiv (w64 (b - a)) 4)) * 3)))) h.2).bind fun j=>some (g.1,h.1,j.1,j.2)) (some (w64 (a + (w64 ((w64 (Int.tdiv (w64 (b - a)) 4)) * 1))),w64 (a + (w64 ((w64 (Int.tdiv (w64 (b - a)) 4)) * 2))),w64 (a + (w64 ((w64 (Int.tdiv (w64 (b - a)) 4)) * 3))),0))).bind fun f=>(q3e d f.1 f.2.1 f.2.2.1 f.2.2.2).bind fun k=>some (k.1,k.2)) (some (w64 (a + (w64 ((w64 (Int.tdiv (w64 (b - a)) 4)) * 2))),0))).bind fun c=>cond (c.2 == 0) (some (c.1,1)) (cond (c.2 == 12) (some (c.1,2)) (some (c.1,0)))
noncomputable def q8y (a : Int × Int × List Int) : Option ((Int × Int × List Int) ⊕ (List Int)):=
  cond (decide (a.1 < a.2.1)) ((idx a.2.2 a.2.1).bind fun b=>(idx a.2.2 a.1).bind fun c=>(idx a.2.2 a.1).bind fun _=>(idx (a.2.2.set a.1.toNat b) a.2.1).bind fun _=>some (.inl (w64 (a.1 + 1),w64 (a.2.1 - 1),(a.2.2.set a.1.toNat b).set a.2.1.toNat c))) (some (.inr a.2.2))
noncomputable def q69 (a : List Int) (b : Int) (c : Int) : Option (List Int):=
  (loop q8y (b,w64 (c - 1),a)).bind fun d=>some d
noncomputable def q5t (c : Int) (b : Int × Int × List Int) (a : Int) : Option ((Int) ⊕ (Int)):=
  (cond (decide (a < c)) ((idx b.2.2 a).bind fun d=>(idx b.2.2 (w64 (a - 1))).bind fun f=>(Yh d f).bind fun g=>some (!g)) (some false)).bind fun h=>cond h (some (.inl (w64 (a + 1)))) (some (.inr a))
noncomputable def q8l (a : Int × List Int) : Option ((Int × List Int) ⊕ (List Int)):=
  cond (decide (a.1 ≥ 1)) ((idx a.2 a.1).bind fun c=>(idx a.2 (w64 (a.1 - 1))).bind fun d=>(Yh c d).bind fun f=>cond (!f) (some (.inr a.2)) ((idx a.2 (w64 (a.1 - 1))).bind fun b=>(idx a.2 a.1).bind fun g=>(idx a.2 a.1).bind fun _=>(idx (a.2.set a.1.toNat b) (w64 (a.1 - 1))).bind fun _=>some (.inl (w64 (a.1 - 1),(a.2.set a.1.toNat b).set (w64 (a.1 - 1)).toNat g)))) (some (.inr a.2))
noncomputable def q5u (d : Int) (b : Int) (a : Int × List Int) : Option ((Int × List Int) ⊕ (Int × List Int)):=
  cond (decide (a.1 < d)) ((idx a.2 a.1).bind fun f=>(idx a.2 (w64 (a.1 - 1))).bind fun g=>(Yh f g).bind fun h=>cond (!h) (some (.inr (b,a.2))) ((idx a.2 (w64 (a.1 - 1))).bind fun c=>(idx a.2 a.1).bind fun j=>(idx a.2 a.1).bind fun _=>(idx (a.2.set a.1.toNat c) (w64 (a.1 - 1))).bind fun _=>some (.inl (w64 (a.1 + 1),(a.2.set a.1.toNat c).set (w64 (a.1 - 1)).toNat j)))) (some (.inr (b,a.2)))
noncomputable def q3h (c : Int) (g : Int) (b : Int × Int × List Int) : Option ((Int × Int × List Int) ⊕ ((List Int) ⊕ (Bool × List Int))):=
  cond (decide (b.2.1 < 5)) (((loop (q5t c b) b.1).bind fun a=>cond (a == c) (some (.inr (true,b.2.2))) (cond (decide ((w64 (c - g)) < 50)) (some (.inr (false,b.2.2))) ((idx b.2.2 (w64 (a - 1))).bind fun d=>(idx b.2.2 a).bind fun h=>(idx b.2.2 a).bind fun _=>(idx (b.2.2.set a.toNat d) (w64 (a - 1))).bind fun _=>(cond (decide ((w64 (a - g)) ≥ 2)) ((loop q8l (w64 (a - 1),(b.2.2.set a.toNat d).set (w64 (a - 1)).toNat h)).bind fun f=>some f) (some ((b.2.2.set a.toNat d).set (w64 (a - 1)).toNat h))).bind fun j=>cond (decide ((w64 (c - a)) ≥ 2)) ((loop (q5u c a) (w64 (a + 1),j)).bind fun f=>some (.inl f)) (some (.inl (a,j))))) : Option ((Int × List Int) ⊕ (Bool × List Int))).bind fun l=>(match l with | .inl k=>some (.inl (k.1,w64 (b.2.1 + 1),k.2)) | .inr m=>some (.inr (.inr m)))) (some (.inr (.inl b.2.2)))
noncomputable def q3g (b : List Int) (a : Int) (c : Int) : Option (Bool × List Int):=
  (loop (q3h c a) (w64 (a + 1),0,b) : Option ((List Int) ⊕ (Bool × List Int))).bind fun d=>(match d with | .inl f=>some (false,f) | .inr g=>some g)
noncomputable def q5x (b : Int × Int × List Int) (c : Int) (a : Int) : Option ((Int) ⊕ (Int)):=
  (cond (decide (a≤b.2.1)) ((idx b.2.2 c).bind fun d=>(idx b.2.2 a).bind fun f=>(Yh d f).bind fun g=>some (!g)) (some false)).bind fun h=>cond h (some (.inl (w64 (a + 1)))) (some (.inr a))
noncomputable def q5y (c : Int) (b : Int × Int × List Int) (d : Int) (a : Int) : Option ((Int) ⊕ (Int)):=
  (cond (decide (c≤a)) ((idx b.2.2 d).bind fun f=>(idx b.2.2 a).bind fun g=>(Yh f g).bind fun h=>some h) (some false)).bind fun j=>cond j (some (.inl (w64 (a - 1)))) (some (.inr a))
noncomputable def q5w (d : Int) (a : Int × Int × List Int) : Option ((Int × Int × List Int) ⊕ (Int × List Int)):=
  (loop (q5x a d) a.1).bind fun b=>(loop (q5y b a d) a.2.1).bind fun c=>cond (decide (b > c)) (some (.inr (b,a.2.2))) ((idx a.2.2 c).bind fun f=>(idx a.2.2 b).bind fun g=>(idx a.2.2 b).bind fun _=>(idx (a.2.2.set b.toNat f) c).bind fun _=>some (.inl (w64 (b + 1),w64 (c - 1),(a.2.2.set b.toNat f).set c.toNat g)))
noncomputable def q5v (b : List Int) (a : Int) (g : Int) (c : Int) : Option (Int × List Int):=
  (idx b c).bind fun d=>(idx b a).bind fun h=>(idx b a).bind fun _=>(idx (b.set a.toNat d) c).bind fun _=>(loop (q5w a) (w64 (a + 1),w64 (g - 1),(b.set a.toNat d).set c.toNat h)).bind fun f=>some (f.1,f.2)
noncomputable def q60 (h : Int) (c : List Int) (b : Int) (d : Int) (f : Int) (g : Int) (a : Int) : Option ((Int) ⊕ (Int)):=
  (cond (decide (a≤(w64 (h - 1)))) ((idx ((c.set b.toNat d).set f.toNat g) a).bind fun j=>(idx ((c.set b.toNat d).set f.toNat g) b).bind fun k=>(Yh j k).bind fun l=>some l) (some false)).bind fun m=>cond m (some (.inl (w64 (a + 1)))) (some (.inr a))
noncomputable def q61 (h : Int) (c : List Int) (b : Int) (d : Int) (f : Int) (g : Int) (a : Int) : Option ((Int) ⊕ (Int)):=
  (cond (decide (h≤a)) ((idx ((c.set b.toNat d).set f.toNat g) a).bind fun j=>(idx ((c.set b.toNat d).set f.toNat g) b).bind fun k=>(Yh j k).bind fun l=>some (!l)) (some false)).bind fun m=>cond m (some (.inl (w64 (a - 1)))) (some (.inr a))
noncomputable def q63 (b : Int × Int × List Int) (c : Int) (a : Int) : Option ((Int) ⊕ (Int)):=
  (cond (decide (a≤b.2.1)) ((idx b.2.2 a).bind fun d=>(idx b.2.2 c).bind fun f=>(Yh d f).bind fun g=>some g) (some false)).bind fun h=>cond h (some (.inl (w64 (a + 1)))) (some (.inr a))
noncomputable def q64 (c : Int) (b : Int × Int × List Int) (d : Int) (a : Int) : Option ((Int) ⊕ (Int)):=
  (cond (decide (c≤a)) ((idx b.2.2 a).bind fun f=>(idx b.2.2 d).bind fun g=>(Yh f g).bind fun h=>some (!h)) (some false)).bind fun j=>cond j (some (.inl (w64 (a - 1)))) (some (.inr a))
noncomputable def q62 (d : Int) (a : Int × Int × List Int) : Option ((Int × Int × List Int) ⊕ (Int × List Int)):=
  (loop (q63 a d) a.1).bind fun b=>(loop (q64 b a d) a.2.1).bind fun c=>cond (decide (b > c)) (some (.inr (c,a.2.2))) ((idx a.2.2 c).bind fun f=>(idx a.2.2 b).bind fun g=>(idx a.2.2 b).bind fun _=>(idx (a.2.2.set b.toNat f) c).bind fun _=>some (.inl (w64 (b + 1),w64 (c - 1),(a.2.2.set b.toNat f).set c.toNat g)))
noncomputable def q5z (b : List Int) (a : Int) (k : Int) (c : Int) : Option (Int × Bool × List Int):=
  (idx b c).bind fun d=>(idx b a).bind fun f=>(idx b a).bind fun _=>(idx (b.set a.toNat d) c).bind fun _=>(loop (q60 k b a d c f) (w64 (a + 1))).bind fun j=>(loop (q61 j b a d c f) (w64 (k - 1))).bind fun g=>cond (decide (j > g)) ((idx ((b.set a.toNat d).set c.toNat f) a).bind fun l=>(idx ((b.set a.toNat d).set c.toNat f) g).bind fun o=>(idx ((b.set a.toNat d).set c.toNat f) g).bind fun _=>(idx (((b.set a.toNat d).set c.toNat f).set g.toNat l) a).bind fun _=>some (g,true,(((b.set a.toNat d).set c.toNat f).set g.toNat l).set a.toNat o)) ((idx ((b.set a.toNat d).set c.toNat f) g).bind fun m=>(idx ((b.set a.toNat d).set c.toNat f) j).bind fun p=>(idx ((b.set a.toNat d).set c.toNat f) j).bind fun _=>(idx (((b.set a.toNat d).set c.toNat f).set j.toNat m) g).bind fun _=>(loop (q62 a) (w64 (j + 1),w64 (g - 1),(((b.set a.toNat d).set c.toNat f).set j.toNat m).set g.toNat p)).bind fun h=>(idx h.2 a).bind fun n=>(idx h.2 h.1).bind fun q=>(idx h.2 h.1).bind fun _=>(idx (h.2.set h.1.toNat n) a).bind fun _=>some (h.1,false,(h.2.set h.1.toNat n).set a.toNat q))
noncomputable def q10 (a : Int) : Option Int:=
  (U1 (IntKind.wrap .u64 a)).bind fun b=>(shlK .u64 1 b).bind fun c=>some c
noncomputable def q11 (a : Int) : Option Int:=
  some (xorI .u64 (xorI .u64 (xorI .u64 a (IntKind.wrap .u64 (a * (2 ^ 13)))) (Int.fdiv (xorI .u64 a (IntKind.wrap .u64 (a * (2 ^ 13)))) (2 ^ 7))) (IntKind.wrap .u64 ((xorI .u64 (xorI .u64 a (IntKind.wrap .u64 (a * (2 ^ 13)))) (Int.fdiv (xorI .u64 a (IntKind.wrap .u64 (a * (2 ^ 13)))) (2 ^ 7))) * (2 ^ 17))))
noncomputable def q5i (b : Int) (d : Int) (f : Int) (a : Int × List Int × Int) : Option ((Int × List Int × Int) ⊕ (List Int)):=
  cond (decide (a.1≤(w64 ((w64 (b + (w64 ((w64 (Int.tdiv (w64 (d - b)) 4)) * 2)))) + 1)))) ((q11 a.2.2).bind fun c=>(cond (decide ((w64 (andI .u64 c (IntKind.wrap .u64 (f - 1)))) ≥ (w64 (d - b)))) (some (w64 ((w64 (andI .u64 c (IntKind.wrap .u64 (f - 1)))) - (w64 (d - b))))) (some (w64 (andI .u64 c (IntKind.wrap .u64 (f - 1)))))).bind fun g=>(idx a.2.1 (w64 (b + g))).bind fun h=>(idx a.2.1 a.1).bind fun j=>(idx a.2.1 a.1).bind fun _=>(idx (a.2.1.set a.1.toNat h) (w64 (b + g))).bind fun _=>some (.inl (w64 (a.1 + 1),(a.2.1.set a.1.toNat h).set (w64 (b + g)).toNat j,c))) (some (.inr a.2.1))
noncomputable def q5h (c : List Int) (a : Int) (b : Int) : Option (List Int):=
  cond (decide ((w64 (b - a)) ≥ 8)) ((q10 (w64 (b - a))).bind fun d=>(loop (q5i a b d) (w64 ((w64 (a + (w64 ((w64 (Int.tdiv (w64 (b - a)) 4)) * 2)))) - 1),c,IntKind.wrap .u64 (w64 (b - a)))).bind fun f=>some f) (some c)
noncomputable def q3i (rec : List Int→Int→Int→Int→Option (List Int)) (a : Int × Int × Int × Bool × Bool × List Int) : Option ((Int × Int × Int × Bool × Bool × List Int) ⊕ (List Int)):=
  cond (decide ((w64 (a.2.1 - a.1))≤12)) ((q5n a.2.2.2.2.2 a.1 a.2.1).bind fun k=>(Qm k.length a.2.2.2.2.2.length).bind fun _=>some (.inr k)) (cond (a.2.2.1 == 0) ((q5k a.2.2.2.2.2 a.1 a.2.1).bind fun l=>(Qm l.length a.2.2.2.2.2.length).bind fun _=>some (.inr l)) ((cond (!a.2.2.2.1) ((q5h a.2.2.2.2.2 a.1 a.2.1).bind fun m=>(Qm m.length a.2.2.2.2.2.length).bind fun _=>some (w64 (a.2.2.1 - 1),m)) (some (a.2.2.1,a.2.2.2.2.2))).bind fun c=>(q5j c.2 a.1 a.2.1).bind fun g=>(cond (g.2 == 2) ((q69 c.2 a.1 a.2.1).bind fun n=>(Qm n.length c.2.length).bind fun _=>some (w64 ((w64 (a.2.1 - 1)) - (w64 (g.1 - a.1))),1,n)) (some (g.1,g.2,c.2))).bind fun d=>(cond a.2.2.2.1 (some a.2.2.2.2.1) (some false)).bind fun q=>(cond q (some (d.2.1 == 1)) (some false)).bind fun r=>(cond r ((q3g d.2.2 a.1 a.2.1).bind fun h=>(Qm h.2.length d.2.2.length).bind fun _=>cond h.1 (some (.inr h.2)) (some (.inl h.2))) (some (.inl d.2.2)) : Option ((List Int) ⊕ (List Int))).bind fun s=>(match s with | .inl f=>(cond (decide (a.1 > 0)) ((idx f (w64 (a.1 - 1))).bind fun t=>(idx f d.1).bind fun u=>(Yh t u).bind fun v=>some (!v)) (some false)).bind fun w=>cond w ((q5v f a.1 a.2.1 d.1).bind fun j=>(Qm j.2.length f.length).bind fun _=>some (.inl (j.1,a.2.1,c.1,a.2.2.2.1,a.2.2.2.2.1,j.2))) ((q5z f a.1 a.2.1 d.1).bind fun b=>(Qm b.2.2.length f.length).bind fun _=>cond (decide ((w64 (b.1 - a.1)) < (w64 (a.2.1 - b.1)))) ((rec b.2.2 a.1 b.1 c.1).bind fun o=>(Qm o.length b.2.2.length).bind fun _=>some (.inl (w64 (b.1 + 1),a.2.1,c.1,decide ((w64 (b.1 - a.1)) ≥ (w64 (Int.tdiv (w64 (a.2.1 - a.1)) 8))),b.2.1,o))) ((rec b.2.2 (w64 (b.1 + 1)) a.2.1 c.1).bind fun p=>(Qm p.length b.2.2.length).bind fun _=>some (.inl (a.1,b.1,c.1,decide ((w64 (a.2.1 - b.1)) ≥ (w64 (Int.tdiv (w64 (a.2.1 - a.1)) 8))),b.2.1,p)))) | .inr x=>some (.inr x))))
noncomputable def q3j (rec : List Int→Int→Int→Int→Option (List Int)) (a : List Int) (b : Int) (c : Int) (d : Int) : Option (List Int):=
  (loop (q3i rec) (b,c,d,true,true,a)).bind fun f=>some f
noncomputable def q68 : Nat→List Int→Int→Int→Int→Option (List Int)
  | 0,_,_,_,_=>none
  | n + 1,a,b,c,d=>q3j (q68 n)  a b c d
noncomputable def U9 (a : List Int) : Option (List Int):=
  (U1 (IntKind.wrap .u64 (a.length : Int))).bind fun c=>(lim (fun n=>q68 n a 0 (a.length : Int) c)).bind fun b=>(Qm b.length a.length).bind fun _=>some b
noncomputable def Uz (a : Int × (Nat × Nat) × Int × List Int) : Option ((Int × (Nat × Nat) × Int × List Int) ⊕ (Int × List Int)):=
  cond (decide (a.2.2.1 < (a.2.1.2 : Int))) (((idxW a.2.2.2 a.2.1 a.2.2.1).bind fun c=>(idxW a.2.2.2 a.2.1 (w64 (a.2.2.1 - 1))).bind fun d=>cond (c != d) ((idxW a.2.2.2 a.2.1 a.2.2.1).bind fun f=>(idx a.2.2.2 a.1).bind fun _=>some (w64 (a.1 + 1),a.2.1,a.2.2.2.set a.1.toNat f)) (some (a.1,a.2.1,a.2.2.2))).bind fun b=>some (.inl (b.1,b.2.1,w64 (a.2.2.1 + 1),b.2.2))) (some (.inr (a.1,a.2.2.2)))
noncomputable def Zi (a : List Int) (b : Int) : Option ((Int) ⊕ ((Unit) ⊕ ((Nat × Nat) × List Int))):=
  cond (decide (b < (a.length : Int))) ((idx a b).bind fun d=>(idx a (w64 (b - 1))).bind fun f=>cond (d == f) ((sub2 a.length b a.length).bind fun g=>(loop Uz (b,g,1,a)).bind fun c=>(sub2 c.2.length c.1 c.2.length).bind fun h=>(sub2 c.2.length 0 c.1).bind fun j=>some (.inr (.inr (j,clrw c.2 h 0)))) (some (.inl (w64 (b + 1))))) (some (.inr (.inl ())))
noncomputable def q1y (a : List Int) : Option ((Nat × Nat) × List Int):=
  cond (decide ((a.length : Int) < 2)) (some ((0,a.length),a)) ((loop (Zi a) 1 : Option ((Unit) ⊕ ((Nat × Nat) × List Int))).bind fun b=>(match b with | .inl _=>some ((0,a.length),a) | .inr c=>some c))
structure qi where
  X0 : Int
  Y0 : Int
  X1 : Int
  Y1 : Int
  deriving DecidableEq
def qx (x : qi) : List DV:=[.int .i64 x.X0,.int .i64 x.Y0,.int .i64 x.X1,.int .i64 x.Y1]
noncomputable def q3c (b : List qi) (c : qi→Option Bool) (a : Int) : Option ((Int) ⊕ ((Unit) ⊕ (Int))):=
  cond (decide (a < (b.length : Int))) ((idx b a).bind fun d=>(c d).bind fun f=>cond f (some (.inr (.inr a))) (some (.inl (w64 (a + 1))))) (some (.inr (.inl ())))
noncomputable def qb5 (a : List qi) (b : qi→Option Bool) : Option Int:=
  (loop (q3c a b) 0 : Option ((Unit) ⊕ (Int))).bind fun c=>(match c with | .inl _=>some (-1) | .inr d=>some d)
noncomputable def q83 (a : List qi) (b : qi→Option Bool) : Option Bool:=
  (qb5 a b).bind fun c=>some (decide (c ≥ 0))
noncomputable def q1s (a : Int) : Option Bool:=
  (cond (decide (a ≥ (-1000000))) (some (decide (a≤1000000))) (some false)).bind fun b=>some b
noncomputable def q7x (a : qi) : Option Bool:=
  (cond (decide (a.X0 < a.X1)) (some (decide (a.Y0 < a.Y1))) (some false)).bind fun b=>(cond b ((q1s a.X0).bind fun c=>some c) (some false)).bind fun d=>(cond d ((q1s a.X1).bind fun f=>some f) (some false)).bind fun g=>(cond g ((q1s a.Y0).bind fun h=>some h) (some false)).bind fun j=>(cond j ((q1s a.Y1).bind fun k=>some k) (some false)).bind fun l=>some l
noncomputable def q1r (a : qi) : Option Bool:=
  (q7x a).bind fun b=>some (!b)
def Yw (x : List qi) : List DV:=[.sl 4 (x.map qx)]
structure qk where
  Lo : Int
  Hi : Int
  deriving DecidableEq
def Qe (x : qk) : List DV:=[.int .i64 x.Lo,.int .i64 x.Hi]
noncomputable def q1z (b : List qk) (c : qk→Option Bool) (a : Int) : Option ((Int) ⊕ ((Unit) ⊕ (Int))):=
  cond (decide (a < (b.length : Int))) ((idx b a).bind fun d=>(c d).bind fun f=>cond f (some (.inr (.inr a))) (some (.inl (w64 (a + 1))))) (some (.inr (.inl ())))
noncomputable def q88 (a : List qk) (b : qk→Option Bool) : Option Int:=
  (loop (q1z a b) 0 : Option ((Unit) ⊕ (Int))).bind fun c=>(match c with | .inl _=>some (-1) | .inr d=>some d)
noncomputable def q84 (a : List qk) (b : qk→Option Bool) : Option Bool:=
  (q88 a b).bind fun c=>some (decide (c ≥ 0))
noncomputable def q25 (a : qk) : Option Bool:=
  (cond (decide (a.Lo < a.Hi)) (some (decide (a.Lo ≥ (-1000000)))) (some false)).bind fun b=>(cond b (some (decide (a.Hi≤1000000))) (some false)).bind fun c=>some c
noncomputable def qba (a : qk) : Option Bool:=
  (q25 a).bind fun b=>some (!b)
def Jp (x : List qk) : List DV:=[.sl 2 (x.map Qe)]
structure qh where
  at_ : Int
  list_ : Int
  by_ : Int
  deriving DecidableEq
def Q4 (x : qh) : List DV:=[.int .i64 x.at_,.int .i64 x.list_,.int .i64 x.by_]
noncomputable def q94 (a : qh) (b : qh) : Option Int:=
  some (w64 (a.at_ - b.at_))
noncomputable def q8h (c : Int) (d : qh→qh→Option Int) (a : Int × List qh) : Option ((Int × List qh) ⊕ (List qh)):=
  (cond (decide (a.1 > c)) ((idx a.2 a.1).bind fun f=>(idx a.2 (w64 (a.1 - 1))).bind fun g=>(d f g).bind fun h=>some (decide (h < 0))) (some false)).bind fun j=>cond j ((idx a.2 (w64 (a.1 - 1))).bind fun b=>(idx a.2 a.1).bind fun k=>(idx a.2 a.1).bind fun _=>(idx (a.2.set a.1.toNat b) (w64 (a.1 - 1))).bind fun _=>some (.inl (w64 (a.1 - 1),(a.2.set a.1.toNat b).set (w64 (a.1 - 1)).toNat k))) (some (.inr a.2))
noncomputable def q8g (b : Int) (c : Int) (d : qh→qh→Option Int) (a : Int × List qh) : Option ((Int × List qh) ⊕ (List qh)):=
  cond (decide (a.1 < b)) (((loop (q8h c d) (a.1,a.2)).bind fun f=>some f).bind fun g=>some (.inl (w64 (a.1 + 1),g))) (some (.inr a.2))
noncomputable def q8f (b : qh→qh→Option Int) (c : List qh) (a : Int) (d : Int) : Option (List qh):=
  (loop (q8g d a b) (w64 (a + 1),c)).bind fun f=>some f
noncomputable def q8z (d : Int) (b : Int) (f : qh→qh→Option Int) (a : Int × List qh) : Option ((Int × List qh) ⊕ (List qh)):=
  cond (decide ((w64 ((w64 (2 * a.1)) + 1)) ≥ d)) (some (.inr a.2)) ((cond (decide ((w64 ((w64 ((w64 (2 * a.1)) + 1)) + 1)) < d)) ((idx a.2 (w64 (b + (w64 ((w64 (2 * a.1)) + 1))))).bind fun h=>(idx a.2 (w64 ((w64 (b + (w64 ((w64 (2 * a.1)) + 1)))) + 1))).bind fun j=>(f h j).bind fun k=>some (decide (k < 0))) (some false)).bind fun l=>(cond l (some (w64 ((w64 ((w64 (2 * a.1)) + 1)) + 1))) (some (w64 ((w64 (2 * a.1)) + 1)))).bind fun c=>(idx a.2 (w64 (b + a.1))).bind fun m=>(idx a.2 (w64 (b + c))).bind fun n=>(f m n).bind fun o=>cond (!(decide (o < 0))) (some (.inr a.2)) ((idx a.2 (w64 (b + c))).bind fun g=>(idx a.2 (w64 (b + a.1))).bind fun p=>(idx a.2 (w64 (b + a.1))).bind fun _=>(idx (a.2.set (w64 (b + a.1)).toNat g) (w64 (b + c))).bind fun _=>some (.inl (c,(a.2.set (w64 (b + a.1)).toNat g).set (w64 (b + c)).toNat p))))
noncomputable def q6a (a : qh→qh→Option Int) (b : List qh) (c : Int) (d : Int) (f : Int) : Option (List qh):=
  (loop (q8z d f a) (c,b)).bind fun g=>some g
noncomputable def q8d (d : qh→qh→Option Int) (f : Int) (b : Int) (a : Int × List qh) : Option ((Int × List qh) ⊕ (List qh)):=
  cond (decide (a.1 ≥ 0)) ((q6a d a.2 a.1 (w64 (f - b)) b).bind fun c=>(Qm c.length a.2.length).bind fun _=>some (.inl (w64 (a.1 - 1),c))) (some (.inr a.2))
noncomputable def q8e (b : Int) (g : qh→qh→Option Int) (a : Int × List qh) : Option ((Int × List qh) ⊕ (List qh)):=
  cond (decide (a.1 ≥ 0)) ((idx a.2 (w64 (b + a.1))).bind fun c=>(idx a.2 b).bind fun d=>(idx a.2 b).bind fun _=>(idx (a.2.set b.toNat c) (w64 (b + a.1))).bind fun _=>(q6a g ((a.2.set b.toNat c).set (w64 (b + a.1)).toNat d) 0 a.1 b).bind fun f=>(Qm f.length ((a.2.set b.toNat c).set (w64 (b + a.1)).toNat d).length).bind fun _=>some (.inl (w64 (a.1 - 1),f))) (some (.inr a.2))
noncomputable def q8c (c : qh→qh→Option Int) (d : List qh) (a : Int) (b : Int) : Option (List qh):=
  (loop (q8d c b a) (w64 (Int.tdiv (w64 ((w64 (b - a)) - 1)) 2),d)).bind fun f=>(loop (q8e a c) (w64 ((w64 (b - a)) - 1),f)).bind fun g=>some g
noncomputable def q3f (f : qh→qh→Option Int) (c : List qh) (a : Int) (b : Int) (d : Int) : Option (Int × Int × Int):=
  (idx c b).bind fun g=>(idx c a).bind fun h=>(f g h).bind fun j=>cond (decide (j < 0)) (some (b,a,w64 (d + 1))) (some (a,b,d))
noncomputable def q5q (a : qh→qh→Option Int) (b : List qh) (g : Int) (h : Int) (j : Int) (k : Int) : Option (Int × Int):=
  (q3f a b g h k).bind fun c=>(q3f a b c.2.1 j c.2.2).bind fun d=>(q3f a b c.1 d.1 d.2.2).bind fun f=>some (f.2.1,f.2.2)
noncomputable def q3d (c : qh→qh→Option Int) (d : List qh) (a : Int) (f : Int) : Option (Int × Int):=
  (q5q c d (w64 (a - 1)) a (w64 (a + 1)) f).bind fun b=>some (b.1,b.2)
noncomputable def q8b (d : List qh) (a : Int) (b : Int) (f : qh→qh→Option Int) : Option (Int × Int):=
  (cond (decide ((w64 (b - a)) ≥ 8)) ((cond (decide ((w64 (b - a)) ≥ 50)) ((q3d f d (w64 (a + (w64 ((w64 (Int.tdiv (w64 (b - a)) 4)) * 1)))) 0).bind fun h=>(q3d f d (w64 (a + (w64 ((w64 (Int.tdiv (w64 (b - a)) 4)) * 2)))) h.2).bind fun j=>(q3d f d (w64 (a + (w64 ((w64 (Int.tdiv (w64 (b - a)) 4)) * 3)))) j.2).bind fun k=>some (h.1,j.1,k.1,k.2)) (some (w64 (a + (w64 ((w64 (Int.tdiv (w64 (b - a)) 4)) * 1))),w64 (a + (w64 ((w64 (Int.tdiv (w64 (b - a)) 4)) * 2))),w64 (a + (w64 ((w64 (Int.tdiv (w64 (b - a)) 4)) * 3))),0))).bind fun g=>(q5q f d g.1 g.2.1 g.2.2.1 g.2.2.2).bind fun l=>some (l.1,l.2)) (some (w64 (a + (w64 ((w64 (Int.tdiv (w64 (b - a)) 4)) * 2))),0))).bind fun c=>cond (c.2 == 0) (some (c.1,1)) (cond (c.2 == 12) (some (c.1,2)) (some (c.1,0)))
noncomputable def q8x (a : Int × Int × List qh) : Option ((Int × Int × List qh) ⊕ (List qh)):=
  cond (decide (a.1 < a.2.1)) ((idx a.2.2 a.2.1).bind fun b=>(idx a.2.2 a.1).bind fun c=>(idx a.2.2 a.1).bind fun _=>(idx (a.2.2.set a.1.toNat b) a.2.1).bind fun _=>some (.inl (w64 (a.1 + 1),w64 (a.2.1 - 1),(a.2.2.set a.1.toNat b).set a.2.1.toNat c))) (some (.inr a.2.2))
noncomputable def q8w (f : qh→qh→Option Int) (a : List qh) (b : Int) (c : Int) : Option (List qh):=
  (loop q8x (b,w64 (c - 1),a)).bind fun d=>some d
noncomputable def q8i (c : Int) (b : Int × Int × List qh) (d : qh→qh→Option Int) (a : Int) : Option ((Int) ⊕ (Int)):=
  (cond (decide (a < c)) ((idx b.2.2 a).bind fun f=>(idx b.2.2 (w64 (a - 1))).bind fun g=>(d f g).bind fun h=>some (!(decide (h < 0)))) (some false)).bind fun j=>cond j (some (.inl (w64 (a + 1)))) (some (.inr a))
noncomputable def q8j (c : qh→qh→Option Int) (a : Int × List qh) : Option ((Int × List qh) ⊕ (List qh)):=
  cond (decide (a.1 ≥ 1)) ((idx a.2 a.1).bind fun d=>(idx a.2 (w64 (a.1 - 1))).bind fun f=>(c d f).bind fun g=>cond (!(decide (g < 0))) (some (.inr a.2)) ((idx a.2 (w64 (a.1 - 1))).bind fun b=>(idx a.2 a.1).bind fun h=>(idx a.2 a.1).bind fun _=>(idx (a.2.set a.1.toNat b) (w64 (a.1 - 1))).bind fun _=>some (.inl (w64 (a.1 - 1),(a.2.set a.1.toNat b).set (w64 (a.1 - 1)).toNat h)))) (some (.inr a.2))
noncomputable def q8k (d : Int) (f : qh→qh→Option Int) (b : Int) (a : Int × List qh) : Option ((Int × List qh) ⊕ (Int × List qh)):=
  cond (decide (a.1 < d)) ((idx a.2 a.1).bind fun g=>(idx a.2 (w64 (a.1 - 1))).bind fun h=>(f g h).bind fun j=>cond (!(decide (j < 0))) (some (.inr (b,a.2))) ((idx a.2 (w64 (a.1 - 1))).bind fun c=>(idx a.2 a.1).bind fun k=>(idx a.2 a.1).bind fun _=>(idx (a.2.set a.1.toNat c) (w64 (a.1 - 1))).bind fun _=>some (.inl (w64 (a.1 + 1),(a.2.set a.1.toNat c).set (w64 (a.1 - 1)).toNat k)))) (some (.inr (b,a.2)))
noncomputable def q5s (c : Int) (d : qh→qh→Option Int) (h : Int) (b : Int × Int × List qh) : Option ((Int × Int × List qh) ⊕ ((List qh) ⊕ (Bool × List qh))):=
  cond (decide (b.2.1 < 5)) (((loop (q8i c b d) b.1).bind fun a=>cond (a == c) (some (.inr (true,b.2.2))) (cond (decide ((w64 (c - h)) < 50)) (some (.inr (false,b.2.2))) ((idx b.2.2 (w64 (a - 1))).bind fun f=>(idx b.2.2 a).bind fun j=>(idx b.2.2 a).bind fun _=>(idx (b.2.2.set a.toNat f) (w64 (a - 1))).bind fun _=>(cond (decide ((w64 (a - h)) ≥ 2)) ((loop (q8j d) (w64 (a - 1),(b.2.2.set a.toNat f).set (w64 (a - 1)).toNat j)).bind fun g=>some g) (some ((b.2.2.set a.toNat f).set (w64 (a - 1)).toNat j))).bind fun k=>cond (decide ((w64 (c - a)) ≥ 2)) ((loop (q8k c d a) (w64 (a + 1),k)).bind fun g=>some (.inl g)) (some (.inl (a,k))))) : Option ((Int × List qh) ⊕ (Bool × List qh))).bind fun m=>(match m with | .inl l=>some (.inl (l.1,w64 (b.2.1 + 1),l.2)) | .inr n=>some (.inr (.inr n)))) (some (.inr (.inl b.2.2)))
noncomputable def q5r (b : qh→qh→Option Int) (c : List qh) (a : Int) (d : Int) : Option (Bool × List qh):=
  (loop (q5s d b a) (w64 (a + 1),0,c) : Option ((List qh) ⊕ (Bool × List qh))).bind fun f=>(match f with | .inl g=>some (false,g) | .inr h=>some h)
noncomputable def q8u (b : Int × Int × List qh) (c : Int) (d : qh→qh→Option Int) (a : Int) : Option ((Int) ⊕ (Int)):=
  (cond (decide (a≤b.2.1)) ((idx b.2.2 c).bind fun f=>(idx b.2.2 a).bind fun g=>(d f g).bind fun h=>some (!(decide (h < 0)))) (some false)).bind fun j=>cond j (some (.inl (w64 (a + 1)))) (some (.inr a))
noncomputable def q8v (c : Int) (b : Int × Int × List qh) (d : Int) (f : qh→qh→Option Int) (a : Int) : Option ((Int) ⊕ (Int)):=
  (cond (decide (c≤a)) ((idx b.2.2 d).bind fun g=>(idx b.2.2 a).bind fun h=>(f g h).bind fun j=>some (decide (j < 0))) (some false)).bind fun k=>cond k (some (.inl (w64 (a - 1)))) (some (.inr a))
noncomputable def q8t (d : Int) (f : qh→qh→Option Int) (a : Int × Int × List qh) : Option ((Int × Int × List qh) ⊕ (Int × List qh)):=
  (loop (q8u a d f) a.1).bind fun b=>(loop (q8v b a d f) a.2.1).bind fun c=>cond (decide (b > c)) (some (.inr (b,a.2.2))) ((idx a.2.2 c).bind fun g=>(idx a.2.2 b).bind fun h=>(idx a.2.2 b).bind fun _=>(idx (a.2.2.set b.toNat g) c).bind fun _=>some (.inl (w64 (b + 1),w64 (c - 1),(a.2.2.set b.toNat g).set c.toNat h)))
noncomputable def q8s (g : qh→qh→Option Int) (b : List qh) (a : Int) (h : Int) (c : Int) : Option (Int × List qh):=
  (idx b c).bind fun d=>(idx b a).bind fun j=>(idx b a).bind fun _=>(idx (b.set a.toNat d) c).bind fun _=>(loop (q8t a g) (w64 (a + 1),w64 (h - 1),(b.set a.toNat d).set c.toNat j)).bind fun f=>some (f.1,f.2)
noncomputable def q8n (h : Int) (c : List qh) (b : Int) (d : qh) (f : Int) (g : qh) (j : qh→qh→Option Int) (a : Int) : Option ((Int) ⊕ (Int)):=
  (cond (decide (a≤(w64 (h - 1)))) ((idx ((c.set b.toNat d).set f.toNat g) a).bind fun k=>(idx ((c.set b.toNat d).set f.toNat g) b).bind fun l=>(j k l).bind fun m=>some (decide (m < 0))) (some false)).bind fun n=>cond n (some (.inl (w64 (a + 1)))) (some (.inr a))
noncomputable def q8o (h : Int) (c : List qh) (b : Int) (d : qh) (f : Int) (g : qh) (j : qh→qh→Option Int) (a : Int) : Option ((Int) ⊕ (Int)):=
  (cond (decide (h≤a)) ((idx ((c.set b.toNat d).set f.toNat g) a).bind fun k=>(idx ((c.set b.toNat d).set f.toNat g) b).bind fun l=>(j k l).bind fun m=>some (!(decide (m < 0)))) (some false)).bind fun n=>cond n (some (.inl (w64 (a - 1)))) (some (.inr a))
noncomputable def q8q (b : Int × Int × List qh) (c : Int) (d : qh→qh→Option Int) (a : Int) : Option ((Int) ⊕ (Int)):=
  (cond (decide (a≤b.2.1)) ((idx b.2.2 a).bind fun f=>(idx b.2.2 c).bind fun g=>(d f g).bind fun h=>some (decide (h < 0))) (some false)).bind fun j=>cond j (some (.inl (w64 (a + 1)))) (some (.inr a))
noncomputable def q8r (c : Int) (b : Int × Int × List qh) (d : Int) (f : qh→qh→Option Int) (a : Int) : Option ((Int) ⊕ (Int)):=
  (cond (decide (c≤a)) ((idx b.2.2 a).bind fun g=>(idx b.2.2 d).bind fun h=>(f g h).bind fun j=>some (!(decide (j < 0)))) (some false)).bind fun k=>cond k (some (.inl (w64 (a - 1)))) (some (.inr a))
noncomputable def q8p (d : Int) (f : qh→qh→Option Int) (a : Int × Int × List qh) : Option ((Int × Int × List qh) ⊕ (Int × List qh)):=
  (loop (q8q a d f) a.1).bind fun b=>(loop (q8r b a d f) a.2.1).bind fun c=>cond (decide (b > c)) (some (.inr (c,a.2.2))) ((idx a.2.2 c).bind fun g=>(idx a.2.2 b).bind fun h=>(idx a.2.2 b).bind fun _=>(idx (a.2.2.set b.toNat g) c).bind fun _=>some (.inl (w64 (b + 1),w64 (c - 1),(a.2.2.set b.toNat g).set c.toNat h)))
noncomputable def q8m (k : qh→qh→Option Int) (b : List qh) (a : Int) (l : Int) (c : Int) : Option (Int × Bool × List qh):=
  (idx b c).bind fun d=>(idx b a).bind fun f=>(idx b a).bind fun _=>(idx (b.set a.toNat d) c).bind fun _=>(loop (q8n l b a d c f k) (w64 (a + 1))).bind fun j=>(loop (q8o j b a d c f k) (w64 (l - 1))).bind fun g=>cond (decide (j > g)) ((idx ((b.set a.toNat d).set c.toNat f) a).bind fun m=>(idx ((b.set a.toNat d).set c.toNat f) g).bind fun p=>(idx ((b.set a.toNat d).set c.toNat f) g).bind fun _=>(idx (((b.set a.toNat d).set c.toNat f).set g.toNat m) a).bind fun _=>some (g,true,(((b.set a.toNat d).set c.toNat f).set g.toNat m).set a.toNat p)) ((idx ((b.set a.toNat d).set c.toNat f) g).bind fun n=>(idx ((b.set a.toNat d).set c.toNat f) j).bind fun q=>(idx ((b.set a.toNat d).set c.toNat f) j).bind fun _=>(idx (((b.set a.toNat d).set c.toNat f).set j.toNat n) g).bind fun _=>(loop (q8p a k) (w64 (j + 1),w64 (g - 1),(((b.set a.toNat d).set c.toNat f).set j.toNat n).set g.toNat q)).bind fun h=>(idx h.2 a).bind fun o=>(idx h.2 h.1).bind fun r=>(idx h.2 h.1).bind fun _=>(idx (h.2.set h.1.toNat o) a).bind fun _=>some (h.1,false,(h.2.set h.1.toNat o).set a.toNat r))
noncomputable def q8a (b : Int) (d : Int) (f : Int) (a : Int × List qh × Int) : Option ((Int × List qh × Int) ⊕ (List qh)):=
  cond (decide (a.1≤(w64 ((w64 (b + (w64 ((w64 (Int.tdiv (w64 (d - b)) 4)) * 2)))) + 1)))) ((q11 a.2.2).bind fun c=>(cond (decide ((w64 (andI .u64 c (IntKind.wrap .u64 (f - 1)))) ≥ (w64 (d - b)))) (some (w64 ((w64 (andI .u64 c (IntKind.wrap .u64 (f - 1)))) - (w64 (d - b))))) (some (w64 (andI .u64 c (IntKind.wrap .u64 (f - 1)))))).bind fun g=>(idx a.2.1 (w64 (b + g))).bind fun h=>(idx a.2.1 a.1).bind fun j=>(idx a.2.1 a.1).bind fun _=>(idx (a.2.1.set a.1.toNat h) (w64 (b + g))).bind fun _=>some (.inl (w64 (a.1 + 1),(a.2.1.set a.1.toNat h).set (w64 (b + g)).toNat j,c))) (some (.inr a.2.1))
noncomputable def q89 (g : qh→qh→Option Int) (c : List qh) (a : Int) (b : Int) : Option (List qh):=
  cond (decide ((w64 (b - a)) ≥ 8)) ((q10 (w64 (b - a))).bind fun d=>(loop (q8a a b d) (w64 ((w64 (a + (w64 ((w64 (Int.tdiv (w64 (b - a)) 4)) * 2)))) - 1),c,IntKind.wrap .u64 (w64 (b - a)))).bind fun f=>some f) (some c)
noncomputable def q66 (c : qh→qh→Option Int) (rec : List qh→Int→Int→Int→Option (List qh)) (a : Int × Int × Int × Bool × Bool × List qh) : Option ((Int × Int × Int × Bool × Bool × List qh) ⊕ (List qh)):=
  cond (decide ((w64 (a.2.1 - a.1))≤12)) ((q8f c a.2.2.2.2.2 a.1 a.2.1).bind fun l=>(Qm l.length a.2.2.2.2.2.length).bind fun _=>some (.inr l)) (cond (a.2.2.1 == 0) ((q8c c a.2.2.2.2.2 a.1 a.2.1).bind fun m=>(Qm m.length a.2.2.2.2.2.length).bind fun _=>some (.inr m)) ((cond (!a.2.2.2.1) ((q89 c a.2.2.2.2.2 a.1 a.2.1).bind fun n=>(Qm n.length a.2.2.2.2.2.length).bind fun _=>some (w64 (a.2.2.1 - 1),n)) (some (a.2.2.1,a.2.2.2.2.2))).bind fun d=>(q8b d.2 a.1 a.2.1 c).bind fun h=>(cond (h.2 == 2) ((q8w c d.2 a.1 a.2.1).bind fun o=>(Qm o.length d.2.length).bind fun _=>some (w64 ((w64 (a.2.1 - 1)) - (w64 (h.1 - a.1))),1,o)) (some (h.1,h.2,d.2))).bind fun f=>(cond a.2.2.2.1 (some a.2.2.2.2.1) (some false)).bind fun r=>(cond r (some (f.2.1 == 1)) (some false)).bind fun s=>(cond s ((q5r c f.2.2 a.1 a.2.1).bind fun j=>(Qm j.2.length f.2.2.length).bind fun _=>cond j.1 (some (.inr j.2)) (some (.inl j.2))) (some (.inl f.2.2)) : Option ((List qh) ⊕ (List qh))).bind fun t=>(match t with | .inl g=>(cond (decide (a.1 > 0)) ((idx g (w64 (a.1 - 1))).bind fun u=>(idx g f.1).bind fun v=>(c u v).bind fun w=>some (!(decide (w < 0)))) (some false)).bind fun x=>cond x ((q8s c g a.1 a.2.1 f.1).bind fun k=>(Qm k.2.length g.length).bind fun _=>some (.inl (k.1,a.2.1,d.1,a.2.2.2.1,a.2.2.2.2.1,k.2))) ((q8m c g a.1 a.2.1 f.1).bind fun b=>(Qm b.2.2.length g.length).bind fun _=>cond (decide ((w64 (b.1 - a.1)) < (w64 (a.2.1 - b.1)))) ((rec b.2.2 a.1 b.1 d.1).bind fun p=>(Qm p.length b.2.2.length).bind fun _=>some (.inl (w64 (b.1 + 1),a.2.1,d.1,decide ((w64 (b.1 - a.1)) ≥ (w64 (Int.tdiv (w64 (a.2.1 - a.1)) 8))),b.2.1,p))) ((rec b.2.2 (w64 (b.1 + 1)) a.2.1 d.1).bind fun q=>(Qm q.length b.2.2.length).bind fun _=>some (.inl (a.1,b.1,d.1,decide ((w64 (a.2.1 - b.1)) ≥ (w64 (Int.tdiv (w64 (a.2.1 - a.1)) 8))),b.2.1,q)))) | .inr y=>some (.inr y))))
noncomputable def q67 (rec : List qh→Int→Int→Int→Option (List qh)) (a : qh→qh→Option Int) (b : List qh) (c : Int) (d : Int) (f : Int) : Option (List qh):=
  (loop (q66 a rec) (c,d,f,true,true,b)).bind fun g=>some g
noncomputable def q65 : Nat→(qh→qh→Option Int)→List qh→Int→Int→Int→Option (List qh)
  | 0,_,_,_,_,_=>none
  | n + 1,a,b,c,d,f=>q67 (q65 n a) a b c d f
noncomputable def q5g (c : qh→qh→Option Int) (a : List qh) : Option (List qh):=
  (U1 (IntKind.wrap .u64 (a.length : Int))).bind fun d=>(lim (fun n=>q65 n c a 0 (a.length : Int) d)).bind fun b=>(Qm b.length a.length).bind fun _=>some b
noncomputable def qb6 (a : List qh) : Option (List qh):=
  some a
noncomputable def q3x (b : List qk) (c : Int × List qh) (a : Int × List qh) : Option ((Int × List qh) ⊕ (List qh)):=
  cond (decide (a.1 < (b.length : Int))) ((idx b a.1).bind fun d=>(app 24 a.2 [({at_:=d.Lo,list_:=c.1,by_:=1} : qh),({at_:=d.Hi,list_:=c.1,by_:=(-1)} : qh)]).bind fun f=>some (.inl (w64 (a.1 + 1),f))) (some (.inr a.2))
noncomputable def Ua (b : List (List qk)) (a : Int × List qh) : Option ((Int × List qh) ⊕ (List qh)):=
  cond (decide (a.1 < (b.length : Int))) (((idx b a.1).bind fun c=>(loop (q3x c a) (0,a.2)).bind fun d=>some d).bind fun f=>some (.inl (w64 (a.1 + 1),f))) (some (.inr a.2))
noncomputable def q95 (b : List (List qk)) : Option (List (List qk) × List qh):=
  (loop (Ua b) (0,[])).bind fun c=>(q5g (fun f g=>q94 f g) c).bind fun a=>(Qm a.length c.length).bind fun _=>(qb6 a).bind fun d=>(Qm d.length a.length).bind fun _=>some (b,d)
noncomputable def q96 (d : Int) (c : Bool) (b : Int) (a : List qk) : Option (Bool × Int × List qk):=
  (cond (!c) (some true) (some (b == d))).bind fun f=>cond f (some (c,b,a)) ((cond (decide ((a.length : Int) > 0)) ((idx a (w64 ((a.length : Int) - 1))).bind fun g=>some (g.Hi == b)) (some false)).bind fun h=>cond h ((idx a (w64 ((a.length : Int) - 1))).bind fun j=>some (c,b,a.set (w64 ((a.length : Int) - 1)).toNat ({Lo:=j.Lo,Hi:=d} : qk))) ((app 16 a [({Lo:=b,Hi:=d} : qk)]).bind fun k=>some (c,b,k)))
noncomputable def q3y (f : List (List qk) × List qh) (g : Bool→Bool→Option Bool) (a : Int × List Int × Int × Bool × List qk) : Option ((Int × List Int × Int × Bool × List qk) ⊕ (List qk)):=
  cond (decide (a.1 < (f.2.length : Int))) ((idx f.2 a.1).bind fun b=>((q96 b.at_ a.2.2.2.1 a.2.2.1 a.2.2.2.2).bind fun h=>(idxA 2 a.2.1 b.list_).bind fun c=>(idxA 2 a.2.1 b.list_).bind fun _=>(idxA 2 (a.2.1.set b.list_.toNat (w64 (c + b.by_))) 0).bind fun j=>(idxA 2 (a.2.1.set b.list_.toNat (w64 (c + b.by_))) 1).bind fun k=>(g (decide (j > 0)) (decide (k > 0))).bind fun l=>some (a.2.1.set b.list_.toNat (w64 (c + b.by_)),l,h.2.2)).bind fun d=>some (.inl (w64 (a.1 + 1),d.1,b.at_,d.2.1,d.2.2))) (some (.inr a.2.2.2.2))
noncomputable def q6m (a : List qk) (b : List qk) (d : Bool→Bool→Option Bool) : Option (List qk):=
  (q95 [a,b]).bind fun c=>(Qm c.1.length [a,b].length).bind fun _=>((loop (q3y c d) (0,[0,0],0,false,[])).bind fun f=>some f).bind fun g=>some g
noncomputable def q93 (a : Bool) (b : Bool) : Option Bool:=
  some a
noncomputable def q6l (a : List qk) : Option (List qk × Int):=
  cond (decide ((a.length : Int) > 400)) (some ([],4)) ((q84 a (fun b=>qba b)).bind fun c=>cond c (some ([],8)) ((q6m a [] (fun b d=>q93 b d)).bind fun f=>some (f,0)))
noncomputable def qb3 (b : List qk) (f : List qk) (a : Int) : Option ((Int) ⊕ ((Unit) ⊕ (Bool))):=
  cond (decide (a < (b.length : Int))) ((idx b a).bind fun c=>(idx f a).bind fun d=>cond (!((c.Lo == d.Lo) && ((c.Hi == d.Hi) && true))) (some (.inr (.inr false))) (some (.inl (w64 (a + 1))))) (some (.inr (.inl ())))
noncomputable def q86 (a : List qk) (b : List qk) : Option Bool:=
  cond ((a.length : Int) != (b.length : Int)) (some false) ((loop (qb3 a b) 0 : Option ((Unit) ⊕ (Bool))).bind fun c=>(match c with | .inl _=>some true | .inr d=>some d))
noncomputable def q5a (c : Int) (a : Int × List qi) : Option ((Int × List qi) ⊕ (List qi)):=
  cond (decide (a.1 < (a.2.length : Int))) ((idx a.2 a.1).bind fun b=>some (.inl (w64 (a.1 + 1),a.2.set a.1.toNat ({X0:=b.X0,Y0:=b.Y0,X1:=c,Y1:=b.Y1} : qi)))) (some (.inr a.2))
noncomputable def q5b (b : List qk) (f : Int) (c : Int) (g : List qi) (a : Int × List qi) : Option ((Int × List qi) ⊕ (List qk × Int × Int × List qi)):=
  cond (decide (a.1 < (b.length : Int))) ((idx b a.1).bind fun d=>(app 32 a.2 [({X0:=f,Y0:=d.Lo,X1:=c,Y1:=d.Hi} : qi)]).bind fun h=>some (.inl (w64 (a.1 + 1),h))) (some (.inr (b,(g.length : Int),c,a.2)))
noncomputable def q7v (a : List qi) (d : List qk) (f : Int) (h : Int) (g : Int) (b : Int) (c : List qk) : Option (List qk × Int × Int × List qi):=
  (cond (decide ((c.length : Int) > 0)) (some (h == g)) (some false)).bind fun j=>(cond j ((q86 d c).bind fun k=>some k) (some false)).bind fun l=>cond l ((loop (q5a b) (f,a)).bind fun m=>some (d,f,b,m)) ((loop (q5b c g b a) (0,a)).bind fun n=>some n)
noncomputable def q1t (b : List qi) (a : Int × List Int) : Option ((Int × List Int) ⊕ (List Int)):=
  cond (decide (a.1 < (b.length : Int))) ((idx b a.1).bind fun c=>(app 8 a.2 [c.X0,c.X1]).bind fun d=>some (.inl (w64 (a.1 + 1),d))) (some (.inr a.2))
noncomputable def q38 (c : List qi) (d : Int) (a : Int × List qk) : Option ((Int × List qk) ⊕ (List qk)):=
  cond (decide (a.1 < (c.length : Int))) (((idx c a.1).bind fun b=>(cond (decide (b.X0≤d)) (some (decide (d < b.X1))) (some false)).bind fun f=>cond f ((app 16 a.2 [({Lo:=b.Y0,Hi:=b.Y1} : qk)]).bind fun g=>some g) (some a.2)).bind fun h=>some (.inl (w64 (a.1 + 1),h))) (some (.inr a.2))
noncomputable def q1u (d : List Int) (g : List qi) (a : Int × List qk × Int × Int × List qi) : Option ((Int × List qk × Int × Int × List qi) ⊕ (List qk × Int × Int × List qi)):=
  cond (decide (a.1 < (d.length : Int))) ((idx d (w64 (a.1 - 1))).bind fun f=>(idx d a.1).bind fun h=>((idx [g] 0).bind fun j=>(loop (q38 j f) (0,[])).bind fun k=>some k).bind fun l=>((q6l l).bind fun m=>(q7v a.2.2.2.2 a.2.1 a.2.2.1 a.2.2.2.1 f h m.1).bind fun b=>some (b.1,b.2.1,b.2.2.1,b.2.2.2)).bind fun c=>some (.inl (w64 (a.1 + 1),c.1,c.2.1,c.2.2.1,c.2.2.2))) (some (.inr (a.2.1,a.2.2.1,a.2.2.2.1,a.2.2.2.2)))
noncomputable def q7w (d : List qi) : Option (List qi × Int):=
  (((idx [d] 0).bind fun j=>(loop (q1t j) (0,[])).bind fun b=>some b).bind fun f=>(U9 f).bind fun c=>(Qm c.length f.length).bind fun _=>(q1y c).bind fun a=>(Qm a.2.length c.length).bind fun _=>(q27 a.2.length a.1).bind fun _=>some ((a.2.drop a.1.1).take a.1.2)).bind fun k=>((loop (q1u k d) (1,[],0,0,[])).bind fun b=>some b).bind fun g=>(cond (decide ((g.2.2.2.length : Int) > 400)) (some (4,[])) (some (0,g.2.2.2))).bind fun h=>some (h.2,h.1)
noncomputable def q59 (a : List qi) : Option (List qi × Int):=
  cond (decide ((a.length : Int) > 400)) (some ([],4)) ((q83 a (fun c=>q1r c)).bind fun d=>cond d (some ([],8)) ((q7w a).bind fun b=>some (b.1,b.2)))
noncomputable def qb1 (d : List qi) (f : List qi) (a : Int) : Option ((Int) ⊕ ((Unit) ⊕ (Bool))):=
  cond (decide (a < (d.length : Int))) ((idx d a).bind fun b=>(idx f a).bind fun c=>cond (!((b.X0 == c.X0) && ((b.Y0 == c.Y0) && ((b.X1 == c.X1) && ((b.Y1 == c.Y1) && true))))) (some (.inr (.inr false))) (some (.inl (w64 (a + 1))))) (some (.inr (.inl ())))
noncomputable def q85 (a : List qi) (b : List qi) : Option Bool:=
  cond ((a.length : Int) != (b.length : Int)) (some false) ((loop (qb1 a b) 0 : Option ((Unit) ⊕ (Bool))).bind fun c=>(match c with | .inl _=>some true | .inr d=>some d))
noncomputable def q6f (c : Int) (a : Int × List qg) : Option ((Int × List qg) ⊕ (List qg)):=
  cond (decide (a.1 < (a.2.length : Int))) ((idx a.2 a.1).bind fun b=>some (.inl (w64 (a.1 + 1),a.2.set a.1.toNat ({Lo:=b.Lo,Hi:=({X:=b.Hi.X,Y:=b.Hi.Y,Z:=c} : qj)} : qg)))) (some (.inr a.2))
noncomputable def q6g (c : List qi) (f : Int) (d : Int) (g : List qg) (a : Int × List qg) : Option ((Int × List qg) ⊕ (List qi × Int × Int × List qg)):=
  cond (decide (a.1 < (c.length : Int))) ((idx c a.1).bind fun b=>(app 48 a.2 [({Lo:=({X:=b.X0,Y:=b.Y0,Z:=f} : qj),Hi:=({X:=b.X1,Y:=b.Y1,Z:=d} : qj)} : qg)]).bind fun h=>some (.inl (w64 (a.1 + 1),h))) (some (.inr (c,(g.length : Int),d,a.2)))
noncomputable def q90 (a : List qg) (d : List qi) (f : Int) (h : Int) (g : Int) (b : Int) (c : List qi) : Option (List qi × Int × Int × List qg):=
  (cond (decide ((c.length : Int) > 0)) (some (h == g)) (some false)).bind fun j=>(cond j ((q85 d c).bind fun k=>some k) (some false)).bind fun l=>cond l ((loop (q6f b) (f,a)).bind fun m=>some (d,f,b,m)) ((loop (q6g c g b a) (0,a)).bind fun n=>some n)
noncomputable def q3s (b : List qg) (a : Int × List Int) : Option ((Int × List Int) ⊕ (List Int)):=
  cond (decide (a.1 < (b.length : Int))) ((idx b a.1).bind fun c=>(app 8 a.2 [c.Lo.Z,c.Hi.Z]).bind fun d=>some (.inl (w64 (a.1 + 1),d))) (some (.inr a.2))
noncomputable def q3u (c : List qg) (d : Int) (a : Int × List qi) : Option ((Int × List qi) ⊕ (List qi)):=
  cond (decide (a.1 < (c.length : Int))) (((idx c a.1).bind fun b=>(cond (decide (b.Lo.Z≤d)) (some (decide (d < b.Hi.Z))) (some false)).bind fun f=>cond f ((app 32 a.2 [({X0:=b.Lo.X,Y0:=b.Lo.Y,X1:=b.Hi.X,Y1:=b.Hi.Y} : qi)]).bind fun g=>some g) (some a.2)).bind fun h=>some (.inl (w64 (a.1 + 1),h))) (some (.inr a.2))
noncomputable def q3t (d : List Int) (h : List qg) (a : Int × List qi × Int × Int × List qg) : Option ((Int × List qi × Int × Int × List qg) ⊕ ((List qi × Int × Int × List qg) ⊕ (List qg × Int))):=
  cond (decide (a.1 < (d.length : Int))) ((idx d (w64 (a.1 - 1))).bind fun g=>(idx d a.1).bind fun j=>((idx [h] 0).bind fun k=>(loop (q3u k g) (0,[])).bind fun l=>some l).bind fun m=>((q59 m).bind fun f=>cond (f.2 != 0) (some (.inr ([],f.2))) ((q90 a.2.2.2.2 a.2.1 a.2.2.1 a.2.2.2.1 g j f.1).bind fun b=>some (.inl (b.1,b.2.1,b.2.2.1,b.2.2.2))) : Option ((List qi × Int × Int × List qg) ⊕ (List qg × Int))).bind fun n=>(match n with | .inl c=>some (.inl (w64 (a.1 + 1),c.1,c.2.1,c.2.2.1,c.2.2.2)) | .inr o=>some (.inr (.inr o)))) (some (.inr (.inl (a.2.1,a.2.2.1,a.2.2.2.1,a.2.2.2.2))))
noncomputable def q6k (f : List qg) : Option (List qg × Int):=
  (((idx [f] 0).bind fun j=>(loop (q3s j) (0,[])).bind fun b=>some b).bind fun g=>(U9 g).bind fun c=>(Qm c.length g.length).bind fun _=>(q1y c).bind fun a=>(Qm a.2.length c.length).bind fun _=>(q27 a.2.length a.1).bind fun _=>some ((a.2.drop a.1.1).take a.1.2)).bind fun k=>((loop (q3t k f) (1,[],0,0,[]) : Option ((List qi × Int × Int × List qg) ⊕ (List qg × Int))).bind fun l=>(match l with | .inl b=>some (.inl b) | .inr d=>some (.inr d)) : Option ((List qi × Int × Int × List qg) ⊕ (List qg × Int))).bind fun m=>(match m with | .inl h=>cond (decide ((h.2.2.2.length : Int) > 400)) (some ([],4)) (some (h.2.2.2,0)) | .inr d=>some d)
noncomputable def q6d (a : List qg) : Option (List qg × Int):=
  cond (decide ((a.length : Int) > 400)) (some ([],4)) ((q82 a (fun c=>q24 c)).bind fun d=>cond d (some ([],8)) ((q6k a).bind fun b=>some (b.1,b.2)))
noncomputable def Jj (a : qj) (b : Int) : Option Bool:=
  (cond (decide (a.X ≥ b)) (some (decide (a.Y ≥ b))) (some false)).bind fun c=>(cond c (some (decide (a.Z ≥ b))) (some false)).bind fun d=>(cond d (some (decide (a.X≤1000000))) (some false)).bind fun f=>(cond f (some (decide (a.Y≤1000000))) (some false)).bind fun g=>(cond g (some (decide (a.Z≤1000000))) (some false)).bind fun h=>some h
noncomputable def q7u (a : qg) : Option Bool:=
  (Jj a.Lo (-1000000)).bind fun b=>(cond b ((Jj a.Hi (-1000000)).bind fun c=>some c) (some false)).bind fun d=>(cond d (some (decide (a.Lo.X < a.Hi.X))) (some false)).bind fun f=>(cond f (some (decide (a.Lo.Y < a.Hi.Y))) (some false)).bind fun g=>(cond g (some (decide (a.Lo.Z < a.Hi.Z))) (some false)).bind fun h=>some h
noncomputable def q2v (b : Int × List Int) (c : List Int) (a : Int) : Option ((Int) ⊕ (Int)):=
  (cond (decide (a > 0)) ((idx b.2 (w64 (a - 1))).bind fun d=>(idx c b.1).bind fun f=>some (decide (d > f))) (some false)).bind fun g=>cond g (some (.inl (w64 (a - 1)))) (some (.inr a))
noncomputable def q2u (d : List Int) (a : Int × List Int) : Option ((Int × List Int) ⊕ (List Int)):=
  cond (decide (a.1 < (d.length : Int))) (((loop (q2v a d) (a.2.length : Int)).bind fun c=>(cond (decide (c > 0)) ((idx a.2 (w64 (c - 1))).bind fun h=>(idx d a.1).bind fun j=>some (h == j)) (some false)).bind fun k=>cond k (some a.2) ((app 8 a.2 [0]).bind fun b=>(sub2 b.length (w64 (c + 1)) b.length).bind fun g=>(sub2 b.length c b.length).bind fun f=>(idx d a.1).bind fun l=>(idx (cpyw b g ((b.drop f.1).take f.2)) c).bind fun _=>some ((cpyw b g ((b.drop f.1).take f.2)).set c.toNat l))).bind fun m=>some (.inl (w64 (a.1 + 1),m))) (some (.inr a.2))
noncomputable def Zz (a : List Int) : Option (List Int):=
  (loop (q2u a) (0,[])).bind fun b=>some b
noncomputable def q33 (b : List qg) (a : Int × List Int) : Option ((Int × List Int) ⊕ (List Int)):=
  cond (decide (a.1 < (b.length : Int))) ((idx b a.1).bind fun c=>(idx b a.1).bind fun d=>(app 8 a.2 [c.Lo.Z,d.Hi.Z]).bind fun f=>some (.inl (w64 (a.1 + 1),f))) (some (.inr a.2))
noncomputable def q34 (b : List qg) (a : Int × List Int) : Option ((Int × List Int) ⊕ (List Int)):=
  cond (decide (a.1 < (b.length : Int))) ((idx b a.1).bind fun c=>(idx b a.1).bind fun d=>(app 8 a.2 [c.Lo.Z,d.Hi.Z]).bind fun f=>some (.inl (w64 (a.1 + 1),f))) (some (.inr a.2))
noncomputable def q7s (a : List qg) (b : List qg) : Option (List Int):=
  (loop (q33 a) (0,[])).bind fun c=>(loop (q34 b) (0,c)).bind fun d=>(Zz d).bind fun f=>some f
noncomputable def q55 (b : List qg) (c : Int) (a : Int × List qi) : Option ((Int × List qi) ⊕ (List qi)):=
  cond (decide (a.1 < (b.length : Int))) (((idx b a.1).bind fun d=>(cond (decide (d.Lo.Z≤c)) ((idx b a.1).bind fun f=>some (decide (c < f.Hi.Z))) (some false)).bind fun g=>cond g ((idx b a.1).bind fun h=>(idx b a.1).bind fun j=>(idx b a.1).bind fun k=>(idx b a.1).bind fun l=>(app 32 a.2 [({X0:=h.Lo.X,Y0:=j.Lo.Y,X1:=k.Hi.X,Y1:=l.Hi.Y} : qi)]).bind fun m=>some m) (some a.2)).bind fun n=>some (.inl (w64 (a.1 + 1),n))) (some (.inr a.2))
noncomputable def J0 (a : List qg) (b : Int) : Option (List qi):=
  (loop (q55 a b) (0,[])).bind fun c=>some c
noncomputable def q2y (b : List qi) (a : Int × List Int) : Option ((Int × List Int) ⊕ (List Int)):=
  cond (decide (a.1 < (b.length : Int))) ((idx b a.1).bind fun c=>(idx b a.1).bind fun d=>(app 8 a.2 [c.X0,d.X1]).bind fun f=>some (.inl (w64 (a.1 + 1),f))) (some (.inr a.2))
noncomputable def q2z (b : List qi) (a : Int × List Int) : Option ((Int × List Int) ⊕ (List Int)):=
  cond (decide (a.1 < (b.length : Int))) ((idx b a.1).bind fun c=>(idx b a.1).bind fun d=>(app 8 a.2 [c.X0,d.X1]).bind fun f=>some (.inl (w64 (a.1 + 1),f))) (some (.inr a.2))
noncomputable def q7k (a : List qi) (b : List qi) : Option (List Int):=
  (loop (q2y a) (0,[])).bind fun c=>(loop (q2z b) (0,c)).bind fun d=>(Zz d).bind fun f=>some f
noncomputable def q30 (b : List qi) (a : Int × List Int) : Option ((Int × List Int) ⊕ (List Int)):=
  cond (decide (a.1 < (b.length : Int))) ((idx b a.1).bind fun c=>(idx b a.1).bind fun d=>(app 8 a.2 [c.Y0,d.Y1]).bind fun f=>some (.inl (w64 (a.1 + 1),f))) (some (.inr a.2))
noncomputable def q31 (b : List qi) (a : Int × List Int) : Option ((Int × List Int) ⊕ (List Int)):=
  cond (decide (a.1 < (b.length : Int))) ((idx b a.1).bind fun c=>(idx b a.1).bind fun d=>(app 8 a.2 [c.Y0,d.Y1]).bind fun f=>some (.inl (w64 (a.1 + 1),f))) (some (.inr a.2))
noncomputable def q7l (a : List qi) (b : List qi) : Option (List Int):=
  (loop (q30 a) (0,[])).bind fun c=>(loop (q31 b) (0,c)).bind fun d=>(Zz d).bind fun f=>some f
noncomputable def q1o (b : List qi) (c : Int) (d : Int) (a : Int) : Option ((Int) ⊕ ((Unit) ⊕ (Bool))):=
  cond (decide (a < (b.length : Int))) ((idx b a).bind fun f=>(cond (decide (f.X0≤c)) ((idx b a).bind fun g=>some (decide (c < g.X1))) (some false)).bind fun h=>(cond h ((idx b a).bind fun j=>some (decide (j.Y0≤d))) (some false)).bind fun k=>(cond k ((idx b a).bind fun l=>some (decide (d < l.Y1))) (some false)).bind fun m=>cond m (some (.inr (.inr true))) (some (.inl (w64 (a + 1))))) (some (.inr (.inl ())))
noncomputable def q50 (a : List qi) (b : Int) (c : Int) : Option Bool:=
  (loop (q1o a b c) 0 : Option ((Unit) ⊕ (Bool))).bind fun d=>(match d with | .inl _=>some false | .inr f=>some f)
noncomputable def q4y (c : Int) (a : Bool) (b : Bool) : Option Bool:=
  cond (c == 1) ((cond a (some b) (some false)).bind fun d=>some d) (cond (c == 2) ((cond a (some true) (some b)).bind fun f=>some f) ((cond a (some (!b)) (some false)).bind fun g=>some g))
noncomputable def q2t (b : List Int) (c : List Bool) (a : Int × List qk) : Option ((Int × List qk) ⊕ (List qk)):=
  cond (decide ((w64 (a.1 + 1)) < (b.length : Int))) (((idx c a.1).bind fun d=>cond (!d) (some a.2) ((cond (decide ((a.2.length : Int) > 0)) ((idx a.2 (w64 ((a.2.length : Int) - 1))).bind fun f=>(idx b a.1).bind fun g=>some (f.Hi == g)) (some false)).bind fun h=>cond h ((idx b (w64 (a.1 + 1))).bind fun j=>(idx a.2 (w64 ((a.2.length : Int) - 1))).bind fun k=>some (a.2.set (w64 ((a.2.length : Int) - 1)).toNat ({Lo:=k.Lo,Hi:=j} : qk))) ((idx b a.1).bind fun l=>(idx b (w64 (a.1 + 1))).bind fun m=>(app 16 a.2 [({Lo:=l,Hi:=m} : qk)]).bind fun n=>some n))).bind fun o=>some (.inl (w64 (a.1 + 1),o))) (some (.inr a.2))
noncomputable def q2s (a : List Int) (b : List Bool) : Option (List qk):=
  (loop (q2t a b) (0,[])).bind fun c=>some c
noncomputable def qao (b : List qk) (f : List qk) (a : Int) : Option ((Int) ⊕ ((Unit) ⊕ (Bool))):=
  cond (decide (a < (b.length : Int))) ((idx b a).bind fun c=>(idx f a).bind fun d=>cond (!((c.Lo == d.Lo) && ((c.Hi == d.Hi) && true))) (some (.inr (.inr false))) (some (.inl (w64 (a + 1))))) (some (.inr (.inl ())))
noncomputable def q4z (a : List qk) (b : List qk) : Option Bool:=
  cond ((a.length : Int) != (b.length : Int)) (some false) ((loop (qao a b) 0 : Option ((Unit) ⊕ (Bool))).bind fun c=>(match c with | .inl _=>some true | .inr d=>some d))
noncomputable def q2w (b : List Int) (c : List Int) (d : List qk × Int × Int × List qi) (f : List qi) (g : List qi) (h : Int) (a : Int × List Bool) : Option ((Int × List Bool) ⊕ (List Bool)):=
  cond (decide (a.1 < (b.length : Int))) ((idx c d.2.2.1).bind fun j=>(idx b a.1).bind fun k=>(q50 f j k).bind fun l=>(idx c d.2.2.1).bind fun m=>(idx b a.1).bind fun n=>(q50 g m n).bind fun o=>(q4y h l o).bind fun p=>(app 1 a.2 [p]).bind fun q=>some (.inl (w64 (a.1 + 1),q))) (some (.inr a.2))
noncomputable def q2x (c : List Int) (d : List qk × Int × Int × List qi) (a : Int × List qi) : Option ((Int × List qi) ⊕ (List qi)):=
  cond (decide (a.1 < (a.2.length : Int))) ((idx c (w64 (d.2.2.1 + 1))).bind fun f=>(idx a.2 a.1).bind fun b=>some (.inl (w64 (a.1 + 1),a.2.set a.1.toNat ({X0:=b.X0,Y0:=b.Y0,X1:=f,Y1:=b.Y1} : qi)))) (some (.inr a.2))
noncomputable def q51 (b : List qk) (d : List Int) (c : List qk × Int × Int × List qi) (a : Int × List qi) : Option ((Int × List qi) ⊕ (List qk × Int × List qi)):=
  cond (decide (a.1 < (b.length : Int))) ((idx d c.2.2.1).bind fun f=>(idx b a.1).bind fun g=>(idx d (w64 (c.2.2.1 + 1))).bind fun h=>(idx b a.1).bind fun j=>(app 32 a.2 [({X0:=f,Y0:=g.Lo,X1:=h,Y1:=j.Hi} : qi)]).bind fun k=>some (.inl (w64 (a.1 + 1),k))) (some (.inr (b,(c.2.2.2.length : Int),a.2)))
noncomputable def q1p (b : List Int) (d : List Int) (g : List qi) (h : List qi) (j : Int) (a : List qk × Int × Int × List qi) : Option ((List qk × Int × Int × List qi) ⊕ (List qi)):=
  cond (decide ((w64 (a.2.2.1 + 1)) < (b.length : Int))) (((loop (q2w d b a g h j) (0,[])).bind fun k=>(q2s d k).bind fun f=>(cond (decide (a.2.2.1 > 0)) ((q4z f a.1).bind fun l=>some l) (some false)).bind fun m=>cond m ((loop (q2x b a) (a.2.1,a.2.2.2)).bind fun n=>some (a.1,a.2.1,n)) ((loop (q51 f b a) (0,a.2.2.2)).bind fun o=>some o)).bind fun c=>some (.inl (c.1,c.2.1,w64 (a.2.2.1 + 1),c.2.2))) (some (.inr a.2.2.2))
noncomputable def Zg (c : Int) (a : List qi) (b : List qi) : Option (List qi):=
  (q7k a b).bind fun d=>(q7l a b).bind fun f=>(loop (q1p d f a b c) ([],0,0,[])).bind fun g=>some g
noncomputable def qap (d : List qi) (f : List qi) (a : Int) : Option ((Int) ⊕ ((Unit) ⊕ (Bool))):=
  cond (decide (a < (d.length : Int))) ((idx d a).bind fun b=>(idx f a).bind fun c=>cond (!((b.X0 == c.X0) && ((b.Y0 == c.Y0) && ((b.X1 == c.X1) && ((b.Y1 == c.Y1) && true))))) (some (.inr (.inr false))) (some (.inl (w64 (a + 1))))) (some (.inr (.inl ())))
noncomputable def q53 (a : List qi) (b : List qi) : Option Bool:=
  cond ((a.length : Int) != (b.length : Int)) (some false) ((loop (qap a b) 0 : Option ((Unit) ⊕ (Bool))).bind fun c=>(match c with | .inl _=>some true | .inr d=>some d))
noncomputable def q36 (c : List Int) (d : List qi × Int × Int × List qg) (a : Int × List qg) : Option ((Int × List qg) ⊕ (List qg)):=
  cond (decide (a.1 < (a.2.length : Int))) ((idx c (w64 (d.2.2.1 + 1))).bind fun f=>(idx a.2 a.1).bind fun b=>some (.inl (w64 (a.1 + 1),a.2.set a.1.toNat ({Lo:=b.Lo,Hi:=({X:=b.Hi.X,Y:=b.Hi.Y,Z:=f} : qj)} : qg)))) (some (.inr a.2))
noncomputable def q57 (b : List qi) (d : List Int) (c : List qi × Int × Int × List qg) (a : Int × List qg) : Option ((Int × List qg) ⊕ (List qi × Int × List qg)):=
  cond (decide (a.1 < (b.length : Int))) ((idx b a.1).bind fun f=>(idx b a.1).bind fun g=>(idx d c.2.2.1).bind fun h=>(idx b a.1).bind fun j=>(idx b a.1).bind fun k=>(idx d (w64 (c.2.2.1 + 1))).bind fun l=>(app 48 a.2 [({Lo:=({X:=f.X0,Y:=g.Y0,Z:=h} : qj),Hi:=({X:=j.X1,Y:=k.Y1,Z:=l} : qj)} : qg)]).bind fun m=>some (.inl (w64 (a.1 + 1),m))) (some (.inr (b,(c.2.2.2.length : Int),a.2)))
noncomputable def Uw (b : List Int) (f : List qg) (g : List qg) (h : Int) (a : List qi × Int × Int × List qg) : Option ((List qi × Int × Int × List qg) ⊕ ((List qg) ⊕ (List qg × Bool))):=
  cond (decide ((w64 (a.2.2.1 + 1)) < (b.length : Int))) (((idx b a.2.2.1).bind fun j=>(J0 f j).bind fun k=>(idx b a.2.2.1).bind fun l=>(J0 g l).bind fun m=>(Zg h k m).bind fun c=>(cond (decide ((c.length : Int) > 400)) (some true) ((idx b a.2.2.1).bind fun n=>(J0 f n).bind fun o=>(Zg 2 o []).bind fun p=>some (decide ((p.length : Int) > 400)))).bind fun q=>(cond q (some true) ((idx b a.2.2.1).bind fun r=>(J0 g r).bind fun s=>(Zg 2 s []).bind fun t=>some (decide ((t.length : Int) > 400)))).bind fun u=>cond u (some (.inr ([],false))) ((cond (decide (a.2.2.1 > 0)) ((q53 c a.1).bind fun v=>some v) (some false)).bind fun w=>cond w ((loop (q36 b a) (a.2.1,a.2.2.2)).bind fun x=>some (.inl (a.1,a.2.1,x))) ((loop (q57 c b a) (0,a.2.2.2)).bind fun y=>some (.inl y))) : Option ((List qi × Int × List qg) ⊕ (List qg × Bool))).bind fun z=>(match z with | .inl d=>some (.inl (d.1,d.2.1,w64 (a.2.2.1 + 1),d.2.2)) | .inr x1=>some (.inr (.inr x1)))) (some (.inr (.inl a.2.2.2)))
noncomputable def q35 (d : Int) (a : List qg) (b : List qg) : Option (List qg × Bool):=
  (q7s a b).bind fun f=>(loop (Uw f a b d) ([],0,0,[]) : Option ((List qg) ⊕ (List qg × Bool))).bind fun g=>(match g with | .inl c=>some (c,decide ((c.length : Int)≤400)) | .inr h=>some h)
noncomputable def U8 (b : List qg) (c : qg→Option Bool) (a : Int) : Option ((Int) ⊕ ((Unit) ⊕ (Int))):=
  cond (decide (a < (b.length : Int))) ((idx b a).bind fun d=>(c d).bind fun f=>cond f (some (.inr (.inr a))) (some (.inl (w64 (a + 1))))) (some (.inr (.inl ())))
noncomputable def q87 (a : List qg) (b : qg→Option Bool) : Option Int:=
  (loop (U8 a b) 0 : Option ((Unit) ⊕ (Int))).bind fun c=>(match c with | .inl _=>some (-1) | .inr d=>some d)
noncomputable def q3a (a : List qg) (b : qg→Option Bool) : Option Bool:=
  (q87 a b).bind fun c=>some (decide (c ≥ 0))
noncomputable def q22 (a : qg) : Option Bool:=
  (q6j a).bind fun b=>some (!b)
noncomputable def qe9 (d : List qg) (f : List qg) (c : Int) : Option ((Int) ⊕ ((Unit) ⊕ (Bool))):=
  cond (decide (c < (d.length : Int))) ((idx d c).bind fun a=>(idx f c).bind fun b=>cond (!((a.Lo.X == b.Lo.X) && ((a.Lo.Y == b.Lo.Y) && ((a.Lo.Z == b.Lo.Z) && ((a.Hi.X == b.Hi.X) && ((a.Hi.Y == b.Hi.Y) && ((a.Hi.Z == b.Hi.Z) && true))))))) (some (.inr (.inr false))) (some (.inl (w64 (c + 1))))) (some (.inr (.inl ())))
noncomputable def qb2 (a : List qg) (b : List qg) : Option Bool:=
  cond ((a.length : Int) != (b.length : Int)) (some false) ((loop (qe9 a b) 0 : Option ((Unit) ⊕ (Bool))).bind fun c=>(match c with | .inl _=>some true | .inr d=>some d))
noncomputable def q3l (a : List qg) : Option Int:=
  cond (decide ((a.length : Int) > 400)) (some 4) ((q3a a (fun c=>q22 c)).bind fun d=>cond d (some 8) ((q6k a).bind fun b=>(cond (b.2 != 0) (some true) ((qb2 b.1 a).bind fun f=>some (!f))).bind fun g=>cond g (some 8) (some 0)))
noncomputable def q6i (a : qg) : Option (Int × Int × Int):=
  some (w64 (a.Hi.X - a.Lo.X),w64 (a.Hi.Y - a.Lo.Y),w64 (a.Hi.Z - a.Lo.Z))
noncomputable def q6e (c : List qg) (a : Int × Int) : Option ((Int × Int) ⊕ (Int)):=
  cond (decide (a.2 < (c.length : Int))) ((idx c a.2).bind fun d=>(q6i d).bind fun b=>some (.inl (w64 (a.1 + (w64 ((w64 (b.1 * b.2.1)) * b.2.2))),w64 (a.2 + 1)))) (some (.inr a.1))
noncomputable def q3r (a : List qg) : Option (Int × Int):=
  (q3l a).bind fun b=>cond (b != 0) (some (0,b)) ((loop (q6e a) (0,0)).bind fun c=>some (c,0))
noncomputable def qaw (d : List qg) (f : List qg) (c : Int) : Option ((Int) ⊕ ((Unit) ⊕ (Bool))):=
  cond (decide (c < (d.length : Int))) ((idx d c).bind fun a=>(idx f c).bind fun b=>cond (!((a.Lo.X == b.Lo.X) && ((a.Lo.Y == b.Lo.Y) && ((a.Lo.Z == b.Lo.Z) && ((a.Hi.X == b.Hi.X) && ((a.Hi.Y == b.Hi.Y) && ((a.Hi.Z == b.Hi.Z) && true))))))) (some (.inr (.inr false))) (some (.inl (w64 (c + 1))))) (some (.inr (.inl ())))
noncomputable def q37 (a : List qg) (b : List qg) : Option Bool:=
  cond ((a.length : Int) != (b.length : Int)) (some false) ((loop (qaw a b) 0 : Option ((Unit) ⊕ (Bool))).bind fun c=>(match c with | .inl _=>some true | .inr d=>some d))
noncomputable def q56 (b : List qg) (a : Int) : Option ((Int) ⊕ ((Unit) ⊕ (Int))):=
  cond (decide (a < (b.length : Int))) ((idx b a).bind fun c=>(q7u c).bind fun d=>cond (!d) (some (.inr (.inr 8))) (some (.inl (w64 (a + 1))))) (some (.inr (.inl ())))
noncomputable def q32 (a : List qg) : Option Int:=
  cond (decide ((a.length : Int) > 400)) (some 4) ((loop (q56 a) 0 : Option ((Unit) ⊕ (Int))).bind fun c=>(match c with | .inl _=>(q35 2 a []).bind fun b=>(cond (!b.2) (some true) ((q37 b.1 a).bind fun d=>some (!d))).bind fun f=>cond f (some 8) (some 0) | .inr g=>some g))
noncomputable def q6c (a : qg) (b : qj) : Option Bool:=
  (cond (decide (a.Lo.X≤b.X)) (some (decide (b.X < a.Hi.X))) (some false)).bind fun c=>(cond c (some (decide (a.Lo.Y≤b.Y))) (some false)).bind fun d=>(cond d (some (decide (b.Y < a.Hi.Y))) (some false)).bind fun f=>(cond f (some (decide (a.Lo.Z≤b.Z))) (some false)).bind fun g=>(cond g (some (decide (b.Z < a.Hi.Z))) (some false)).bind fun h=>some h
noncomputable def q23 (a : List qg) (b : qj) : Option Bool:=
  (q3a a (fun c=>q6c c b)).bind fun d=>some d
noncomputable def qjf (a : qg) (b : qj) : Option Bool:=
  (cond (decide (a.Lo.X≤b.X)) (some (decide (b.X < a.Hi.X))) (some false)).bind fun c=>(cond c (some (decide (a.Lo.Y≤b.Y))) (some false)).bind fun d=>(cond d (some (decide (b.Y < a.Hi.Y))) (some false)).bind fun f=>(cond f (some (decide (a.Lo.Z≤b.Z))) (some false)).bind fun g=>(cond g (some (decide (b.Z < a.Hi.Z))) (some false)).bind fun h=>some h
noncomputable def q3w (b : List qk) (a : Int) : Option ((Int) ⊕ ((Unit) ⊕ (Int))):=
  cond (decide (a < (b.length : Int))) ((idx b a).bind fun c=>(q25 c).bind fun d=>(cond (!d) (some true) ((cond (decide (a > 0)) ((idx b (w64 (a - 1))).bind fun f=>some (decide (f.Hi ≥ c.Lo))) (some false)).bind fun g=>some g)).bind fun h=>cond h (some (.inr (.inr 8))) (some (.inl (w64 (a + 1))))) (some (.inr (.inl ())))
noncomputable def qb9 (a : List qk) : Option Int:=
  cond (decide ((a.length : Int) > 400)) (some 4) ((loop (q3w a) 0 : Option ((Unit) ⊕ (Int))).bind fun b=>(match b with | .inl _=>some 0 | .inr c=>some c))
noncomputable def q7r (a : List qg) (b : List qg) : Option Int:=
  (q32 a).bind fun c=>cond (c != 0) ((q32 a).bind fun d=>some d) ((q32 b).bind fun f=>some f)
structure Qj where
  Turn : Int
  At : qj
  deriving DecidableEq
noncomputable def q91 (a : qg) (b : qg) : Option Int:=
  (cond ((w64 ((min a.Hi.X b.Hi.X) - (max a.Lo.X b.Lo.X))) == 0) (some (decide ((w64 ((min a.Hi.Y b.Hi.Y) - (max a.Lo.Y b.Lo.Y))) > 0))) (some false)).bind fun c=>(cond c (some (decide ((w64 ((min a.Hi.Z b.Hi.Z) - (max a.Lo.Z b.Lo.Z))) > 0))) (some false)).bind fun d=>cond d (some (w64 ((w64 ((min a.Hi.Y b.Hi.Y) - (max a.Lo.Y b.Lo.Y))) * (w64 ((min a.Hi.Z b.Hi.Z) - (max a.Lo.Z b.Lo.Z)))))) ((cond (decide ((w64 ((min a.Hi.X b.Hi.X) - (max a.Lo.X b.Lo.X))) > 0)) (some ((w64 ((min a.Hi.Y b.Hi.Y) - (max a.Lo.Y b.Lo.Y))) == 0)) (some false)).bind fun f=>(cond f (some (decide ((w64 ((min a.Hi.Z b.Hi.Z) - (max a.Lo.Z b.Lo.Z))) > 0))) (some false)).bind fun g=>cond g (some (w64 ((w64 ((min a.Hi.X b.Hi.X) - (max a.Lo.X b.Lo.X))) * (w64 ((min a.Hi.Z b.Hi.Z) - (max a.Lo.Z b.Lo.Z)))))) ((cond (decide ((w64 ((min a.Hi.X b.Hi.X) - (max a.Lo.X b.Lo.X))) > 0)) (some (decide ((w64 ((min a.Hi.Y b.Hi.Y) - (max a.Lo.Y b.Lo.Y))) > 0))) (some false)).bind fun h=>(cond h (some ((w64 ((min a.Hi.Z b.Hi.Z) - (max a.Lo.Z b.Lo.Z))) == 0)) (some false)).bind fun j=>cond j (some (w64 ((w64 ((min a.Hi.X b.Hi.X) - (max a.Lo.X b.Lo.X))) * (w64 ((min a.Hi.Y b.Hi.Y) - (max a.Lo.Y b.Lo.Y)))))) (some 0)))
noncomputable def q3q (b : List qg) (c : qg) (a : Int × Int) : Option ((Int × Int) ⊕ (Int)):=
  cond (decide (a.2 < (b.length : Int))) ((idx b a.2).bind fun d=>(q91 c d).bind fun f=>some (.inl (w64 (a.1 - (w64 (2 * f))),w64 (a.2 + 1)))) (some (.inr a.1))
noncomputable def q3p (c : List qg) (a : Int × Int) : Option ((Int × Int) ⊕ (Int)):=
  cond (decide (a.2 < (c.length : Int))) (((idx c a.2).bind fun d=>(q6i d).bind fun b=>(slc c 0 a.2).bind fun f=>(loop (q3q f d) (w64 (a.1 + (w64 (2 * (w64 ((w64 ((w64 (b.1 * b.2.1)) + (w64 (b.1 * b.2.2)))) + (w64 (b.2.1 * b.2.2))))))),0)).bind fun g=>some g).bind fun h=>some (.inl (h,w64 (a.2 + 1)))) (some (.inr a.1))
noncomputable def q3o (a : List qg) : Option (Int × Int):=
  (q3l a).bind fun b=>cond (b != 0) (some (0,b)) ((loop (q3p a) (0,0)).bind fun c=>some (c,0))
noncomputable def q2j (a : qj) (b : Int) : Option Bool:=
  (cond (decide ((min (min a.X a.Y) a.Z) ≥ b)) (some (decide ((max (max a.X a.Y) a.Z)≤1000000))) (some false)).bind fun c=>some c
noncomputable def q2h (a : Qj) : Option Int:=
  (cond (decide (a.Turn ≥ 24)) (some true) ((q2j a.At (-1000000)).bind fun b=>some (!b))).bind fun c=>cond c (some 8) (some 0)
noncomputable def qa5 (a : Int) : Option qj:=
  cond ((IntKind.wrap .u8 (Int.tdiv a 2)) == 0) (some ({X:=w64 (1 - (w64 (2 * (w64 (Int.tmod a 2))))),Y:=0,Z:=0} : qj)) (cond ((IntKind.wrap .u8 (Int.tdiv a 2)) == 1) (some ({X:=0,Y:=w64 (1 - (w64 (2 * (w64 (Int.tmod a 2))))),Z:=0} : qj)) (some ({X:=0,Y:=0,Z:=w64 (1 - (w64 (2 * (w64 (Int.tmod a 2)))))} : qj)))
noncomputable def qck (a : qj) (b : qj) : Option qj:=
  some ({X:=w64 ((w64 (a.Y * b.Z)) - (w64 (a.Z * b.Y))),Y:=w64 ((w64 (a.Z * b.X)) - (w64 (a.X * b.Z))),Z:=w64 ((w64 (a.X * b.Y)) - (w64 (a.Y * b.X)))} : qj)
noncomputable def q1a (a : Int) : Option (qj × qj × qj):=
  (cond (decide ((Int.tmod a 4) ≥ (IntKind.wrap .u8 ((IntKind.wrap .u8 (Int.tdiv (IntKind.wrap .u8 (Int.tdiv a 4)) 2)) * 2)))) (some (IntKind.wrap .u8 ((Int.tmod a 4) + 2))) (some (Int.tmod a 4))).bind fun d=>(qa5 (IntKind.wrap .u8 (Int.tdiv a 4))).bind fun b=>(qa5 d).bind fun c=>(qck b c).bind fun f=>some (b,c,f)
noncomputable def q4h (a : qj × qj × qj) (b : qj) : Option qj:=
  some ({X:=w64 ((w64 ((w64 (b.X * a.1.X)) + (w64 (b.Y * a.2.1.X)))) + (w64 (b.Z * a.2.2.X))),Y:=w64 ((w64 ((w64 (b.X * a.1.Y)) + (w64 (b.Y * a.2.1.Y)))) + (w64 (b.Z * a.2.2.Y))),Z:=w64 ((w64 ((w64 (b.X * a.1.Z)) + (w64 (b.Y * a.2.1.Z)))) + (w64 (b.Z * a.2.2.Z)))} : qj)
noncomputable def q2k (a : Qj) (c : qj) : Option qj:=
  (q1a a.Turn).bind fun d=>(q4h d c).bind fun b=>some ({X:=w64 (b.X + a.At.X),Y:=w64 (b.Y + a.At.Y),Z:=w64 (b.Z + a.At.Z)} : qj)
noncomputable def q4f (a : Qj) (b : qj) : Option (qj × Int):=
  (q2h a).bind fun c=>cond (c != 0) (some (({X:=0,Y:=0,Z:=0} : qj),c)) ((q2j b (-1000000)).bind fun f=>cond (!f) (some (({X:=0,Y:=0,Z:=0} : qj),2)) ((q2k a b).bind fun d=>(q2j d (-1000000)).bind fun g=>cond (!g) (some (({X:=0,Y:=0,Z:=0} : qj),16)) (some (d,0))))
noncomputable def q3n (d : List qg) (f : Qj) (c : Int × List qg) : Option ((Int × List qg) ⊕ ((List qg) ⊕ (List qg × Int))):=
  cond (decide (c.1 < (d.length : Int))) ((idx d c.1).bind fun g=>(q4f f g.Lo).bind fun a=>(q4f f g.Hi).bind fun b=>(cond (a.2 != 0) (some true) (some (b.2 != 0))).bind fun h=>cond h (some (.inr (.inr ([],16)))) ((app 48 c.2 [({Lo:=({X:=min a.1.X b.1.X,Y:=min a.1.Y b.1.Y,Z:=min a.1.Z b.1.Z} : qj),Hi:=({X:=max a.1.X b.1.X,Y:=max a.1.Y b.1.Y,Z:=max a.1.Z b.1.Z} : qj)} : qg)]).bind fun j=>some (.inl (w64 (c.1 + 1),j)))) (some (.inr (.inl c.2)))
noncomputable def q3m (a : List qg) (b : Qj) : Option (List qg × Int):=
  (q3l a).bind fun c=>cond (c != 0) (some ([],c)) ((q2h b).bind fun d=>cond (d != 0) (some ([],d)) ((loop (q3n a b) (0,[]) : Option ((List qg) ⊕ (List qg × Int))).bind fun g=>(match g with | .inl h=>(q6d h).bind fun f=>some (f.1,f.2) | .inr j=>some j)))
noncomputable def q7m (a : Qj) : Option Int:=
  (cond (decide (a.Turn ≥ 24)) (some true) ((Jj a.At (-1000000)).bind fun b=>some (!b))).bind fun c=>cond c (some 8) (some 0)
noncomputable def U5 (a : Int) : Option qj:=
  (cond ((Int.tmod a 2) == 1) (some (-1)) (some 1)).bind fun b=>cond (decide (a < 2)) (some ({X:=b,Y:=0,Z:=0} : qj)) (cond (decide (a < 4)) (some ({X:=0,Y:=b,Z:=0} : qj)) (some ({X:=0,Y:=0,Z:=b} : qj)))
noncomputable def qaq (a : qj) (b : qj) : Option qj:=
  some ({X:=w64 ((w64 (a.Y * b.Z)) - (w64 (a.Z * b.Y))),Y:=w64 ((w64 (a.Z * b.X)) - (w64 (a.X * b.Z))),Z:=w64 ((w64 (a.X * b.Y)) - (w64 (a.Y * b.X)))} : qj)
noncomputable def q7o (b : Int) (a : Int × List Int) : Option ((Int × List Int) ⊕ (List Int)):=
  cond (decide (a.1 < 6)) ((cond ((w64 (Int.tdiv a.1 2)) != (w64 (Int.tdiv (w64 (Int.tdiv b 4)) 2))) ((app 8 a.2 [a.1]).bind fun c=>some c) (some a.2)).bind fun d=>some (.inl (w64 (a.1 + 1),d))) (some (.inr a.2))
noncomputable def q7n (a : Int) : Option (qj × qj × qj):=
  (loop (q7o a) (0,[])).bind fun c=>(idx c (Int.tmod a 4)).bind fun b=>(U5 (w64 (Int.tdiv a 4))).bind fun d=>(U5 b).bind fun f=>(U5 (w64 (Int.tdiv a 4))).bind fun g=>(U5 b).bind fun h=>(qaq g h).bind fun j=>some (d,f,j)
noncomputable def q1q (a : Int) (b : qj) : Option qj:=
  some ({X:=w64 (a * b.X),Y:=w64 (a * b.Y),Z:=w64 (a * b.Z)} : qj)
noncomputable def U6 (a : qj) (b : qj) : Option qj:=
  some ({X:=w64 (a.X + b.X),Y:=w64 (a.Y + b.Y),Z:=w64 (a.Z + b.Z)} : qj)
noncomputable def q7q (a : qj × qj × qj) (b : qj) : Option qj:=
  (q1q b.X a.1).bind fun c=>(q1q b.Y a.2.1).bind fun d=>(q1q b.Z a.2.2).bind fun f=>(U6 d f).bind fun g=>(U6 c g).bind fun h=>some h
noncomputable def q54 (a : Qj) (b : qj) : Option qj:=
  (q7n (w64 a.Turn)).bind fun c=>(q7q c b).bind fun d=>(U6 d a.At).bind fun f=>some f
noncomputable def q7t (c : qg) (d : Qj) : Option qg:=
  (q54 d c.Lo).bind fun a=>(q54 d c.Hi).bind fun b=>some ({Lo:=({X:=min a.X b.X,Y:=min a.Y b.Y,Z:=min a.Z b.Z} : qj),Hi:=({X:=max a.X b.X,Y:=max a.Y b.Y,Z:=max a.Z b.Z} : qj)} : qg)
noncomputable def Zx (a : Int) (b : Int) (c : Int) (d : Int) (f : Int) (g : Int) : Option qg:=
  some ({Lo:=({X:=a,Y:=b,Z:=c} : qj),Hi:=({X:=d,Y:=f,Z:=g} : qj)} : qg)
noncomputable def Uu : Option (List qg):=
  (Zx 0 0 0 2 2 1).bind fun a=>(Zx 0 0 1 1 2 2).bind fun b=>some [a,b]
noncomputable def q78 : Option Bool:=
  Uu.bind fun f=>(q3r f).bind fun a=>Uu.bind fun g=>(q3o g).bind fun b=>Uu.bind fun h=>(q3m h ({Turn:=9,At:=({X:=0,Y:=0,Z:=0} : qj)} : Qj)).bind fun c=>(Zx 0 0 0 1 2 2).bind fun j=>(Zx 1 0 0 2 2 1).bind fun k=>(q6d [j,k]).bind fun d=>(cond (a.2 == 0) (some (a.1 == 6)) (some false)).bind fun l=>(cond l (some (b.2 == 0)) (some false)).bind fun m=>(cond m (some (b.1 == 22)) (some false)).bind fun n=>(cond n (some (c.2 == 0)) (some false)).bind fun o=>cond o ((Zx (-2) 0 0 0 2 1).bind fun p=>(Zx (-2) 0 1 0 1 2).bind fun q=>(q37 c.1 [p,q]).bind fun r=>(cond r (some (d.2 == 0)) (some false)).bind fun s=>(cond s (Uu.bind fun t=>(q37 d.1 t).bind fun u=>some u) (some false)).bind fun v=>(cond v (Uu.bind fun w=>(q23 w ({X:=0,Y:=0,Z:=1} : qj)).bind fun x=>some x) (some false)).bind fun y=>(cond y (Uu.bind fun z=>(q23 z ({X:=1,Y:=0,Z:=1} : qj)).bind fun aa=>some (!aa)) (some false)).bind fun ab=>some ab) (some false)
noncomputable def q79 (a : List qg) (b : List qg) : Option Bool:=
  (cond (decide ((a.length : Int)≤30)) (some (decide ((b.length : Int)≤30))) (some false)).bind fun c=>(cond c ((q7r a b).bind fun d=>some (d == 0)) (some false)).bind fun f=>some f
noncomputable def q4p (a : qj) : Option Bool:=
  (Jj a (-1000)).bind fun b=>(cond b ((q1q (-1) a).bind fun c=>(Jj c (-1000)).bind fun d=>some d) (some false)).bind fun f=>some f
def q4c (x : qj) : List DV:=[.int .i64 x.X,.int .i64 x.Y,.int .i64 x.Z]
noncomputable def q4g (a : qj × qj × qj) (c : Int) : Option ((Int) ⊕ ((Unit) ⊕ (Int))):=
  cond (decide (c < 24)) ((q1a c).bind fun b=>cond ((b.1.X == a.1.X) && ((b.1.Y == a.1.Y) && ((b.1.Z == a.1.Z) && ((b.2.1.X == a.2.1.X) && ((b.2.1.Y == a.2.1.Y) && ((b.2.1.Z == a.2.1.Z) && ((b.2.2.X == a.2.2.X) && ((b.2.2.Y == a.2.2.Y) && ((b.2.2.Z == a.2.2.Z) && true))))))))) (some (.inr (.inr c))) (some (.inl (IntKind.wrap .u8 (c + 1))))) (some (.inr (.inl ())))
noncomputable def q74 (a : qj × qj × qj) : Option Int:=
  (loop (q4g a) 0 : Option ((Unit) ⊕ (Int))).bind fun b=>(match b with | .inl _=>some 0 | .inr c=>some c)
noncomputable def q1b (b : (qj × qj × qj)) (a : Int × List qj) : Option ((Int × List qj) ⊕ (List qj)):=
  cond (decide (a.1 < 3)) ((idxA 3 a.2 a.1).bind fun c=>(q4h b c).bind fun d=>(idxA 3 a.2 a.1).bind fun _=>some (.inl (w64 (a.1 + 1),a.2.set a.1.toNat d))) (some (.inr a.2))
noncomputable def q4i (b : Qj) (c : Qj) : Option Qj:=
  (q1a b.Turn).bind fun a=>(q1a c.Turn).bind fun d=>(loop (q1b d) (0,[a.1,a.2.1,a.2.2])).bind fun f=>(arr3 f).bind fun g=>(q74 g).bind fun h=>(q2k c b.At).bind fun j=>some ({Turn:=h,At:=j} : Qj)
noncomputable def q2i (c : Qj) (a : Int) : Option ((Int) ⊕ ((Unit) ⊕ (Qj × Int))):=
  cond (decide (a < 24)) ((q4i ({Turn:=c.Turn,At:=({X:=0,Y:=0,Z:=0} : qj)} : Qj) ({Turn:=a,At:=({X:=0,Y:=0,Z:=0} : qj)} : Qj)).bind fun d=>cond (d.Turn == 0) ((q2k ({Turn:=a,At:=({X:=0,Y:=0,Z:=0} : qj)} : Qj) c.At).bind fun b=>some (.inr (.inr (({Turn:=a,At:=({X:=w64 (0 - b.X),Y:=w64 (0 - b.Y),Z:=w64 (0 - b.Z)} : qj)} : Qj),0)))) (some (.inl (IntKind.wrap .u8 (a + 1))))) (some (.inr (.inl ())))
noncomputable def q73 (a : Qj) : Option (Qj × Int):=
  (q2h a).bind fun b=>cond (b != 0) (some (({Turn:=0,At:=({X:=0,Y:=0,Z:=0} : qj)} : Qj),b)) ((loop (q2i a) 0 : Option ((Unit) ⊕ (Qj × Int))).bind fun c=>(match c with | .inl _=>some (({Turn:=0,At:=({X:=0,Y:=0,Z:=0} : qj)} : Qj),8) | .inr d=>some d))
noncomputable def qaa (b : List qg) (c : Qj) (d : qj) : Option Bool:=
  q78.bind fun f=>(q79 b []).bind fun n=>(cond (!n) (some true) ((q7m c).bind fun o=>some (o != 0))).bind fun p=>(cond p (some true) ((q4p c.At).bind fun q=>some (!q))).bind fun r=>(cond r (some true) ((q4p d).bind fun s=>some (!s))).bind fun t=>(cond t (some true) (some (!f))).bind fun u=>cond u (some f) ((q3m b c).bind fun a=>cond (a.2 != 0) ((cond f ((cond (a.2 == 16) (some true) (some (a.2 == 4))).bind fun v=>some v) (some false)).bind fun w=>some w) ((q3r b).bind fun h=>(q3r a.1).bind fun j=>(q3o b).bind fun k=>(q3o a.1).bind fun l=>(q73 c).bind fun m=>(q3m a.1 m.1).bind fun g=>(cond (h.2 != 0) (some true) (some (j.2 != 0))).bind fun x=>(cond x (some true) (some (k.2 != 0))).bind fun y=>(cond y (some true) (some (l.2 != 0))).bind fun z=>(cond z (some true) (some (m.2 != 0))).bind fun aa=>(cond aa (some true) (some (h.1 != j.1))).bind fun ab=>(cond ab (some true) (some (k.1 != l.1))).bind fun ac=>(cond ac (some true) ((cond (g.2 != 0) (some (g.2 != 4)) (some false)).bind fun ad=>some ad)).bind fun ae=>(cond ae (some true) ((cond (g.2 == 0) ((q37 g.1 b).bind fun af=>some (!af)) (some false)).bind fun ag=>some ag)).bind fun ah=>cond ah (some false) ((U6 d ({X:=1,Y:=1,Z:=1} : qj)).bind fun ai=>(q7t ({Lo:=d,Hi:=ai} : qg) c).bind fun aj=>(cond f ((q23 a.1 aj.Lo).bind fun ak=>(q23 b d).bind fun al=>some (ak == al)) (some false)).bind fun am=>some am)))
noncomputable def qj9 (a : qk) : Option Bool:=
  (cond (decide (a.Lo < a.Hi)) (some (decide (a.Lo ≥ (-1000000)))) (some false)).bind fun b=>(cond b (some (decide (a.Hi≤1000000))) (some false)).bind fun c=>some c
noncomputable def qdq (b : List qk) (a : Int) : Option ((Int) ⊕ ((Unit) ⊕ (Int))):=
  cond (decide (a < (b.length : Int))) ((idx b a).bind fun c=>(qj9 c).bind fun d=>(cond (!d) (some true) ((cond (decide (a > 0)) ((idx b (w64 (a - 1))).bind fun f=>(idx b a).bind fun g=>some (decide (f.Hi ≥ g.Lo))) (some false)).bind fun h=>some h)).bind fun j=>cond j (some (.inr (.inr 8))) (some (.inl (w64 (a + 1))))) (some (.inr (.inl ())))
noncomputable def qal (a : List qk) : Option Int:=
  cond (decide ((a.length : Int) > 400)) (some 4) ((loop (qdq a) 0 : Option ((Unit) ⊕ (Int))).bind fun b=>(match b with | .inl _=>some 0 | .inr c=>some c))
noncomputable def q7g (b : List qk) (a : Int × List Int) : Option ((Int × List Int) ⊕ (List Int)):=
  cond (decide (a.1 < (b.length : Int))) ((idx b a.1).bind fun c=>(idx b a.1).bind fun d=>(app 8 a.2 [c.Lo,d.Hi]).bind fun f=>some (.inl (w64 (a.1 + 1),f))) (some (.inr a.2))
noncomputable def qj6 (b : List qk) (a : Int × List Int) : Option ((Int × List Int) ⊕ (List Int)):=
  cond (decide (a.1 < (b.length : Int))) ((idx b a.1).bind fun c=>(idx b a.1).bind fun d=>(app 8 a.2 [c.Lo,d.Hi]).bind fun f=>some (.inl (w64 (a.1 + 1),f))) (some (.inr a.2))
noncomputable def qdr (a : List qk) (b : List qk) : Option (List Int):=
  (loop (q7g a) (0,[])).bind fun c=>(loop (qj6 b) (0,c)).bind fun d=>(Zz d).bind fun f=>some f
noncomputable def q7h (b : List qk) (c : Int) (a : Int) : Option ((Int) ⊕ ((Unit) ⊕ (Bool))):=
  cond (decide (a < (b.length : Int))) ((idx b a).bind fun d=>(cond (decide (d.Lo≤c)) ((idx b a).bind fun f=>some (decide (c < f.Hi))) (some false)).bind fun g=>cond g (some (.inr (.inr true))) (some (.inl (w64 (a + 1))))) (some (.inr (.inl ())))
noncomputable def qam (a : List qk) (b : Int) : Option Bool:=
  (loop (q7h a b) 0 : Option ((Unit) ⊕ (Bool))).bind fun c=>(match c with | .inl _=>some false | .inr d=>some d)
noncomputable def q7i (b : List Int) (c : List qk) (d : List qk) (f : Int) (a : Int × List Bool) : Option ((Int × List Bool) ⊕ (List Bool)):=
  cond (decide (a.1 < (b.length : Int))) ((idx b a.1).bind fun g=>(qam c g).bind fun h=>(idx b a.1).bind fun j=>(qam d j).bind fun k=>(q4y f h k).bind fun l=>(app 1 a.2 [l]).bind fun m=>some (.inl (w64 (a.1 + 1),m))) (some (.inr a.2))
noncomputable def qan (d : Int) (a : List qk) (b : List qk) : Option (List qk):=
  (qdr a b).bind fun c=>(loop (q7i c a b d) (0,[])).bind fun f=>(q2s c f).bind fun g=>some g
noncomputable def q92 (b : List qk) (a : Int × Int) : Option ((Int × Int) ⊕ (Int)):=
  cond (decide (a.2 < (b.length : Int))) ((idx b a.2).bind fun c=>some (.inl (w64 (a.1 + (w64 (c.Hi - c.Lo))),w64 (a.2 + 1)))) (some (.inr a.1))
noncomputable def qkr (a : List qk) : Option (Int × Int):=
  (qb9 a).bind fun b=>cond (b != 0) (some (0,b)) ((loop (q92 a) (0,0)).bind fun c=>some (c,0))
noncomputable def q7j (b : List qk) (a : Int × Int) : Option ((Int × Int) ⊕ (Int)):=
  cond (decide (a.2 < (b.length : Int))) ((idx b a.2).bind fun c=>(idx b a.2).bind fun d=>some (.inl (w64 ((w64 (a.1 + c.Hi)) - d.Lo),w64 (a.2 + 1)))) (some (.inr a.1))
noncomputable def qj8 (a : List qk) : Option (Int × Int):=
  (qal a).bind fun b=>cond (b != 0) ((qal a).bind fun c=>some (0,c)) ((loop (q7j a) (0,0)).bind fun d=>some (d,0))
structure qfc where
  Frame : Qj
  Size : qj
  deriving DecidableEq
structure qzm where
  t_ : Int
  at_ : qj
  flat_ : qj
  deriving DecidableEq
end Go.Sh
