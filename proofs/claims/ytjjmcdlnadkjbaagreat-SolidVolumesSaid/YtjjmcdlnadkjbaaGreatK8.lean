/- PX -/
import Derived.Test.YtjjmcdlnadkjbaaGreatK7
namespace Go.Sh
open Go Go.Am
structure qy where
  X : Int
  Y : Int
  Z : Int
  deriving DecidableEq
structure qf where
  Lo : qy
  Hi : qy
  deriving DecidableEq
def qp (x : qf) : List DV:=[.int .i64 x.Lo.X,.int .i64 x.Lo.Y,.int .i64 x.Lo.Z,.int .i64 x.Hi.X,.int .i64 x.Hi.Y,.int .i64 x.Hi.Z]
noncomputable def q5b (a : List qf) : Option Bool:=
  (cond (decide ((a.length : Int) > 30)) (some (decide ((a.length : Int)≤400))) (some false)).bind fun b=>(cond b (some true) (some (decide ((a.length : Int) > 420)))).bind fun c=>some c
noncomputable def q3i (b : List qf) (c : qf→Option Bool) (a : Int) : Option ((Int) ⊕ ((Unit) ⊕ (Int))):=
  cond (decide (a < (b.length : Int))) ((idx b a).bind fun d=>(c d).bind fun f=>cond f (some (.inr (.inr a))) (some (.inl (w64 (a + 1))))) (some (.inr (.inl ())))
noncomputable def qbl (a : List qf) (b : qf→Option Bool) : Option Int:=
  (loop (q3i a b) 0 : Option ((Unit) ⊕ (Int))).bind fun c=>(match c with | .inl _=>some (-1) | .inr d=>some d)
noncomputable def q8a (a : List qf) (b : qf→Option Bool) : Option Bool:=
  (qbl a b).bind fun c=>some (decide (c ≥ 0))
noncomputable def q6t (a : qy) : Option Bool:=
  (cond (decide ((min (min a.X a.Y) a.Z) ≥ (-1000000))) (some (decide ((max (max a.X a.Y) a.Z)≤1000000))) (some false)).bind fun b=>some b
noncomputable def q6v (a : qf) : Option Bool:=
  (cond (decide (a.Lo.X < a.Hi.X)) (some (decide (a.Lo.Y < a.Hi.Y))) (some false)).bind fun b=>(cond b (some (decide (a.Lo.Z < a.Hi.Z))) (some false)).bind fun c=>(cond c ((q6t a.Lo).bind fun d=>some d) (some false)).bind fun f=>(cond f ((q6t a.Hi).bind fun g=>some g) (some false)).bind fun h=>some h
noncomputable def q2e (a : qf) : Option Bool:=
  (q6v a).bind fun b=>some (!b)
def Ql (x : List qf) : List DV:=[.sl 6 (x.map qp)]
def qc2 : ByteArray:=⟨#[0,1,2,2,3,3,3,3,4,4,4,4,4,4,4,4,5,5,5,5,5,5,5,5,5,5,5,5,5,5,5,5,6,6,6,6,6,6,6,6,6,6,6,6,6,6,6,6,6,6,6,6,6,6,6,6,6,6,6,6,6,6,6,6,7,7,7,7,7,7,7,7,7,7,7,7,7,7,7,7,7,7,7,7,7,7,7,7,7,7,7,7,7,7,7,7,7,7,7,7,7,7,7,7,7,7,7,7,7,7,7,7,7,7,7,7,7,7,7,7,7,7,7,7,7,7,7,7,8,8,8,8,8,8,8,8,8,8,8,8,8,8,8,8,8,8,8,8,8,8,8,8,8,8,8,8,8,8,8,8,8,8,8,8,8,8,8,8,8,8,8,8,8,8,8,8,8,8,8,8,8,8,8,8,8,8,8,8,8,8,8,8,8,8,8,8,8,8,8,8,8,8,8,8,8,8,8,8,8,8,8,8,8,8,8,8,8,8,8,8,8,8,8,8,8,8,8,8,8,8,8,8,8,8,8,8,8,8,8,8,8,8,8,8,8,8,8,8,8,8,8,8,8,8,8,8]⟩
noncomputable def q1u (c : Int) : Option Int:=
  (cond (decide (c ≥ 4294967296)) (some (Int.fdiv c (2 ^ 32),32)) (some (c,0))).bind fun a=>(cond (decide (a.1 ≥ 65536)) (some (Int.fdiv a.1 (2 ^ 16),w64 (a.2 + 16))) (some (a.1,a.2))).bind fun b=>(cond (decide (b.1 ≥ 256)) (some (Int.fdiv b.1 (2 ^ 8),w64 (b.2 + 8))) (some (b.1,b.2))).bind fun d=>(q44 qc2 (IntKind.wrap .u8 d.1)).bind fun f=>some (w64 (d.2 + (w64 f)))
noncomputable def U7 (a : Int) : Option Int:=
  (q1u a).bind fun b=>some b
noncomputable def q78 (a : Int) : Option Bool:=
  some (a != a)
noncomputable def Yh (a : Int) (b : Int) : Option Bool:=
  (q78 a).bind fun c=>(cond c ((q78 b).bind fun d=>some (!d)) (some false)).bind fun f=>(cond f (some true) (some (decide (a < b)))).bind fun g=>some g
noncomputable def q60 (c : Int) (a : Int × List Int) : Option ((Int × List Int) ⊕ (List Int)):=
  (cond (decide (a.1 > c)) ((idx a.2 a.1).bind fun d=>(idx a.2 (w64 (a.1 - 1))).bind fun f=>(Yh d f).bind fun g=>some g) (some false)).bind fun h=>cond h ((idx a.2 (w64 (a.1 - 1))).bind fun b=>(idx a.2 a.1).bind fun j=>(idx a.2 a.1).bind fun _=>(idx (a.2.set a.1.toNat b) (w64 (a.1 - 1))).bind fun _=>some (.inl (w64 (a.1 - 1),(a.2.set a.1.toNat b).set (w64 (a.1 - 1)).toNat j))) (some (.inr a.2))
noncomputable def q5z (b : Int) (c : Int) (a : Int × List Int) : Option ((Int × List Int) ⊕ (List Int)):=
  cond (decide (a.1 < b)) (((loop (q60 c) (a.1,a.2)).bind fun d=>some d).bind fun f=>some (.inl (w64 (a.1 + 1),f))) (some (.inr a.2))
noncomputable def q5y (b : List Int) (a : Int) (c : Int) : Option (List Int):=
  (loop (q5z c a) (w64 (a + 1),b)).bind fun d=>some d
noncomputable def q6m (d : Int) (b : Int) (a : Int × List Int) : Option ((Int × List Int) ⊕ (List Int)):=
  cond (decide ((w64 ((w64 (2 * a.1)) + 1)) ≥ d)) (some (.inr a.2)) ((cond (decide ((w64 ((w64 ((w64 (2 * a.1)) + 1)) + 1)) < d)) ((idx a.2 (w64 (b + (w64 ((w64 (2 * a.1)) + 1))))).bind fun g=>(idx a.2 (w64 ((w64 (b + (w64 ((w64 (2 * a.1)) + 1)))) + 1))).bind fun h=>(Yh g h).bind fun j=>some j) (some false)).bind fun k=>(cond k (some (w64 ((w64 ((w64 (2 * a.1)) + 1)) + 1))) (some (w64 ((w64 (2 * a.1)) + 1)))).bind fun c=>(idx a.2 (w64 (b + a.1))).bind fun l=>(idx a.2 (w64 (b + c))).bind fun m=>(Yh l m).bind fun n=>cond (!n) (some (.inr a.2)) ((idx a.2 (w64 (b + c))).bind fun f=>(idx a.2 (w64 (b + a.1))).bind fun o=>(idx a.2 (w64 (b + a.1))).bind fun _=>(idx (a.2.set (w64 (b + a.1)).toNat f) (w64 (b + c))).bind fun _=>some (.inl (c,(a.2.set (w64 (b + a.1)).toNat f).set (w64 (b + c)).toNat o))))
noncomputable def q3s (a : List Int) (b : Int) (c : Int) (d : Int) : Option (List Int):=
  (loop (q6m c d) (b,a)).bind fun f=>some f
noncomputable def q5w (d : Int) (b : Int) (a : Int × List Int) : Option ((Int × List Int) ⊕ (List Int)):=
  cond (decide (a.1 ≥ 0)) ((q3s a.2 a.1 (w64 (d - b)) b).bind fun c=>(Qm c.length a.2.length).bind fun _=>some (.inl (w64 (a.1 - 1),c))) (some (.inr a.2))
noncomputable def q5x (b : Int) (a : Int × List Int) : Option ((Int × List Int) ⊕ (List Int)):=
  cond (decide (a.1 ≥ 0)) ((idx a.2 (w64 (b + a.1))).bind fun c=>(idx a.2 b).bind fun d=>(idx a.2 b).bind fun _=>(idx (a.2.set b.toNat c) (w64 (b + a.1))).bind fun _=>(q3s ((a.2.set b.toNat c).set (w64 (b + a.1)).toNat d) 0 a.1 b).bind fun f=>(Qm f.length ((a.2.set b.toNat c).set (w64 (b + a.1)).toNat d).length).bind fun _=>some (.inl (w64 (a.1 - 1),f))) (some (.inr a.2))
noncomputable def q5v (c : List Int) (a : Int) (b : Int) : Option (List Int):=
  (loop (q5w b a) (w64 (Int.tdiv (w64 ((w64 (b - a)) - 1)) 2),c)).bind fun d=>(loop (q5x a) (w64 ((w64 (b - a)) - 1),d)).bind fun f=>some f
noncomputable def q2b (c : List Int) (a : Int) (b : Int) (d : Int) : Option (Int × Int × Int):=
  (idx c b).bind fun f=>(idx c a).bind fun g=>(Yh f g).bind fun h=>cond h (some (b,a,w64 (d + 1))) (some (a,b,d))
noncomputable def q3m (a : List Int) (f : Int) (g : Int) (h : Int) (j : Int) : Option (Int × Int):=
  (q2b a f g j).bind fun b=>(q2b a b.2.1 h b.2.2).bind fun c=>(q2b a b.1 c.1 c.2.2).bind fun d=>some (d.2.1,d.2.2)
noncomputable def q2a (c : List Int) (a : Int) (d : Int) : Option (Int × Int):=
  (q3m c (w64 (a - 1)) a (w64 (a + 1)) d).bind fun b=>some (b.1,b.2)
noncomputable def q5u (d : List Int) (a : Int) (b : Int) : Option (Int × Int):=
  (cond (decide ((w64 (b - a)) ≥ 8)) ((cond (decide ((w64 (b - a)) ≥ 50)) ((q2a d (w64 (a + (w64 ((w64 (Int.tdiv (w64 (b - a)) 4)) * 1)))) 0).bind fun g=>(q2a d (w64 (a + (w64 ((w64 (Int.tdiv (w64 (b - a)) 4)) * 2)))) g.2).bind fun h=>(q2a d (w64 (a + (w64 ((w64 (Int.tdiv (w64 (b - a)) 4)) * 3)))) h.2).bind fun j=>some (g.1,h.1,j.1,j.2)) (some (w64 (a + (w64 ((w64 (Int.tdiv (w64 (b - a)) 4)) * 1))),w64 (a + (w64 ((w64 (Int.tdiv (w64 (b - a)) 4)) * 2))),w64 (a + (w64 ((w64 (Int.tdiv (w64 (b - a)) 4)) * 3))),0))).bind fun f=>(q3m d f.1 f.2.1 f.2.2.1 f.2.2.2).bind fun k=>some (k.1,k.2)) (some (w64 (a + (w64 ((w64 (Int.tdiv (w64 (b - a)) 4)) * 2))),0))).bind fun c=>cond (c.2 == 0) (some (c.1,1)) (cond (c.2 == 12) (some (c.1,2)) (some (c.1,0)))
noncomputable def q96 (a : Int × Int × List Int) : Option ((Int × Int × List Int) ⊕ (List Int)):=
  cond (decide (a.1 < a.2.1)) ((idx a.2.2 a.2.1).bind fun b=>(idx a.2.2 a.1).bind fun c=>(idx a.2.2 a.1).bind fun _=>(idx (a.2.2.set a.1.toNat b) a.2.1).bind fun _=>some (.inl (w64 (a.1 + 1),w64 (a.2.1 - 1),(a.2.2.set a.1.toNat b).set a.2.1.toNat c))) (some (.inr a.2.2))
noncomputable def q6k (a : List Int) (b : Int) (c : Int) : Option (List Int):=
  (loop q96 (b,w64 (c - 1),a)).bind fun d=>some d
noncomputable def q64 (c : Int) (b : Int × Int × List Int) (a : Int) : Option ((Int) ⊕ (Int)):=
  (cond (decide (a < c)) ((idx b.2.2 a).bind fun d=>(idx b.2.2 (w64 (a - 1))).bind fun f=>(Yh d f).bind fun g=>some (!g)) (some false)).bind fun h=>cond h (some (.inl (w64 (a + 1)))) (some (.inr a))
noncomputable def q8t (a : Int × List Int) : Option ((Int × List Int) ⊕ (List Int)):=
  cond (decide (a.1 ≥ 1)) ((idx a.2 a.1).bind fun c=>(idx a.2 (w64 (a.1 - 1))).bind fun d=>(Yh c d).bind fun f=>cond (!f) (some (.inr a.2)) ((idx a.2 (w64 (a.1 - 1))).bind fun b=>(idx a.2 a.1).bind fun g=>(idx a.2 a.1).bind fun _=>(idx (a.2.set a.1.toNat b) (w64 (a.1 - 1))).bind fun _=>some (.inl (w64 (a.1 - 1),(a.2.set a.1.toNat b).set (w64 (a.1 - 1)).toNat g)))) (some (.inr a.2))
noncomputable def q65 (d : Int) (b : Int) (a : Int × List Int) : Option ((Int × List Int) ⊕ (Int × List Int)):=
  cond (decide (a.1 < d)) ((idx a.2 a.1).bind fun f=>(idx a.2 (w64 (a.1 - 1))).bind fun g=>(Yh f g).bind fun h=>cond (!h) (some (.inr (b,a.2))) ((idx a.2 (w64 (a.1 - 1))).bind fun c=>(idx a.2 a.1).bind fun j=>(idx a.2 a.1).bind fun _=>(idx (a.2.set a.1.toNat c) (w64 (a.1 - 1))).bind fun _=>some (.inl (w64 (a.1 + 1),(a.2.set a.1.toNat c).set (w64 (a.1 - 1)).toNat j)))) (some (.inr (b,a.2)))
noncomputable def q3p (c : Int) (g : Int) (b : Int × Int × List Int) : Option ((Int × Int × List Int) ⊕ ((List Int) ⊕ (Bool × List Int))):=
  cond (decide (b.2.1 < 5)) (((loop (q64 c b) b.1).bind fun a=>cond (a == c) (some (.inr (true,b.2.2))) (cond (decide ((w64 (c - g)) < 50)) (some (.inr (false,b.2.2))) ((idx b.2.2 (w64 (a - 1))).bind fun d=>(idx b.2.2 a).bind fun h=>(idx b.2.2 a).bind fun _=>(idx (b.2.2.set a.toNat d) (w64 (a - 1))).bind fun _=>(cond (decide ((w64 (a - g)) ≥ 2)) ((loop q8t (w64 (a - 1),(b.2.2.set a.toNat d).set (w64 (a - 1)).toNat h)).bind fun f=>some f) (some ((b.2.2.set a.toNat d).set (w64 (a - 1)).toNat h))).bind fun j=>cond (decide ((w64 (c - a)) ≥ 2)) ((loop (q65 c a) (w64 (a + 1),j)).bind fun f=>some (.inl f)) (some (.inl (a,j))))) : Option ((Int × List Int) ⊕ (Bool × List Int))).bind fun l=>(match l with | .inl k=>some (.inl (k.1,w64 (b.2.1 + 1),k.2)) | .inr m=>some (.inr (.inr m)))) (some (.inr (.inl b.2.2)))
noncomputable def q3o (b : List Int) (a : Int) (c : Int) : Option (Bool × List Int):=
  (loop (q3p c a) (w64 (a + 1),0,b) : Option ((List Int) ⊕ (Bool × List Int))).bind fun d=>(match d with | .inl f=>some (false,f) | .inr g=>some g)
noncomputable def q68 (b : Int × Int × List Int) (c : Int) (a : Int) : Option ((Int) ⊕ (Int)):=
  (cond (decide (a≤b.2.1)) ((idx b.2.2 c).bind fun d=>(idx b.2.2 a).bind fun f=>(Yh d f).bind fun g=>some (!g)) (some false)).bind fun h=>cond h (some (.inl (w64 (a + 1)))) (some (.inr a))
noncomputable def q69 (c : Int) (b : Int × Int × List Int) (d : Int) (a : Int) : Option ((Int) ⊕ (Int)):=
  (cond (decide (c≤a)) ((idx b.2.2 d).bind fun f=>(idx b.2.2 a).bind fun g=>(Yh f g).bind fun h=>some h) (some false)).bind fun j=>cond j (some (.inl (w64 (a - 1)))) (some (.inr a))
noncomputable def q67 (d : Int) (a : Int × Int × List Int) : Option ((Int × Int × List Int) ⊕ (Int × List Int)):=
  (loop (q68 a d) a.1).bind fun b=>(loop (q69 b a d) a.2.1).bind fun c=>cond (decide (b > c)) (some (.inr (b,a.2.2))) ((idx a.2.2 c).bind fun f=>(idx a.2.2 b).bind fun g=>(idx a.2.2 b).bind fun _=>(idx (a.2.2.set b.toNat f) c).bind fun _=>some (.inl (w64 (b + 1),w64 (c - 1),(a.2.2.set b.toNat f).set c.toNat g)))
noncomputable def q66 (b : List Int) (a : Int) (g : Int) (c : Int) : Option (Int × List Int):=
  (idx b c).bind fun d=>(idx b a).bind fun h=>(idx b a).bind fun _=>(idx (b.set a.toNat d) c).bind fun _=>(loop (q67 a) (w64 (a + 1),w64 (g - 1),(b.set a.toNat d).set c.toNat h)).bind fun f=>some (f.1,f.2)
noncomputable def q6b (h : Int) (c : List Int) (b : Int) (d : Int) (f : Int) (g : Int) (a : Int) : Option ((Int) ⊕ (Int)):=
  (cond (decide (a≤(w64 (h - 1)))) ((idx ((c.set b.toNat d).set f.toNat g) a).bind fun j=>(idx ((c.set b.toNat d).set f.toNat g) b).bind fun k=>(Yh j k).bind fun l=>some l) (some false)).bind fun m=>cond m (some (.inl (w64 (a + 1)))) (some (.inr a))
noncomputable def q6c (h : Int) (c : List Int) (b : Int) (d : Int) (f : Int) (g : Int) (a : Int) : Option ((Int) ⊕ (Int)):=
  (cond (decide (h≤a)) ((idx ((c.set b.toNat d).set f.toNat g) a).bind fun j=>(idx ((c.set b.toNat d).set f.toNat g) b).bind fun k=>(Yh j k).bind fun l=>some (!l)) (some false)).bind fun m=>cond m (some (.inl (w64 (a - 1)))) (some (.inr a))
noncomputable def q6e (b : Int × Int × List Int) (c : Int) (a : Int) : Option ((Int) ⊕ (Int)):=
  (cond (decide (a≤b.2.1)) ((idx b.2.2 a).bind fun d=>(idx b.2.2 c).bind fun f=>(Yh d f).bind fun g=>some g) (some false)).bind fun h=>cond h (some (.inl (w64 (a + 1)))) (some (.inr a))
noncomputable def q6f (c : Int) (b : Int × Int × List Int) (d : Int) (a : Int) : Option ((Int) ⊕ (Int)):=
  (cond (decide (c≤a)) ((idx b.2.2 a).bind fun f=>(idx b.2.2 d).bind fun g=>(Yh f g).bind fun h=>some (!h)) (some false)).bind fun j=>cond j (some (.inl (w64 (a - 1)))) (some (.inr a))
noncomputable def q6d (d : Int) (a : Int × Int × List Int) : Option ((Int × Int × List Int) ⊕ (Int × List Int)):=
  (loop (q6e a d) a.1).bind fun b=>(loop (q6f b a d) a.2.1).bind fun c=>cond (decide (b > c)) (some (.inr (c,a.2.2))) ((idx a.2.2 c).bind fun f=>(idx a.2.2 b).bind fun g=>(idx a.2.2 b).bind fun _=>(idx (a.2.2.set b.toNat f) c).bind fun _=>some (.inl (w64 (b + 1),w64 (c - 1),(a.2.2.set b.toNat f).set c.toNat g)))
noncomputable def q6a (b : List Int) (a : Int) (k : Int) (c : Int) : Option (Int × Bool × List Int):=
  (idx b c).bind fun d=>(idx b a).bind fun f=>(idx b a).bind fun _=>(idx (b.set a.toNat d) c).bind fun _=>(loop (q6b k b a d c f) (w64 (a + 1))).bind fun j=>(loop (q6c j b a d c f) (w64 (k - 1))).bind fun g=>cond (decide (j > g)) ((idx ((b.set a.toNat d).set c.toNat f) a).bind fun l=>(idx ((b.set a.toNat d).set c.toNat f) g).bind fun o=>(idx ((b.set a.toNat d).set c.toNat f) g).bind fun _=>(idx (((b.set a.toNat d).set c.toNat f).set g.toNat l) a).bind fun _=>some (g,true,(((b.set a.toNat d).set c.toNat f).set g.toNat l).set a.toNat o)) ((idx ((b.set a.toNat d).set c.toNat f) g).bind fun m=>(idx ((b.set a.toNat d).set c.toNat f) j).bind fun p=>(idx ((b.set a.toNat d).set c.toNat f) j).bind fun _=>(idx (((b.set a.toNat d).set c.toNat f).set j.toNat m) g).bind fun _=>(loop (q6d a) (w64 (j + 1),w64 (g - 1),(((b.set a.toNat d).set c.toNat f).set j.toNat m).set g.toNat p)).bind fun h=>(idx h.2 a).bind fun n=>(idx h.2 h.1).bind fun q=>(idx h.2 h.1).bind fun _=>(idx (h.2.set h.1.toNat n) a).bind fun _=>some (h.1,false,(h.2.set h.1.toNat n).set a.toNat q))
noncomputable def q12 (a : Int) : Option Int:=
  (U7 (IntKind.wrap .u64 a)).bind fun b=>(shlK .u64 1 b).bind fun c=>some c
noncomputable def q13 (a : Int) : Option Int:=
  some (xorI .u64 (xorI .u64 (xorI .u64 a (IntKind.wrap .u64 (a * (2 ^ 13)))) (Int.fdiv (xorI .u64 a (IntKind.wrap .u64 (a * (2 ^ 13)))) (2 ^ 7))) (IntKind.wrap .u64 ((xorI .u64 (xorI .u64 a (IntKind.wrap .u64 (a * (2 ^ 13)))) (Int.fdiv (xorI .u64 a (IntKind.wrap .u64 (a * (2 ^ 13)))) (2 ^ 7))) * (2 ^ 17))))
noncomputable def q5t (b : Int) (d : Int) (f : Int) (a : Int × List Int × Int) : Option ((Int × List Int × Int) ⊕ (List Int)):=
  cond (decide (a.1≤(w64 ((w64 (b + (w64 ((w64 (Int.tdiv (w64 (d - b)) 4)) * 2)))) + 1)))) ((q13 a.2.2).bind fun c=>(cond (decide ((w64 (andI .u64 c (IntKind.wrap .u64 (f - 1)))) ≥ (w64 (d - b)))) (some (w64 ((w64 (andI .u64 c (IntKind.wrap .u64 (f - 1)))) - (w64 (d - b))))) (some (w64 (andI .u64 c (IntKind.wrap .u64 (f - 1)))))).bind fun g=>(idx a.2.1 (w64 (b + g))).bind fun h=>(idx a.2.1 a.1).bind fun j=>(idx a.2.1 a.1).bind fun _=>(idx (a.2.1.set a.1.toNat h) (w64 (b + g))).bind fun _=>some (.inl (w64 (a.1 + 1),(a.2.1.set a.1.toNat h).set (w64 (b + g)).toNat j,c))) (some (.inr a.2.1))
noncomputable def q5s (c : List Int) (a : Int) (b : Int) : Option (List Int):=
  cond (decide ((w64 (b - a)) ≥ 8)) ((q12 (w64 (b - a))).bind fun d=>(loop (q5t a b d) (w64 ((w64 (a + (w64 ((w64 (Int.tdiv (w64 (b - a)) 4)) * 2)))) - 1),c,IntKind.wrap .u64 (w64 (b - a)))).bind fun f=>some f) (some c)
noncomputable def q3q (rec : List Int→Int→Int→Int→Option (List Int)) (a : Int × Int × Int × Bool × Bool × List Int) : Option ((Int × Int × Int × Bool × Bool × List Int) ⊕ (List Int)):=
  cond (decide ((w64 (a.2.1 - a.1))≤12)) ((q5y a.2.2.2.2.2 a.1 a.2.1).bind fun k=>(Qm k.length a.2.2.2.2.2.length).bind fun _=>some (.inr k)) (cond (a.2.2.1 == 0) ((q5v a.2.2.2.2.2 a.1 a.2.1).bind fun l=>(Qm l.length a.2.2.2.2.2.length).bind fun _=>some (.inr l)) ((cond (!a.2.2.2.1) ((q5s a.2.2.2.2.2 a.1 a.2.1).bind fun m=>(Qm m.length a.2.2.2.2.2.length).bind fun _=>some (w64 (a.2.2.1 - 1),m)) (some (a.2.2.1,a.2.2.2.2.2))).bind fun c=>(q5u c.2 a.1 a.2.1).bind fun g=>(cond (g.2 == 2) ((q6k c.2 a.1 a.2.1).bind fun n=>(Qm n.length c.2.length).bind fun _=>some (w64 ((w64 (a.2.1 - 1)) - (w64 (g.1 - a.1))),1,n)) (some (g.1,g.2,c.2))).bind fun d=>(cond a.2.2.2.1 (some a.2.2.2.2.1) (some false)).bind fun q=>(cond q (some (d.2.1 == 1)) (some false)).bind fun r=>(cond r ((q3o d.2.2 a.1 a.2.1).bind fun h=>(Qm h.2.length d.2.2.length).bind fun _=>cond h.1 (some (.inr h.2)) (some (.inl h.2))) (some (.inl d.2.2)) : Option ((List Int) ⊕ (List Int))).bind fun s=>(match s with | .inl f=>(cond (decide (a.1 > 0)) ((idx f (w64 (a.1 - 1))).bind fun t=>(idx f d.1).bind fun u=>(Yh t u).bind fun v=>some (!v)) (some false)).bind fun w=>cond w ((q66 f a.1 a.2.1 d.1).bind fun j=>(Qm j.2.length f.length).bind fun _=>some (.inl (j.1,a.2.1,c.1,a.2.2.2.1,a.2.2.2.2.1,j.2))) ((q6a f a.1 a.2.1 d.1).bind fun b=>(Qm b.2.2.length f.length).bind fun _=>cond (decide ((w64 (b.1 - a.1)) < (w64 (a.2.1 - b.1)))) ((rec b.2.2 a.1 b.1 c.1).bind fun o=>(Qm o.length b.2.2.length).bind fun _=>some (.inl (w64 (b.1 + 1),a.2.1,c.1,decide ((w64 (b.1 - a.1)) ≥ (w64 (Int.tdiv (w64 (a.2.1 - a.1)) 8))),b.2.1,o))) ((rec b.2.2 (w64 (b.1 + 1)) a.2.1 c.1).bind fun p=>(Qm p.length b.2.2.length).bind fun _=>some (.inl (a.1,b.1,c.1,decide ((w64 (a.2.1 - b.1)) ≥ (w64 (Int.tdiv (w64 (a.2.1 - a.1)) 8))),b.2.1,p)))) | .inr x=>some (.inr x))))
noncomputable def q3r (rec : List Int→Int→Int→Int→Option (List Int)) (a : List Int) (b : Int) (c : Int) (d : Int) : Option (List Int):=
  (loop (q3q rec) (b,c,d,true,true,a)).bind fun f=>some f
noncomputable def q6j : Nat→List Int→Int→Int→Int→Option (List Int)
  | 0,_,_,_,_=>none
  | n + 1,a,b,c,d=>q3r (q6j n)  a b c d
noncomputable def Ja (a : List Int) : Option (List Int):=
  (U7 (IntKind.wrap .u64 (a.length : Int))).bind fun c=>(lim (fun n=>q6j n a 0 (a.length : Int) c)).bind fun b=>(Qm b.length a.length).bind fun _=>some b
noncomputable def q11 (a : Int × (Nat × Nat) × Int × List Int) : Option ((Int × (Nat × Nat) × Int × List Int) ⊕ (Int × List Int)):=
  cond (decide (a.2.2.1 < (a.2.1.2 : Int))) (((idxW a.2.2.2 a.2.1 a.2.2.1).bind fun c=>(idxW a.2.2.2 a.2.1 (w64 (a.2.2.1 - 1))).bind fun d=>cond (c != d) ((idxW a.2.2.2 a.2.1 a.2.2.1).bind fun f=>(idx a.2.2.2 a.1).bind fun _=>some (w64 (a.1 + 1),a.2.1,a.2.2.2.set a.1.toNat f)) (some (a.1,a.2.1,a.2.2.2))).bind fun b=>some (.inl (b.1,b.2.1,w64 (a.2.2.1 + 1),b.2.2))) (some (.inr (a.1,a.2.2.2)))
noncomputable def Zp (a : List Int) (b : Int) : Option ((Int) ⊕ ((Unit) ⊕ ((Nat × Nat) × List Int))):=
  cond (decide (b < (a.length : Int))) ((idx a b).bind fun d=>(idx a (w64 (b - 1))).bind fun f=>cond (d == f) ((sub2 a.length b a.length).bind fun g=>(loop q11 (b,g,1,a)).bind fun c=>(sub2 c.2.length c.1 c.2.length).bind fun h=>(sub2 c.2.length 0 c.1).bind fun j=>some (.inr (.inr (j,clrw c.2 h 0)))) (some (.inl (w64 (b + 1))))) (some (.inr (.inl ())))
noncomputable def U9 (a : List Int) : Option ((Nat × Nat) × List Int):=
  cond (decide ((a.length : Int) < 2)) (some ((0,a.length),a)) ((loop (Zp a) 1 : Option ((Unit) ⊕ ((Nat × Nat) × List Int))).bind fun b=>(match b with | .inl _=>some ((0,a.length),a) | .inr c=>some c))
structure qg where
  X0 : Int
  Y0 : Int
  X1 : Int
  Y1 : Int
  deriving DecidableEq
def qk (x : qg) : List DV:=[.int .i64 x.X0,.int .i64 x.Y0,.int .i64 x.X1,.int .i64 x.Y1]
noncomputable def q3j (b : List qg) (c : qg→Option Bool) (a : Int) : Option ((Int) ⊕ ((Unit) ⊕ (Int))):=
  cond (decide (a < (b.length : Int))) ((idx b a).bind fun d=>(c d).bind fun f=>cond f (some (.inr (.inr a))) (some (.inl (w64 (a + 1))))) (some (.inr (.inl ())))
noncomputable def qbm (a : List qg) (b : qg→Option Bool) : Option Int:=
  (loop (q3j a b) 0 : Option ((Unit) ⊕ (Int))).bind fun c=>(match c with | .inl _=>some (-1) | .inr d=>some d)
noncomputable def q8b (a : List qg) (b : qg→Option Bool) : Option Bool:=
  (qbm a b).bind fun c=>some (decide (c ≥ 0))
noncomputable def q24 (a : Int) : Option Bool:=
  (cond (decide (a ≥ (-1000000))) (some (decide (a≤1000000))) (some false)).bind fun b=>some b
noncomputable def q5m (a : qg) : Option Bool:=
  (cond (decide (a.X0 < a.X1)) (some (decide (a.Y0 < a.Y1))) (some false)).bind fun b=>(cond b ((q24 a.X0).bind fun c=>some c) (some false)).bind fun d=>(cond d ((q24 a.X1).bind fun f=>some f) (some false)).bind fun g=>(cond g ((q24 a.Y0).bind fun h=>some h) (some false)).bind fun j=>(cond j ((q24 a.Y1).bind fun k=>some k) (some false)).bind fun l=>some l
noncomputable def q23 (a : qg) : Option Bool:=
  (q5m a).bind fun b=>some (!b)
def Qz (x : List qg) : List DV:=[.sl 4 (x.map qk)]
structure qh where
  Lo : Int
  Hi : Int
  deriving DecidableEq
def qv (x : qh) : List DV:=[.int .i64 x.Lo,.int .i64 x.Hi]
noncomputable def q29 (b : List qh) (c : qh→Option Bool) (a : Int) : Option ((Int) ⊕ ((Unit) ⊕ (Int))):=
  cond (decide (a < (b.length : Int))) ((idx b a).bind fun d=>(c d).bind fun f=>cond f (some (.inr (.inr a))) (some (.inl (w64 (a + 1))))) (some (.inr (.inl ())))
noncomputable def q8g (a : List qh) (b : qh→Option Bool) : Option Int:=
  (loop (q29 a b) 0 : Option ((Unit) ⊕ (Int))).bind fun c=>(match c with | .inl _=>some (-1) | .inr d=>some d)
noncomputable def q8d (a : List qh) (b : qh→Option Bool) : Option Bool:=
  (q8g a b).bind fun c=>some (decide (c ≥ 0))
noncomputable def q2j (a : qh) : Option Bool:=
  (cond (decide (a.Lo < a.Hi)) (some (decide (a.Lo ≥ (-1000000)))) (some false)).bind fun b=>(cond b (some (decide (a.Hi≤1000000))) (some false)).bind fun c=>some c
noncomputable def qby (a : qh) : Option Bool:=
  (q2j a).bind fun b=>some (!b)
def Jv (x : List qh) : List DV:=[.sl 2 (x.map qv)]
structure qi where
  at_ : Int
  list_ : Int
  by_ : Int
  deriving DecidableEq
def Q3 (x : qi) : List DV:=[.int .i64 x.at_,.int .i64 x.list_,.int .i64 x.by_]
noncomputable def q9g (a : qi) (b : qi) : Option Int:=
  some (w64 (a.at_ - b.at_))
noncomputable def q8p (c : Int) (d : qi→qi→Option Int) (a : Int × List qi) : Option ((Int × List qi) ⊕ (List qi)):=
  (cond (decide (a.1 > c)) ((idx a.2 a.1).bind fun f=>(idx a.2 (w64 (a.1 - 1))).bind fun g=>(d f g).bind fun h=>some (decide (h < 0))) (some false)).bind fun j=>cond j ((idx a.2 (w64 (a.1 - 1))).bind fun b=>(idx a.2 a.1).bind fun k=>(idx a.2 a.1).bind fun _=>(idx (a.2.set a.1.toNat b) (w64 (a.1 - 1))).bind fun _=>some (.inl (w64 (a.1 - 1),(a.2.set a.1.toNat b).set (w64 (a.1 - 1)).toNat k))) (some (.inr a.2))
noncomputable def q8o (b : Int) (c : Int) (d : qi→qi→Option Int) (a : Int × List qi) : Option ((Int × List qi) ⊕ (List qi)):=
  cond (decide (a.1 < b)) (((loop (q8p c d) (a.1,a.2)).bind fun f=>some f).bind fun g=>some (.inl (w64 (a.1 + 1),g))) (some (.inr a.2))
noncomputable def q8n (b : qi→qi→Option Int) (c : List qi) (a : Int) (d : Int) : Option (List qi):=
  (loop (q8o d a b) (w64 (a + 1),c)).bind fun f=>some f
noncomputable def q97 (d : Int) (b : Int) (f : qi→qi→Option Int) (a : Int × List qi) : Option ((Int × List qi) ⊕ (List qi)):=
  cond (decide ((w64 ((w64 (2 * a.1)) + 1)) ≥ d)) (some (.inr a.2)) ((cond (decide ((w64 ((w64 ((w64 (2 * a.1)) + 1)) + 1)) < d)) ((idx a.2 (w64 (b + (w64 ((w64 (2 * a.1)) + 1))))).bind fun h=>(idx a.2 (w64 ((w64 (b + (w64 ((w64 (2 * a.1)) + 1)))) + 1))).bind fun j=>(f h j).bind fun k=>some (decide (k < 0))) (some false)).bind fun l=>(cond l (some (w64 ((w64 ((w64 (2 * a.1)) + 1)) + 1))) (some (w64 ((w64 (2 * a.1)) + 1)))).bind fun c=>(idx a.2 (w64 (b + a.1))).bind fun m=>(idx a.2 (w64 (b + c))).bind fun n=>(f m n).bind fun o=>cond (!(decide (o < 0))) (some (.inr a.2)) ((idx a.2 (w64 (b + c))).bind fun g=>(idx a.2 (w64 (b + a.1))).bind fun p=>(idx a.2 (w64 (b + a.1))).bind fun _=>(idx (a.2.set (w64 (b + a.1)).toNat g) (w64 (b + c))).bind fun _=>some (.inl (c,(a.2.set (w64 (b + a.1)).toNat g).set (w64 (b + c)).toNat p))))
noncomputable def q6l (a : qi→qi→Option Int) (b : List qi) (c : Int) (d : Int) (f : Int) : Option (List qi):=
  (loop (q97 d f a) (c,b)).bind fun g=>some g
noncomputable def q8l (d : qi→qi→Option Int) (f : Int) (b : Int) (a : Int × List qi) : Option ((Int × List qi) ⊕ (List qi)):=
  cond (decide (a.1 ≥ 0)) ((q6l d a.2 a.1 (w64 (f - b)) b).bind fun c=>(Qm c.length a.2.length).bind fun _=>some (.inl (w64 (a.1 - 1),c))) (some (.inr a.2))
noncomputable def q8m (b : Int) (g : qi→qi→Option Int) (a : Int × List qi) : Option ((Int × List qi) ⊕ (List qi)):=
  cond (decide (a.1 ≥ 0)) ((idx a.2 (w64 (b + a.1))).bind fun c=>(idx a.2 b).bind fun d=>(idx a.2 b).bind fun _=>(idx (a.2.set b.toNat c) (w64 (b + a.1))).bind fun _=>(q6l g ((a.2.set b.toNat c).set (w64 (b + a.1)).toNat d) 0 a.1 b).bind fun f=>(Qm f.length ((a.2.set b.toNat c).set (w64 (b + a.1)).toNat d).length).bind fun _=>some (.inl (w64 (a.1 - 1),f))) (some (.inr a.2))
noncomputable def q8k (c : qi→qi→Option Int) (d : List qi) (a : Int) (b : Int) : Option (List qi):=
  (loop (q8l c b a) (w64 (Int.tdiv (w64 ((w64 (b - a)) - 1)) 2),d)).bind fun f=>(loop (q8m a c) (w64 ((w64 (b - a)) - 1),f)).bind fun g=>some g
noncomputable def q3n (f : qi→qi→Option Int) (c : List qi) (a : Int) (b : Int) (d : Int) : Option (Int × Int × Int):=
  (idx c b).bind fun g=>(idx c a).bind fun h=>(f g h).bind fun j=>cond (decide (j < 0)) (some (b,a,w64 (d + 1))) (some (a,b,d))
noncomputable def q61 (a : qi→qi→Option Int) (b : List qi) (g : Int) (h : Int) (j : Int) (k : Int) : Option (Int × Int):=
  (q3n a b g h k).bind fun c=>(q3n a b c.2.1 j c.2.2).bind fun d=>(q3n a b c.1 d.1 d.2.2).bind fun f=>some (f.2.1,f.2.2)
noncomputable def q3l (c : qi→qi→Option Int) (d : List qi) (a : Int) (f : Int) : Option (Int × Int):=
  (q61 c d (w64 (a - 1)) a (w64 (a + 1)) f).bind fun b=>some (b.1,b.2)
noncomputable def q8j (d : List qi) (a : Int) (b : Int) (f : qi→qi→Option Int) : Option (Int × Int):=
  (cond (decide ((w64 (b - a)) ≥ 8)) ((cond (decide ((w64 (b - a)) ≥ 50)) ((q3l f d (w64 (a + (w64 ((w64 (Int.tdiv (w64 (b - a)) 4)) * 1)))) 0).bind fun h=>(q3l f d (w64 (a + (w64 ((w64 (Int.tdiv (w64 (b - a)) 4)) * 2)))) h.2).bind fun j=>(q3l f d (w64 (a + (w64 ((w64 (Int.tdiv (w64 (b - a)) 4)) * 3)))) j.2).bind fun k=>some (h.1,j.1,k.1,k.2)) (some (w64 (a + (w64 ((w64 (Int.tdiv (w64 (b - a)) 4)) * 1))),w64 (a + (w64 ((w64 (Int.tdiv (w64 (b - a)) 4)) * 2))),w64 (a + (w64 ((w64 (Int.tdiv (w64 (b - a)) 4)) * 3))),0))).bind fun g=>(q61 f d g.1 g.2.1 g.2.2.1 g.2.2.2).bind fun l=>some (l.1,l.2)) (some (w64 (a + (w64 ((w64 (Int.tdiv (w64 (b - a)) 4)) * 2))),0))).bind fun c=>cond (c.2 == 0) (some (c.1,1)) (cond (c.2 == 12) (some (c.1,2)) (some (c.1,0)))
noncomputable def q95 (a : Int × Int × List qi) : Option ((Int × Int × List qi) ⊕ (List qi)):=
  cond (decide (a.1 < a.2.1)) ((idx a.2.2 a.2.1).bind fun b=>(idx a.2.2 a.1).bind fun c=>(idx a.2.2 a.1).bind fun _=>(idx (a.2.2.set a.1.toNat b) a.2.1).bind fun _=>some (.inl (w64 (a.1 + 1),w64 (a.2.1 - 1),(a.2.2.set a.1.toNat b).set a.2.1.toNat c))) (some (.inr a.2.2))
noncomputable def q94 (_ : qi→qi→Option Int) (a : List qi) (b : Int) (c : Int) : Option (List qi):=
  (loop q95 (b,w64 (c - 1),a)).bind fun d=>some d
noncomputable def q8q (c : Int) (b : Int × Int × List qi) (d : qi→qi→Option Int) (a : Int) : Option ((Int) ⊕ (Int)):=
  (cond (decide (a < c)) ((idx b.2.2 a).bind fun f=>(idx b.2.2 (w64 (a - 1))).bind fun g=>(d f g).bind fun h=>some (!(decide (h < 0)))) (some false)).bind fun j=>cond j (some (.inl (w64 (a + 1)))) (some (.inr a))
noncomputable def q8r (c : qi→qi→Option Int) (a : Int × List qi) : Option ((Int × List qi) ⊕ (List qi)):=
  cond (decide (a.1 ≥ 1)) ((idx a.2 a.1).bind fun d=>(idx a.2 (w64 (a.1 - 1))).bind fun f=>(c d f).bind fun g=>cond (!(decide (g < 0))) (some (.inr a.2)) ((idx a.2 (w64 (a.1 - 1))).bind fun b=>(idx a.2 a.1).bind fun h=>(idx a.2 a.1).bind fun _=>(idx (a.2.set a.1.toNat b) (w64 (a.1 - 1))).bind fun _=>some (.inl (w64 (a.1 - 1),(a.2.set a.1.toNat b).set (w64 (a.1 - 1)).toNat h)))) (some (.inr a.2))
noncomputable def q8s (d : Int) (f : qi→qi→Option Int) (b : Int) (a : Int × List qi) : Option ((Int × List qi) ⊕ (Int × List qi)):=
  cond (decide (a.1 < d)) ((idx a.2 a.1).bind fun g=>(idx a.2 (w64 (a.1 - 1))).bind fun h=>(f g h).bind fun j=>cond (!(decide (j < 0))) (some (.inr (b,a.2))) ((idx a.2 (w64 (a.1 - 1))).bind fun c=>(idx a.2 a.1).bind fun k=>(idx a.2 a.1).bind fun _=>(idx (a.2.set a.1.toNat c) (w64 (a.1 - 1))).bind fun _=>some (.inl (w64 (a.1 + 1),(a.2.set a.1.toNat c).set (w64 (a.1 - 1)).toNat k)))) (some (.inr (b,a.2)))
noncomputable def q63 (c : Int) (d : qi→qi→Option Int) (h : Int) (b : Int × Int × List qi) : Option ((Int × Int × List qi) ⊕ ((List qi) ⊕ (Bool × List qi))):=
  cond (decide (b.2.1 < 5)) (((loop (q8q c b d) b.1).bind fun a=>cond (a == c) (some (.inr (true,b.2.2))) (cond (decide ((w64 (c - h)) < 50)) (some (.inr (false,b.2.2))) ((idx b.2.2 (w64 (a - 1))).bind fun f=>(idx b.2.2 a).bind fun j=>(idx b.2.2 a).bind fun _=>(idx (b.2.2.set a.toNat f) (w64 (a - 1))).bind fun _=>(cond (decide ((w64 (a - h)) ≥ 2)) ((loop (q8r d) (w64 (a - 1),(b.2.2.set a.toNat f).set (w64 (a - 1)).toNat j)).bind fun g=>some g) (some ((b.2.2.set a.toNat f).set (w64 (a - 1)).toNat j))).bind fun k=>cond (decide ((w64 (c - a)) ≥ 2)) ((loop (q8s c d a) (w64 (a + 1),k)).bind fun g=>some (.inl g)) (some (.inl (a,k))))) : Option ((Int × List qi) ⊕ (Bool × List qi))).bind fun m=>(match m with | .inl l=>some (.inl (l.1,w64 (b.2.1 + 1),l.2)) | .inr n=>some (.inr (.inr n)))) (some (.inr (.inl b.2.2)))
noncomputable def q62 (b : qi→qi→Option Int) (c : List qi) (a : Int) (d : Int) : Option (Bool × List qi):=
  (loop (q63 d b a) (w64 (a + 1),0,c) : Option ((List qi) ⊕ (Bool × List qi))).bind fun f=>(match f with | .inl g=>some (false,g) | .inr h=>some h)
noncomputable def q92 (b : Int × Int × List qi) (c : Int) (d : qi→qi→Option Int) (a : Int) : Option ((Int) ⊕ (Int)):=
  (cond (decide (a≤b.2.1)) ((idx b.2.2 c).bind fun f=>(idx b.2.2 a).bind fun g=>(d f g).bind fun h=>some (!(decide (h < 0)))) (some false)).bind fun j=>cond j (some (.inl (w64 (a + 1)))) (some (.inr a))
noncomputable def q93 (c : Int) (b : Int × Int × List qi) (d : Int) (f : qi→qi→Option Int) (a : Int) : Option ((Int) ⊕ (Int)):=
  (cond (decide (c≤a)) ((idx b.2.2 d).bind fun g=>(idx b.2.2 a).bind fun h=>(f g h).bind fun j=>some (decide (j < 0))) (some false)).bind fun k=>cond k (some (.inl (w64 (a - 1)))) (some (.inr a))
noncomputable def q91 (d : Int) (f : qi→qi→Option Int) (a : Int × Int × List qi) : Option ((Int × Int × List qi) ⊕ (Int × List qi)):=
  (loop (q92 a d f) a.1).bind fun b=>(loop (q93 b a d f) a.2.1).bind fun c=>cond (decide (b > c)) (some (.inr (b,a.2.2))) ((idx a.2.2 c).bind fun g=>(idx a.2.2 b).bind fun h=>(idx a.2.2 b).bind fun _=>(idx (a.2.2.set b.toNat g) c).bind fun _=>some (.inl (w64 (b + 1),w64 (c - 1),(a.2.2.set b.toNat g).set c.toNat h)))
noncomputable def q90 (g : qi→qi→Option Int) (b : List qi) (a : Int) (h : Int) (c : Int) : Option (Int × List qi):=
  (idx b c).bind fun d=>(idx b a).bind fun j=>(idx b a).bind fun _=>(idx (b.set a.toNat d) c).bind fun _=>(loop (q91 a g) (w64 (a + 1),w64 (h - 1),(b.set a.toNat d).set c.toNat j)).bind fun f=>some (f.1,f.2)
noncomputable def q8v (h : Int) (c : List qi) (b : Int) (d : qi) (f : Int) (g : qi) (j : qi→qi→Option Int) (a : Int) : Option ((Int) ⊕ (Int)):=
  (cond (decide (a≤(w64 (h - 1)))) ((idx ((c.set b.toNat d).set f.toNat g) a).bind fun k=>(idx ((c.set b.toNat d).set f.toNat g) b).bind fun l=>(j k l).bind fun m=>some (decide (m < 0))) (some false)).bind fun n=>cond n (some (.inl (w64 (a + 1)))) (some (.inr a))
noncomputable def q8w (h : Int) (c : List qi) (b : Int) (d : qi) (f : Int) (g : qi) (j : qi→qi→Option Int) (a : Int) : Option ((Int) ⊕ (Int)):=
  (cond (decide (h≤a)) ((idx ((c.set b.toNat d).set f.toNat g) a).bind fun k=>(idx ((c.set b.toNat d).set f.toNat g) b).bind fun l=>(j k l).bind fun m=>some (!(decide (m < 0)))) (some false)).bind fun n=>cond n (some (.inl (w64 (a - 1)))) (some (.inr a))
noncomputable def q8y (b : Int × Int × List qi) (c : Int) (d : qi→qi→Option Int) (a : Int) : Option ((Int) ⊕ (Int)):=
  (cond (decide (a≤b.2.1)) ((idx b.2.2 a).bind fun f=>(idx b.2.2 c).bind fun g=>(d f g).bind fun h=>some (decide (h < 0))) (some false)).bind fun j=>cond j (some (.inl (w64 (a + 1)))) (some (.inr a))
noncomputable def q8z (c : Int) (b : Int × Int × List qi) (d : Int) (f : qi→qi→Option Int) (a : Int) : Option ((Int) ⊕ (Int)):=
  (cond (decide (c≤a)) ((idx b.2.2 a).bind fun g=>(idx b.2.2 d).bind fun h=>(f g h).bind fun j=>some (!(decide (j < 0)))) (some false)).bind fun k=>cond k (some (.inl (w64 (a - 1)))) (some (.inr a))
noncomputable def q8x (d : Int) (f : qi→qi→Option Int) (a : Int × Int × List qi) : Option ((Int × Int × List qi) ⊕ (Int × List qi)):=
  (loop (q8y a d f) a.1).bind fun b=>(loop (q8z b a d f) a.2.1).bind fun c=>cond (decide (b > c)) (some (.inr (c,a.2.2))) ((idx a.2.2 c).bind fun g=>(idx a.2.2 b).bind fun h=>(idx a.2.2 b).bind fun _=>(idx (a.2.2.set b.toNat g) c).bind fun _=>some (.inl (w64 (b + 1),w64 (c - 1),(a.2.2.set b.toNat g).set c.toNat h)))
noncomputable def q8u (k : qi→qi→Option Int) (b : List qi) (a : Int) (l : Int) (c : Int) : Option (Int × Bool × List qi):=
  (idx b c).bind fun d=>(idx b a).bind fun f=>(idx b a).bind fun _=>(idx (b.set a.toNat d) c).bind fun _=>(loop (q8v l b a d c f k) (w64 (a + 1))).bind fun j=>(loop (q8w j b a d c f k) (w64 (l - 1))).bind fun g=>cond (decide (j > g)) ((idx ((b.set a.toNat d).set c.toNat f) a).bind fun m=>(idx ((b.set a.toNat d).set c.toNat f) g).bind fun p=>(idx ((b.set a.toNat d).set c.toNat f) g).bind fun _=>(idx (((b.set a.toNat d).set c.toNat f).set g.toNat m) a).bind fun _=>some (g,true,(((b.set a.toNat d).set c.toNat f).set g.toNat m).set a.toNat p)) ((idx ((b.set a.toNat d).set c.toNat f) g).bind fun n=>(idx ((b.set a.toNat d).set c.toNat f) j).bind fun q=>(idx ((b.set a.toNat d).set c.toNat f) j).bind fun _=>(idx (((b.set a.toNat d).set c.toNat f).set j.toNat n) g).bind fun _=>(loop (q8x a k) (w64 (j + 1),w64 (g - 1),(((b.set a.toNat d).set c.toNat f).set j.toNat n).set g.toNat q)).bind fun h=>(idx h.2 a).bind fun o=>(idx h.2 h.1).bind fun r=>(idx h.2 h.1).bind fun _=>(idx (h.2.set h.1.toNat o) a).bind fun _=>some (h.1,false,(h.2.set h.1.toNat o).set a.toNat r))
noncomputable def q8i (b : Int) (d : Int) (f : Int) (a : Int × List qi × Int) : Option ((Int × List qi × Int) ⊕ (List qi)):=
  cond (decide (a.1≤(w64 ((w64 (b + (w64 ((w64 (Int.tdiv (w64 (d - b)) 4)) * 2)))) + 1)))) ((q13 a.2.2).bind fun c=>(cond (decide ((w64 (andI .u64 c (IntKind.wrap .u64 (f - 1)))) ≥ (w64 (d - b)))) (some (w64 ((w64 (andI .u64 c (IntKind.wrap .u64 (f - 1)))) - (w64 (d - b))))) (some (w64 (andI .u64 c (IntKind.wrap .u64 (f - 1)))))).bind fun g=>(idx a.2.1 (w64 (b + g))).bind fun h=>(idx a.2.1 a.1).bind fun j=>(idx a.2.1 a.1).bind fun _=>(idx (a.2.1.set a.1.toNat h) (w64 (b + g))).bind fun _=>some (.inl (w64 (a.1 + 1),(a.2.1.set a.1.toNat h).set (w64 (b + g)).toNat j,c))) (some (.inr a.2.1))
noncomputable def q8h (_ : qi→qi→Option Int) (c : List qi) (a : Int) (b : Int) : Option (List qi):=
  cond (decide ((w64 (b - a)) ≥ 8)) ((q12 (w64 (b - a))).bind fun d=>(loop (q8i a b d) (w64 ((w64 (a + (w64 ((w64 (Int.tdiv (w64 (b - a)) 4)) * 2)))) - 1),c,IntKind.wrap .u64 (w64 (b - a)))).bind fun f=>some f) (some c)
noncomputable def q6h (c : qi→qi→Option Int) (rec : List qi→Int→Int→Int→Option (List qi)) (a : Int × Int × Int × Bool × Bool × List qi) : Option ((Int × Int × Int × Bool × Bool × List qi) ⊕ (List qi)):=
  cond (decide ((w64 (a.2.1 - a.1))≤12)) ((q8n c a.2.2.2.2.2 a.1 a.2.1).bind fun l=>(Qm l.length a.2.2.2.2.2.length).bind fun _=>some (.inr l)) (cond (a.2.2.1 == 0) ((q8k c a.2.2.2.2.2 a.1 a.2.1).bind fun m=>(Qm m.length a.2.2.2.2.2.length).bind fun _=>some (.inr m)) ((cond (!a.2.2.2.1) ((q8h c a.2.2.2.2.2 a.1 a.2.1).bind fun n=>(Qm n.length a.2.2.2.2.2.length).bind fun _=>some (w64 (a.2.2.1 - 1),n)) (some (a.2.2.1,a.2.2.2.2.2))).bind fun d=>(q8j d.2 a.1 a.2.1 c).bind fun h=>(cond (h.2 == 2) ((q94 c d.2 a.1 a.2.1).bind fun o=>(Qm o.length d.2.length).bind fun _=>some (w64 ((w64 (a.2.1 - 1)) - (w64 (h.1 - a.1))),1,o)) (some (h.1,h.2,d.2))).bind fun f=>(cond a.2.2.2.1 (some a.2.2.2.2.1) (some false)).bind fun r=>(cond r (some (f.2.1 == 1)) (some false)).bind fun s=>(cond s ((q62 c f.2.2 a.1 a.2.1).bind fun j=>(Qm j.2.length f.2.2.length).bind fun _=>cond j.1 (some (.inr j.2)) (some (.inl j.2))) (some (.inl f.2.2)) : Option ((List qi) ⊕ (List qi))).bind fun t=>(match t with | .inl g=>(cond (decide (a.1 > 0)) ((idx g (w64 (a.1 - 1))).bind fun u=>(idx g f.1).bind fun v=>(c u v).bind fun w=>some (!(decide (w < 0)))) (some false)).bind fun x=>cond x ((q90 c g a.1 a.2.1 f.1).bind fun k=>(Qm k.2.length g.length).bind fun _=>some (.inl (k.1,a.2.1,d.1,a.2.2.2.1,a.2.2.2.2.1,k.2))) ((q8u c g a.1 a.2.1 f.1).bind fun b=>(Qm b.2.2.length g.length).bind fun _=>cond (decide ((w64 (b.1 - a.1)) < (w64 (a.2.1 - b.1)))) ((rec b.2.2 a.1 b.1 d.1).bind fun p=>(Qm p.length b.2.2.length).bind fun _=>some (.inl (w64 (b.1 + 1),a.2.1,d.1,decide ((w64 (b.1 - a.1)) ≥ (w64 (Int.tdiv (w64 (a.2.1 - a.1)) 8))),b.2.1,p))) ((rec b.2.2 (w64 (b.1 + 1)) a.2.1 d.1).bind fun q=>(Qm q.length b.2.2.length).bind fun _=>some (.inl (a.1,b.1,d.1,decide ((w64 (a.2.1 - b.1)) ≥ (w64 (Int.tdiv (w64 (a.2.1 - a.1)) 8))),b.2.1,q)))) | .inr y=>some (.inr y))))
noncomputable def q6i (rec : List qi→Int→Int→Int→Option (List qi)) (a : qi→qi→Option Int) (b : List qi) (c : Int) (d : Int) (f : Int) : Option (List qi):=
  (loop (q6h a rec) (c,d,f,true,true,b)).bind fun g=>some g
noncomputable def q6g : Nat→(qi→qi→Option Int)→List qi→Int→Int→Int→Option (List qi)
  | 0,_,_,_,_,_=>none
  | n + 1,a,b,c,d,f=>q6i (q6g n a) a b c d f
noncomputable def q5r (c : qi→qi→Option Int) (a : List qi) : Option (List qi):=
  (U7 (IntKind.wrap .u64 (a.length : Int))).bind fun d=>(lim (fun n=>q6g n c a 0 (a.length : Int) d)).bind fun b=>(Qm b.length a.length).bind fun _=>some b
noncomputable def qbp (a : List qi) : Option (List qi):=
  some a
noncomputable def q42 (b : List qh) (c : Int × List qi) (a : Int × List qi) : Option ((Int × List qi) ⊕ (List qi)):=
  cond (decide (a.1 < (b.length : Int))) ((idx b a.1).bind fun d=>(app 24 a.2 [({at_:=d.Lo,list_:=c.1,by_:=1} : qi),({at_:=d.Hi,list_:=c.1,by_:=(-1)} : qi)]).bind fun f=>some (.inl (w64 (a.1 + 1),f))) (some (.inr a.2))
noncomputable def Ub (b : List (List qh)) (a : Int × List qi) : Option ((Int × List qi) ⊕ (List qi)):=
  cond (decide (a.1 < (b.length : Int))) (((idx b a.1).bind fun c=>(loop (q42 c a) (0,a.2)).bind fun d=>some d).bind fun f=>some (.inl (w64 (a.1 + 1),f))) (some (.inr a.2))
noncomputable def q9h (b : List (List qh)) : Option (List (List qh) × List qi):=
  (loop (Ub b) (0,[])).bind fun c=>(q5r (fun f g=>q9g f g) c).bind fun a=>(Qm a.length c.length).bind fun _=>(qbp a).bind fun d=>(Qm d.length a.length).bind fun _=>some (b,d)
noncomputable def q9i (d : Int) (c : Bool) (b : Int) (a : List qh) : Option (Bool × Int × List qh):=
  (cond (!c) (some true) (some (b == d))).bind fun f=>cond f (some (c,b,a)) ((cond (decide ((a.length : Int) > 0)) ((idx a (w64 ((a.length : Int) - 1))).bind fun g=>some (g.Hi == b)) (some false)).bind fun h=>cond h ((idx a (w64 ((a.length : Int) - 1))).bind fun j=>some (c,b,a.set (w64 ((a.length : Int) - 1)).toNat ({Lo:=j.Lo,Hi:=d} : qh))) ((app 16 a [({Lo:=b,Hi:=d} : qh)]).bind fun k=>some (c,b,k)))
noncomputable def q43 (f : List (List qh) × List qi) (g : Bool→Bool→Option Bool) (a : Int × List Int × Int × Bool × List qh) : Option ((Int × List Int × Int × Bool × List qh) ⊕ (List qh)):=
  cond (decide (a.1 < (f.2.length : Int))) ((idx f.2 a.1).bind fun b=>((q9i b.at_ a.2.2.2.1 a.2.2.1 a.2.2.2.2).bind fun h=>(idxA 2 a.2.1 b.list_).bind fun c=>(idxA 2 a.2.1 b.list_).bind fun _=>(idxA 2 (a.2.1.set b.list_.toNat (w64 (c + b.by_))) 0).bind fun j=>(idxA 2 (a.2.1.set b.list_.toNat (w64 (c + b.by_))) 1).bind fun k=>(g (decide (j > 0)) (decide (k > 0))).bind fun l=>some (a.2.1.set b.list_.toNat (w64 (c + b.by_)),l,h.2.2)).bind fun d=>some (.inl (w64 (a.1 + 1),d.1,b.at_,d.2.1,d.2.2))) (some (.inr a.2.2.2.2))
noncomputable def q2i (a : List qh) (b : List qh) (d : Bool→Bool→Option Bool) : Option (List qh):=
  (q9h [a,b]).bind fun c=>(Qm c.1.length [a,b].length).bind fun _=>((loop (q43 c d) (0,[0,0],0,false,[])).bind fun f=>some f).bind fun g=>some g
noncomputable def q9f (a : Bool) (_ : Bool) : Option Bool:=
  some a
noncomputable def q6x (a : List qh) : Option (List qh × Int):=
  cond (decide ((a.length : Int) > 400)) (some ([],4)) ((q8d a (fun b=>qby b)).bind fun c=>cond c (some ([],8)) ((q2i a [] (fun b d=>q9f b d)).bind fun f=>some (f,0)))
noncomputable def qbk (b : List qh) (f : List qh) (a : Int) : Option ((Int) ⊕ ((Unit) ⊕ (Bool))):=
  cond (decide (a < (b.length : Int))) ((idx b a).bind fun c=>(idx f a).bind fun d=>cond (!((c.Lo == d.Lo) && ((c.Hi == d.Hi) && true))) (some (.inr (.inr false))) (some (.inl (w64 (a + 1))))) (some (.inr (.inl ())))
noncomputable def q8e (a : List qh) (b : List qh) : Option Bool:=
  cond ((a.length : Int) != (b.length : Int)) (some false) ((loop (qbk a b) 0 : Option ((Unit) ⊕ (Bool))).bind fun c=>(match c with | .inl _=>some true | .inr d=>some d))
noncomputable def q5j (c : Int) (a : Int × List qg) : Option ((Int × List qg) ⊕ (List qg)):=
  cond (decide (a.1 < (a.2.length : Int))) ((idx a.2 a.1).bind fun b=>some (.inl (w64 (a.1 + 1),a.2.set a.1.toNat ({X0:=b.X0,Y0:=b.Y0,X1:=c,Y1:=b.Y1} : qg)))) (some (.inr a.2))
noncomputable def q5k (b : List qh) (f : Int) (c : Int) (g : List qg) (a : Int × List qg) : Option ((Int × List qg) ⊕ (List qh × Int × Int × List qg)):=
  cond (decide (a.1 < (b.length : Int))) ((idx b a.1).bind fun d=>(app 32 a.2 [({X0:=f,Y0:=d.Lo,X1:=c,Y1:=d.Hi} : qg)]).bind fun h=>some (.inl (w64 (a.1 + 1),h))) (some (.inr (b,(g.length : Int),c,a.2)))
noncomputable def q5i (a : List qg) (d : List qh) (f : Int) (h : Int) (g : Int) (b : Int) (c : List qh) : Option (List qh × Int × Int × List qg):=
  (cond (decide ((c.length : Int) > 0)) (some (h == g)) (some false)).bind fun j=>(cond j ((q8e d c).bind fun k=>some k) (some false)).bind fun l=>cond l ((loop (q5j b) (f,a)).bind fun m=>some (d,f,b,m)) ((loop (q5k c g b a) (0,a)).bind fun n=>some n)
noncomputable def Z7 (b : List qg) (a : Int × List Int) : Option ((Int × List Int) ⊕ (List Int)):=
  cond (decide (a.1 < (b.length : Int))) ((idx b a.1).bind fun c=>(app 8 a.2 [c.X0,c.X1]).bind fun d=>some (.inl (w64 (a.1 + 1),d))) (some (.inr a.2))
noncomputable def Jr (c : List qg) (d : Int) (a : Int × List qh) : Option ((Int × List qh) ⊕ (List qh)):=
  cond (decide (a.1 < (c.length : Int))) (((idx c a.1).bind fun b=>(cond (decide (b.X0≤d)) (some (decide (d < b.X1))) (some false)).bind fun f=>cond f ((app 16 a.2 [({Lo:=b.Y0,Hi:=b.Y1} : qh)]).bind fun g=>some g) (some a.2)).bind fun h=>some (.inl (w64 (a.1 + 1),h))) (some (.inr a.2))
noncomputable def q25 (d : List Int) (g : List qg) (a : Int × List qh × Int × Int × List qg) : Option ((Int × List qh × Int × Int × List qg) ⊕ (List qh × Int × Int × List qg)):=
  cond (decide (a.1 < (d.length : Int))) ((idx d (w64 (a.1 - 1))).bind fun f=>(idx d a.1).bind fun h=>((idx [g] 0).bind fun j=>(loop (Jr j f) (0,[])).bind fun k=>some k).bind fun l=>((q6x l).bind fun m=>(q5i a.2.2.2.2 a.2.1 a.2.2.1 a.2.2.2.1 f h m.1).bind fun b=>some (b.1,b.2.1,b.2.2.1,b.2.2.2)).bind fun c=>some (.inl (w64 (a.1 + 1),c.1,c.2.1,c.2.2.1,c.2.2.2))) (some (.inr (a.2.1,a.2.2.1,a.2.2.2.1,a.2.2.2.2)))
noncomputable def q5l (d : List qg) : Option (List qg × Int):=
  (((idx [d] 0).bind fun j=>(loop (Z7 j) (0,[])).bind fun b=>some b).bind fun f=>(Ja f).bind fun c=>(Qm c.length f.length).bind fun _=>(U9 c).bind fun a=>(Qm a.2.length c.length).bind fun _=>(Ud a.2.length a.1).bind fun _=>some ((a.2.drop a.1.1).take a.1.2)).bind fun k=>((loop (q25 k d) (1,[],0,0,[])).bind fun b=>some b).bind fun g=>(cond (decide ((g.2.2.2.length : Int) > 400)) (some (4,[])) (some (0,g.2.2.2))).bind fun h=>some (h.2,h.1)
noncomputable def Uy (a : List qg) : Option (List qg × Int):=
  cond (decide ((a.length : Int) > 400)) (some ([],4)) ((q8b a (fun c=>q23 c)).bind fun d=>cond d (some ([],8)) ((q5l a).bind fun b=>some (b.1,b.2)))
noncomputable def qbi (d : List qg) (f : List qg) (a : Int) : Option ((Int) ⊕ ((Unit) ⊕ (Bool))):=
  cond (decide (a < (d.length : Int))) ((idx d a).bind fun b=>(idx f a).bind fun c=>cond (!((b.X0 == c.X0) && ((b.Y0 == c.Y0) && ((b.X1 == c.X1) && ((b.Y1 == c.Y1) && true))))) (some (.inr (.inr false))) (some (.inl (w64 (a + 1))))) (some (.inr (.inl ())))
noncomputable def q5q (a : List qg) (b : List qg) : Option Bool:=
  cond ((a.length : Int) != (b.length : Int)) (some false) ((loop (qbi a b) 0 : Option ((Unit) ⊕ (Bool))).bind fun c=>(match c with | .inl _=>some true | .inr d=>some d))
noncomputable def q6r (c : Int) (a : Int × List qf) : Option ((Int × List qf) ⊕ (List qf)):=
  cond (decide (a.1 < (a.2.length : Int))) ((idx a.2 a.1).bind fun b=>some (.inl (w64 (a.1 + 1),a.2.set a.1.toNat ({Lo:=b.Lo,Hi:=({X:=b.Hi.X,Y:=b.Hi.Y,Z:=c} : qy)} : qf)))) (some (.inr a.2))
noncomputable def q6s (c : List qg) (f : Int) (d : Int) (g : List qf) (a : Int × List qf) : Option ((Int × List qf) ⊕ (List qg × Int × Int × List qf)):=
  cond (decide (a.1 < (c.length : Int))) ((idx c a.1).bind fun b=>(app 48 a.2 [({Lo:=({X:=b.X0,Y:=b.Y0,Z:=f} : qy),Hi:=({X:=b.X1,Y:=b.Y1,Z:=d} : qy)} : qf)]).bind fun h=>some (.inl (w64 (a.1 + 1),h))) (some (.inr (c,(g.length : Int),d,a.2)))
noncomputable def q6q (a : List qf) (d : List qg) (f : Int) (h : Int) (g : Int) (b : Int) (c : List qg) : Option (List qg × Int × Int × List qf):=
  (cond (decide ((c.length : Int) > 0)) (some (h == g)) (some false)).bind fun j=>(cond j ((q5q d c).bind fun k=>some k) (some false)).bind fun l=>cond l ((loop (q6r b) (f,a)).bind fun m=>some (d,f,b,m)) ((loop (q6s c g b a) (0,a)).bind fun n=>some n)
noncomputable def q15 (b : List qf) (a : Int × List Int) : Option ((Int × List Int) ⊕ (List Int)):=
  cond (decide (a.1 < (b.length : Int))) ((idx b a.1).bind fun c=>(app 8 a.2 [c.Lo.Z,c.Hi.Z]).bind fun d=>some (.inl (w64 (a.1 + 1),d))) (some (.inr a.2))
noncomputable def q16 (c : List qf) (d : Int) (a : Int × List qg) : Option ((Int × List qg) ⊕ (List qg)):=
  cond (decide (a.1 < (c.length : Int))) (((idx c a.1).bind fun b=>(cond (decide (b.Lo.Z≤d)) (some (decide (d < b.Hi.Z))) (some false)).bind fun f=>cond f ((app 32 a.2 [({X0:=b.Lo.X,Y0:=b.Lo.Y,X1:=b.Hi.X,Y1:=b.Hi.Y} : qg)]).bind fun g=>some g) (some a.2)).bind fun h=>some (.inl (w64 (a.1 + 1),h))) (some (.inr a.2))
noncomputable def q40 (d : List Int) (h : List qf) (a : Int × List qg × Int × Int × List qf) : Option ((Int × List qg × Int × Int × List qf) ⊕ ((List qg × Int × Int × List qf) ⊕ (List qf × Int))):=
  cond (decide (a.1 < (d.length : Int))) ((idx d (w64 (a.1 - 1))).bind fun g=>(idx d a.1).bind fun j=>((idx [h] 0).bind fun k=>(loop (q16 k g) (0,[])).bind fun l=>some l).bind fun m=>((Uy m).bind fun f=>cond (f.2 != 0) (some (.inr ([],f.2))) ((q6q a.2.2.2.2 a.2.1 a.2.2.1 a.2.2.2.1 g j f.1).bind fun b=>some (.inl (b.1,b.2.1,b.2.2.1,b.2.2.2))) : Option ((List qg × Int × Int × List qf) ⊕ (List qf × Int))).bind fun n=>(match n with | .inl c=>some (.inl (w64 (a.1 + 1),c.1,c.2.1,c.2.2.1,c.2.2.2)) | .inr o=>some (.inr (.inr o)))) (some (.inr (.inl (a.2.1,a.2.2.1,a.2.2.2.1,a.2.2.2.2))))
noncomputable def q6w (f : List qf) : Option (List qf × Int):=
  (((idx [f] 0).bind fun j=>(loop (q15 j) (0,[])).bind fun b=>some b).bind fun g=>(Ja g).bind fun c=>(Qm c.length g.length).bind fun _=>(U9 c).bind fun a=>(Qm a.2.length c.length).bind fun _=>(Ud a.2.length a.1).bind fun _=>some ((a.2.drop a.1.1).take a.1.2)).bind fun k=>((loop (q40 k f) (1,[],0,0,[]) : Option ((List qg × Int × Int × List qf) ⊕ (List qf × Int))).bind fun l=>(match l with | .inl b=>some (.inl b) | .inr d=>some (.inr d)) : Option ((List qg × Int × Int × List qf) ⊕ (List qf × Int))).bind fun m=>(match m with | .inl h=>cond (decide ((h.2.2.2.length : Int) > 400)) (some ([],4)) (some (h.2.2.2,0)) | .inr d=>some d)
noncomputable def q6o (a : List qf) : Option (List qf × Int):=
  cond (decide ((a.length : Int) > 400)) (some ([],4)) ((q8a a (fun c=>q2e c)).bind fun d=>cond d (some ([],8)) ((q6w a).bind fun b=>some (b.1,b.2)))
noncomputable def q58 (a : qy) (b : Int) : Option Bool:=
  (cond (decide (a.X ≥ b)) (some (decide (a.Y ≥ b))) (some false)).bind fun c=>(cond c (some (decide (a.Z ≥ b))) (some false)).bind fun d=>(cond d (some (decide (a.X≤1000000))) (some false)).bind fun f=>(cond f (some (decide (a.Y≤1000000))) (some false)).bind fun g=>(cond g (some (decide (a.Z≤1000000))) (some false)).bind fun h=>some h
noncomputable def q82 (a : qf) : Option Bool:=
  (q58 a.Lo (-1000000)).bind fun b=>(cond b ((q58 a.Hi (-1000000)).bind fun c=>some c) (some false)).bind fun d=>(cond d (some (decide (a.Lo.X < a.Hi.X))) (some false)).bind fun f=>(cond f (some (decide (a.Lo.Y < a.Hi.Y))) (some false)).bind fun g=>(cond g (some (decide (a.Lo.Z < a.Hi.Z))) (some false)).bind fun h=>some h
noncomputable def q31 (b : Int × List Int) (c : List Int) (a : Int) : Option ((Int) ⊕ (Int)):=
  (cond (decide (a > 0)) ((idx b.2 (w64 (a - 1))).bind fun d=>(idx c b.1).bind fun f=>some (decide (d > f))) (some false)).bind fun g=>cond g (some (.inl (w64 (a - 1)))) (some (.inr a))
noncomputable def q30 (d : List Int) (a : Int × List Int) : Option ((Int × List Int) ⊕ (List Int)):=
  cond (decide (a.1 < (d.length : Int))) (((loop (q31 a d) (a.2.length : Int)).bind fun c=>(cond (decide (c > 0)) ((idx a.2 (w64 (c - 1))).bind fun h=>(idx d a.1).bind fun j=>some (h == j)) (some false)).bind fun k=>cond k (some a.2) ((app 8 a.2 [0]).bind fun b=>(sub2 b.length (w64 (c + 1)) b.length).bind fun g=>(sub2 b.length c b.length).bind fun f=>(idx d a.1).bind fun l=>(idx (cpyw b g ((b.drop f.1).take f.2)) c).bind fun _=>some ((cpyw b g ((b.drop f.1).take f.2)).set c.toNat l))).bind fun m=>some (.inl (w64 (a.1 + 1),m))) (some (.inr a.2))
noncomputable def J8 (a : List Int) : Option (List Int):=
  (loop (q30 a) (0,[])).bind fun b=>some b
noncomputable def q3a (b : List qf) (a : Int × List Int) : Option ((Int × List Int) ⊕ (List Int)):=
  cond (decide (a.1 < (b.length : Int))) ((idx b a.1).bind fun c=>(idx b a.1).bind fun d=>(app 8 a.2 [c.Lo.Z,d.Hi.Z]).bind fun f=>some (.inl (w64 (a.1 + 1),f))) (some (.inr a.2))
noncomputable def q3b (b : List qf) (a : Int × List Int) : Option ((Int × List Int) ⊕ (List Int)):=
  cond (decide (a.1 < (b.length : Int))) ((idx b a.1).bind fun c=>(idx b a.1).bind fun d=>(app 8 a.2 [c.Lo.Z,d.Hi.Z]).bind fun f=>some (.inl (w64 (a.1 + 1),f))) (some (.inr a.2))
noncomputable def q81 (a : List qf) (b : List qf) : Option (List Int):=
  (loop (q3a a) (0,[])).bind fun c=>(loop (q3b b) (0,c)).bind fun d=>(J8 d).bind fun f=>some f
noncomputable def q59 (b : List qf) (c : Int) (a : Int × List qg) : Option ((Int × List qg) ⊕ (List qg)):=
  cond (decide (a.1 < (b.length : Int))) (((idx b a.1).bind fun d=>(cond (decide (d.Lo.Z≤c)) ((idx b a.1).bind fun f=>some (decide (c < f.Hi.Z))) (some false)).bind fun g=>cond g ((idx b a.1).bind fun h=>(idx b a.1).bind fun j=>(idx b a.1).bind fun k=>(idx b a.1).bind fun l=>(app 32 a.2 [({X0:=h.Lo.X,Y0:=j.Lo.Y,X1:=k.Hi.X,Y1:=l.Hi.Y} : qg)]).bind fun m=>some m) (some a.2)).bind fun n=>some (.inl (w64 (a.1 + 1),n))) (some (.inr a.2))
noncomputable def J9 (a : List qf) (b : Int) : Option (List qg):=
  (loop (q59 a b) (0,[])).bind fun c=>some c
noncomputable def q34 (b : List qg) (a : Int × List Int) : Option ((Int × List Int) ⊕ (List Int)):=
  cond (decide (a.1 < (b.length : Int))) ((idx b a.1).bind fun c=>(idx b a.1).bind fun d=>(app 8 a.2 [c.X0,d.X1]).bind fun f=>some (.inl (w64 (a.1 + 1),f))) (some (.inr a.2))
noncomputable def q35 (b : List qg) (a : Int × List Int) : Option ((Int × List Int) ⊕ (List Int)):=
  cond (decide (a.1 < (b.length : Int))) ((idx b a.1).bind fun c=>(idx b a.1).bind fun d=>(app 8 a.2 [c.X0,d.X1]).bind fun f=>some (.inl (w64 (a.1 + 1),f))) (some (.inr a.2))
noncomputable def q7z (a : List qg) (b : List qg) : Option (List Int):=
  (loop (q34 a) (0,[])).bind fun c=>(loop (q35 b) (0,c)).bind fun d=>(J8 d).bind fun f=>some f
noncomputable def q36 (b : List qg) (a : Int × List Int) : Option ((Int × List Int) ⊕ (List Int)):=
  cond (decide (a.1 < (b.length : Int))) ((idx b a.1).bind fun c=>(idx b a.1).bind fun d=>(app 8 a.2 [c.Y0,d.Y1]).bind fun f=>some (.inl (w64 (a.1 + 1),f))) (some (.inr a.2))
noncomputable def q37 (b : List qg) (a : Int × List Int) : Option ((Int × List Int) ⊕ (List Int)):=
  cond (decide (a.1 < (b.length : Int))) ((idx b a.1).bind fun c=>(idx b a.1).bind fun d=>(app 8 a.2 [c.Y0,d.Y1]).bind fun f=>some (.inl (w64 (a.1 + 1),f))) (some (.inr a.2))
noncomputable def q80 (a : List qg) (b : List qg) : Option (List Int):=
  (loop (q36 a) (0,[])).bind fun c=>(loop (q37 b) (0,c)).bind fun d=>(J8 d).bind fun f=>some f
noncomputable def q1z (b : List qg) (c : Int) (d : Int) (a : Int) : Option ((Int) ⊕ ((Unit) ⊕ (Bool))):=
  cond (decide (a < (b.length : Int))) ((idx b a).bind fun f=>(cond (decide (f.X0≤c)) ((idx b a).bind fun g=>some (decide (c < g.X1))) (some false)).bind fun h=>(cond h ((idx b a).bind fun j=>some (decide (j.Y0≤d))) (some false)).bind fun k=>(cond k ((idx b a).bind fun l=>some (decide (d < l.Y1))) (some false)).bind fun m=>cond m (some (.inr (.inr true))) (some (.inl (w64 (a + 1))))) (some (.inr (.inl ())))
noncomputable def q54 (a : List qg) (b : Int) (c : Int) : Option Bool:=
  (loop (q1z a b c) 0 : Option ((Unit) ⊕ (Bool))).bind fun d=>(match d with | .inl _=>some false | .inr f=>some f)
noncomputable def q52 (c : Int) (a : Bool) (b : Bool) : Option Bool:=
  cond (c == 1) ((cond a (some b) (some false)).bind fun d=>some d) (cond (c == 2) ((cond a (some true) (some b)).bind fun f=>some f) ((cond a (some (!b)) (some false)).bind fun g=>some g))
noncomputable def q2z (b : List Int) (c : List Bool) (a : Int × List qh) : Option ((Int × List qh) ⊕ (List qh)):=
  cond (decide ((w64 (a.1 + 1)) < (b.length : Int))) (((idx c a.1).bind fun d=>cond (!d) (some a.2) ((cond (decide ((a.2.length : Int) > 0)) ((idx a.2 (w64 ((a.2.length : Int) - 1))).bind fun f=>(idx b a.1).bind fun g=>some (f.Hi == g)) (some false)).bind fun h=>cond h ((idx b (w64 (a.1 + 1))).bind fun j=>(idx a.2 (w64 ((a.2.length : Int) - 1))).bind fun k=>some (a.2.set (w64 ((a.2.length : Int) - 1)).toNat ({Lo:=k.Lo,Hi:=j} : qh))) ((idx b a.1).bind fun l=>(idx b (w64 (a.1 + 1))).bind fun m=>(app 16 a.2 [({Lo:=l,Hi:=m} : qh)]).bind fun n=>some n))).bind fun o=>some (.inl (w64 (a.1 + 1),o))) (some (.inr a.2))
noncomputable def q2y (a : List Int) (b : List Bool) : Option (List qh):=
  (loop (q2z a b) (0,[])).bind fun c=>some c
noncomputable def qb4 (b : List qh) (f : List qh) (a : Int) : Option ((Int) ⊕ ((Unit) ⊕ (Bool))):=
  cond (decide (a < (b.length : Int))) ((idx b a).bind fun c=>(idx f a).bind fun d=>cond (!((c.Lo == d.Lo) && ((c.Hi == d.Hi) && true))) (some (.inr (.inr false))) (some (.inl (w64 (a + 1))))) (some (.inr (.inl ())))
noncomputable def q53 (a : List qh) (b : List qh) : Option Bool:=
  cond ((a.length : Int) != (b.length : Int)) (some false) ((loop (qb4 a b) 0 : Option ((Unit) ⊕ (Bool))).bind fun c=>(match c with | .inl _=>some true | .inr d=>some d))
noncomputable def q32 (b : List Int) (c : List Int) (d : List qh × Int × Int × List qg) (f : List qg) (g : List qg) (h : Int) (a : Int × List Bool) : Option ((Int × List Bool) ⊕ (List Bool)):=
  cond (decide (a.1 < (b.length : Int))) ((idx c d.2.2.1).bind fun j=>(idx b a.1).bind fun k=>(q54 f j k).bind fun l=>(idx c d.2.2.1).bind fun m=>(idx b a.1).bind fun n=>(q54 g m n).bind fun o=>(q52 h l o).bind fun p=>(app 1 a.2 [p]).bind fun q=>some (.inl (w64 (a.1 + 1),q))) (some (.inr a.2))
noncomputable def q33 (c : List Int) (d : List qh × Int × Int × List qg) (a : Int × List qg) : Option ((Int × List qg) ⊕ (List qg)):=
  cond (decide (a.1 < (a.2.length : Int))) ((idx c (w64 (d.2.2.1 + 1))).bind fun f=>(idx a.2 a.1).bind fun b=>some (.inl (w64 (a.1 + 1),a.2.set a.1.toNat ({X0:=b.X0,Y0:=b.Y0,X1:=f,Y1:=b.Y1} : qg)))) (some (.inr a.2))
noncomputable def q55 (b : List qh) (d : List Int) (c : List qh × Int × Int × List qg) (a : Int × List qg) : Option ((Int × List qg) ⊕ (List qh × Int × List qg)):=
  cond (decide (a.1 < (b.length : Int))) ((idx d c.2.2.1).bind fun f=>(idx b a.1).bind fun g=>(idx d (w64 (c.2.2.1 + 1))).bind fun h=>(idx b a.1).bind fun j=>(app 32 a.2 [({X0:=f,Y0:=g.Lo,X1:=h,Y1:=j.Hi} : qg)]).bind fun k=>some (.inl (w64 (a.1 + 1),k))) (some (.inr (b,(c.2.2.2.length : Int),a.2)))
noncomputable def q20 (b : List Int) (d : List Int) (g : List qg) (h : List qg) (j : Int) (a : List qh × Int × Int × List qg) : Option ((List qh × Int × Int × List qg) ⊕ (List qg)):=
  cond (decide ((w64 (a.2.2.1 + 1)) < (b.length : Int))) (((loop (q32 d b a g h j) (0,[])).bind fun k=>(q2y d k).bind fun f=>(cond (decide (a.2.2.1 > 0)) ((q53 f a.1).bind fun l=>some l) (some false)).bind fun m=>cond m ((loop (q33 b a) (a.2.1,a.2.2.2)).bind fun n=>some (a.1,a.2.1,n)) ((loop (q55 f b a) (0,a.2.2.2)).bind fun o=>some o)).bind fun c=>some (.inl (c.1,c.2.1,w64 (a.2.2.1 + 1),c.2.2))) (some (.inr a.2.2.2))
noncomputable def Zn (c : Int) (a : List qg) (b : List qg) : Option (List qg):=
  (q7z a b).bind fun d=>(q80 a b).bind fun f=>(loop (q20 d f a b c) ([],0,0,[])).bind fun g=>some g
noncomputable def qb5 (d : List qg) (f : List qg) (a : Int) : Option ((Int) ⊕ ((Unit) ⊕ (Bool))):=
  cond (decide (a < (d.length : Int))) ((idx d a).bind fun b=>(idx f a).bind fun c=>cond (!((b.X0 == c.X0) && ((b.Y0 == c.Y0) && ((b.X1 == c.X1) && ((b.Y1 == c.Y1) && true))))) (some (.inr (.inr false))) (some (.inl (w64 (a + 1))))) (some (.inr (.inl ())))
noncomputable def q57 (a : List qg) (b : List qg) : Option Bool:=
  cond ((a.length : Int) != (b.length : Int)) (some false) ((loop (qb5 a b) 0 : Option ((Unit) ⊕ (Bool))).bind fun c=>(match c with | .inl _=>some true | .inr d=>some d))
noncomputable def q3d (c : List Int) (d : List qg × Int × Int × List qf) (a : Int × List qf) : Option ((Int × List qf) ⊕ (List qf)):=
  cond (decide (a.1 < (a.2.length : Int))) ((idx c (w64 (d.2.2.1 + 1))).bind fun f=>(idx a.2 a.1).bind fun b=>some (.inl (w64 (a.1 + 1),a.2.set a.1.toNat ({Lo:=b.Lo,Hi:=({X:=b.Hi.X,Y:=b.Hi.Y,Z:=f} : qy)} : qf)))) (some (.inr a.2))
noncomputable def q5c (b : List qg) (d : List Int) (c : List qg × Int × Int × List qf) (a : Int × List qf) : Option ((Int × List qf) ⊕ (List qg × Int × List qf)):=
  cond (decide (a.1 < (b.length : Int))) ((idx b a.1).bind fun f=>(idx b a.1).bind fun g=>(idx d c.2.2.1).bind fun h=>(idx b a.1).bind fun j=>(idx b a.1).bind fun k=>(idx d (w64 (c.2.2.1 + 1))).bind fun l=>(app 48 a.2 [({Lo:=({X:=f.X0,Y:=g.Y0,Z:=h} : qy),Hi:=({X:=j.X1,Y:=k.Y1,Z:=l} : qy)} : qf)]).bind fun m=>some (.inl (w64 (a.1 + 1),m))) (some (.inr (b,(c.2.2.2.length : Int),a.2)))
noncomputable def Ux (b : List Int) (f : List qf) (g : List qf) (h : Int) (a : List qg × Int × Int × List qf) : Option ((List qg × Int × Int × List qf) ⊕ ((List qf) ⊕ (List qf × Bool))):=
  cond (decide ((w64 (a.2.2.1 + 1)) < (b.length : Int))) (((idx b a.2.2.1).bind fun j=>(J9 f j).bind fun k=>(idx b a.2.2.1).bind fun l=>(J9 g l).bind fun m=>(Zn h k m).bind fun c=>(cond (decide ((c.length : Int) > 400)) (some true) ((idx b a.2.2.1).bind fun n=>(J9 f n).bind fun o=>(Zn 2 o []).bind fun p=>some (decide ((p.length : Int) > 400)))).bind fun q=>(cond q (some true) ((idx b a.2.2.1).bind fun r=>(J9 g r).bind fun s=>(Zn 2 s []).bind fun t=>some (decide ((t.length : Int) > 400)))).bind fun u=>cond u (some (.inr ([],false))) ((cond (decide (a.2.2.1 > 0)) ((q57 c a.1).bind fun v=>some v) (some false)).bind fun w=>cond w ((loop (q3d b a) (a.2.1,a.2.2.2)).bind fun x=>some (.inl (a.1,a.2.1,x))) ((loop (q5c c b a) (0,a.2.2.2)).bind fun y=>some (.inl y))) : Option ((List qg × Int × List qf) ⊕ (List qf × Bool))).bind fun z=>(match z with | .inl d=>some (.inl (d.1,d.2.1,w64 (a.2.2.1 + 1),d.2.2)) | .inr x1=>some (.inr (.inr x1)))) (some (.inr (.inl a.2.2.2)))
noncomputable def q21 (d : Int) (a : List qf) (b : List qf) : Option (List qf × Bool):=
  (q81 a b).bind fun f=>(loop (Ux f a b d) ([],0,0,[]) : Option ((List qf) ⊕ (List qf × Bool))).bind fun g=>(match g with | .inl c=>some (c,decide ((c.length : Int)≤400)) | .inr h=>some h)
noncomputable def Ua (b : List qf) (c : qf→Option Bool) (a : Int) : Option ((Int) ⊕ ((Unit) ⊕ (Int))):=
  cond (decide (a < (b.length : Int))) ((idx b a).bind fun d=>(c d).bind fun f=>cond f (some (.inr (.inr a))) (some (.inl (w64 (a + 1))))) (some (.inr (.inl ())))
noncomputable def q8f (a : List qf) (b : qf→Option Bool) : Option Int:=
  (loop (Ua a b) 0 : Option ((Unit) ⊕ (Int))).bind fun c=>(match c with | .inl _=>some (-1) | .inr d=>some d)
noncomputable def q3h (a : List qf) (b : qf→Option Bool) : Option Bool:=
  (q8f a b).bind fun c=>some (decide (c ≥ 0))
noncomputable def q2c (a : qf) : Option Bool:=
  (q6v a).bind fun b=>some (!b)
noncomputable def qex (d : List qf) (f : List qf) (c : Int) : Option ((Int) ⊕ ((Unit) ⊕ (Bool))):=
  cond (decide (c < (d.length : Int))) ((idx d c).bind fun a=>(idx f c).bind fun b=>cond (!((a.Lo.X == b.Lo.X) && ((a.Lo.Y == b.Lo.Y) && ((a.Lo.Z == b.Lo.Z) && ((a.Hi.X == b.Hi.X) && ((a.Hi.Y == b.Hi.Y) && ((a.Hi.Z == b.Hi.Z) && true))))))) (some (.inr (.inr false))) (some (.inl (w64 (c + 1))))) (some (.inr (.inl ())))
noncomputable def qbj (a : List qf) (b : List qf) : Option Bool:=
  cond ((a.length : Int) != (b.length : Int)) (some false) ((loop (qex a b) 0 : Option ((Unit) ⊕ (Bool))).bind fun c=>(match c with | .inl _=>some true | .inr d=>some d))
noncomputable def Jb (a : List qf) : Option Int:=
  cond (decide ((a.length : Int) > 400)) (some 4) ((q3h a (fun c=>q2c c)).bind fun d=>cond d (some 8) ((q6w a).bind fun b=>(cond (b.2 != 0) (some true) ((qbj b.1 a).bind fun f=>some (!f))).bind fun g=>cond g (some 8) (some 0)))
noncomputable def q6u (a : qf) : Option (Int × Int × Int):=
  some (w64 (a.Hi.X - a.Lo.X),w64 (a.Hi.Y - a.Lo.Y),w64 (a.Hi.Z - a.Lo.Z))
noncomputable def q6p (c : List qf) (a : Int × Int) : Option ((Int × Int) ⊕ (Int)):=
  cond (decide (a.2 < (c.length : Int))) ((idx c a.2).bind fun d=>(q6u d).bind fun b=>some (.inl (w64 (a.1 + (w64 ((w64 (b.1 * b.2.1)) * b.2.2))),w64 (a.2 + 1)))) (some (.inr a.1))
noncomputable def q14 (a : List qf) : Option (Int × Int):=
  (Jb a).bind fun b=>cond (b != 0) (some (0,b)) ((loop (q6p a) (0,0)).bind fun c=>some (c,0))
noncomputable def qb8 (d : List qf) (f : List qf) (c : Int) : Option ((Int) ⊕ ((Unit) ⊕ (Bool))):=
  cond (decide (c < (d.length : Int))) ((idx d c).bind fun a=>(idx f c).bind fun b=>cond (!((a.Lo.X == b.Lo.X) && ((a.Lo.Y == b.Lo.Y) && ((a.Lo.Z == b.Lo.Z) && ((a.Hi.X == b.Hi.X) && ((a.Hi.Y == b.Hi.Y) && ((a.Hi.Z == b.Hi.Z) && true))))))) (some (.inr (.inr false))) (some (.inl (w64 (c + 1))))) (some (.inr (.inl ())))
noncomputable def U8 (a : List qf) (b : List qf) : Option Bool:=
  cond ((a.length : Int) != (b.length : Int)) (some false) ((loop (qb8 a b) 0 : Option ((Unit) ⊕ (Bool))).bind fun c=>(match c with | .inl _=>some true | .inr d=>some d))
noncomputable def q5a (b : List qf) (a : Int) : Option ((Int) ⊕ ((Unit) ⊕ (Int))):=
  cond (decide (a < (b.length : Int))) ((idx b a).bind fun c=>(q82 c).bind fun d=>cond (!d) (some (.inr (.inr 8))) (some (.inl (w64 (a + 1))))) (some (.inr (.inl ())))
noncomputable def q39 (a : List qf) : Option Int:=
  cond (decide ((a.length : Int) > 400)) (some 4) ((loop (q5a a) 0 : Option ((Unit) ⊕ (Int))).bind fun c=>(match c with | .inl _=>(q21 2 a []).bind fun b=>(cond (!b.2) (some true) ((U8 b.1 a).bind fun d=>some (!d))).bind fun f=>cond f (some 8) (some 0) | .inr g=>some g))
noncomputable def q6n (a : qf) (b : qy) : Option Bool:=
  (cond (decide (a.Lo.X≤b.X)) (some (decide (b.X < a.Hi.X))) (some false)).bind fun c=>(cond c (some (decide (a.Lo.Y≤b.Y))) (some false)).bind fun d=>(cond d (some (decide (b.Y < a.Hi.Y))) (some false)).bind fun f=>(cond f (some (decide (a.Lo.Z≤b.Z))) (some false)).bind fun g=>(cond g (some (decide (b.Z < a.Hi.Z))) (some false)).bind fun h=>some h
noncomputable def Jc (a : List qf) (b : qy) : Option Bool:=
  (q3h a (fun c=>q6n c b)).bind fun d=>some d
noncomputable def qk5 (a : qf) (b : qy) : Option Bool:=
  (cond (decide (a.Lo.X≤b.X)) (some (decide (b.X < a.Hi.X))) (some false)).bind fun c=>(cond c (some (decide (a.Lo.Y≤b.Y))) (some false)).bind fun d=>(cond d (some (decide (b.Y < a.Hi.Y))) (some false)).bind fun f=>(cond f (some (decide (a.Lo.Z≤b.Z))) (some false)).bind fun g=>(cond g (some (decide (b.Z < a.Hi.Z))) (some false)).bind fun h=>some h
noncomputable def qbu (b : List qf) (a : Int × List Int) : Option ((Int × List Int) ⊕ (List Int)):=
  cond (decide (a.1 < (b.length : Int))) ((idx b a.1).bind fun c=>(app 8 a.2 [c.Lo.Z,c.Hi.Z]).bind fun d=>some (.inl (w64 (a.1 + 1),d))) (some (.inr a.2))
noncomputable def qbv (b : List qf) (a : Int × List Int) : Option ((Int × List Int) ⊕ (List Int)):=
  cond (decide (a.1 < (b.length : Int))) ((idx b a.1).bind fun c=>(app 8 a.2 [c.Lo.Z,c.Hi.Z]).bind fun d=>some (.inl (w64 (a.1 + 1),d))) (some (.inr a.2))
noncomputable def qbw (c : List qf) (d : Int) (a : Int × List qg) : Option ((Int × List qg) ⊕ (List qg)):=
  cond (decide (a.1 < (c.length : Int))) (((idx c a.1).bind fun b=>(cond (decide (b.Lo.Z≤d)) (some (decide (d < b.Hi.Z))) (some false)).bind fun f=>cond f ((app 32 a.2 [({X0:=b.Lo.X,Y0:=b.Lo.Y,X1:=b.Hi.X,Y1:=b.Hi.Y} : qg)]).bind fun g=>some g) (some a.2)).bind fun h=>some (.inl (w64 (a.1 + 1),h))) (some (.inr a.2))
noncomputable def qbx (c : List qf) (d : Int) (a : Int × List qg) : Option ((Int × List qg) ⊕ (List qg)):=
  cond (decide (a.1 < (c.length : Int))) (((idx c a.1).bind fun b=>(cond (decide (b.Lo.Z≤d)) (some (decide (d < b.Hi.Z))) (some false)).bind fun f=>cond f ((app 32 a.2 [({X0:=b.Lo.X,Y0:=b.Lo.Y,X1:=b.Hi.X,Y1:=b.Hi.Y} : qg)]).bind fun g=>some g) (some a.2)).bind fun h=>some (.inl (w64 (a.1 + 1),h))) (some (.inr a.2))
noncomputable def q3z (f : List Int) (l : List qf) (m : List qf) (o : List qg→List qg→Option (List qg × Int)) (a : Int × List qg × Int × Int × List qf) : Option ((Int × List qg × Int × Int × List qf) ⊕ ((List qg × Int × Int × List qf) ⊕ (List qf × Int))):=
  cond (decide (a.1 < (f.length : Int))) ((idx f (w64 (a.1 - 1))).bind fun g=>(idx f a.1).bind fun p=>((idx [l,m] 0).bind fun q=>(loop (qbw q g) (0,[])).bind fun h=>some h).bind fun r=>((idx [l,m] 1).bind fun s=>(loop (qbx s g) (0,[])).bind fun h=>some h).bind fun t=>((Uy r).bind fun b=>(cond (b.2 == 0) ((Uy t).bind fun j=>cond (j.2 == 0) ((o b.1 j.1).bind fun n=>some (n.1,n.2)) (some (b.1,j.2))) (some (b.1,b.2))).bind fun k=>cond (k.2 != 0) (some (.inr ([],k.2))) ((q6q a.2.2.2.2 a.2.1 a.2.2.1 a.2.2.2.1 g p k.1).bind fun c=>some (.inl (c.1,c.2.1,c.2.2.1,c.2.2.2))) : Option ((List qg × Int × Int × List qf) ⊕ (List qf × Int))).bind fun u=>(match u with | .inl d=>some (.inl (w64 (a.1 + 1),d.1,d.2.1,d.2.2.1,d.2.2.2)) | .inr v=>some (.inr (.inr v)))) (some (.inr (.inl (a.2.1,a.2.2.1,a.2.2.2.1,a.2.2.2.2))))
noncomputable def q9d (k : List qg→List qg→Option (List qg × Int)) (c : List qf) (d : List qf) : Option (List qf × Int):=
  (((idx [c,d] 0).bind fun l=>(loop (qbu l) (0,[])).bind fun b=>some b).bind fun m=>((idx [c,d] 1).bind fun n=>(loop (qbv n) (0,m)).bind fun b=>some b).bind fun h=>(Ja h).bind fun f=>(Qm f.length h.length).bind fun _=>(U9 f).bind fun a=>(Qm a.2.length f.length).bind fun _=>(Ud a.2.length a.1).bind fun _=>some ((a.2.drop a.1.1).take a.1.2)).bind fun o=>((loop (q3z o c d k) (1,[],0,0,[]) : Option ((List qg × Int × Int × List qf) ⊕ (List qf × Int))).bind fun p=>(match p with | .inl b=>some (.inl b) | .inr g=>some (.inr g)) : Option ((List qg × Int × Int × List qf) ⊕ (List qf × Int))).bind fun q=>(match q with | .inl j=>cond (decide ((j.2.2.2.length : Int) > 400)) (some ([],4)) (some (j.2.2.2,0)) | .inr g=>some g)
noncomputable def q3y (a : List qf) (b : List qf) (g : List qg→List qg→Option (List qg × Int)) : Option (List qf × Int):=
  (Jb a).bind fun c=>cond (c != 0) (some ([],c)) ((Jb b).bind fun d=>cond (d != 0) (some ([],d)) ((q9d g a b).bind fun f=>some (f.1,f.2)))
noncomputable def q3k (b : List qg) (c : qg→Option Bool) (a : Int) : Option ((Int) ⊕ ((Unit) ⊕ (Int))):=
  cond (decide (a < (b.length : Int))) ((idx b a).bind fun d=>(c d).bind fun f=>cond f (some (.inr (.inr a))) (some (.inl (w64 (a + 1))))) (some (.inr (.inl ())))
noncomputable def qbn (a : List qg) (b : qg→Option Bool) : Option Int:=
  (loop (q3k a b) 0 : Option ((Unit) ⊕ (Int))).bind fun c=>(match c with | .inl _=>some (-1) | .inr d=>some d)
noncomputable def q8c (a : List qg) (b : qg→Option Bool) : Option Bool:=
  (qbn a b).bind fun c=>some (decide (c ≥ 0))
noncomputable def q22 (a : qg) : Option Bool:=
  (q5m a).bind fun b=>some (!b)
noncomputable def q5e (a : List qg) : Option Int:=
  cond (decide ((a.length : Int) > 400)) (some 4) ((q8c a (fun c=>q22 c)).bind fun d=>cond d (some 8) ((q5l a).bind fun b=>(cond (b.2 != 0) (some true) ((q5q b.1 a).bind fun f=>some (!f))).bind fun g=>cond g (some 8) (some 0)))
noncomputable def q83 (b : List qg) (c : List qg) : Option Int:=
  (q5e b).bind fun a=>cond (a != 0) (some a) ((q5e c).bind fun d=>some d)
noncomputable def qba (b : List qg) (a : Int × List Int) : Option ((Int × List Int) ⊕ (List Int)):=
  cond (decide (a.1 < (b.length : Int))) ((idx b a.1).bind fun c=>(app 8 a.2 [c.X0,c.X1]).bind fun d=>some (.inl (w64 (a.1 + 1),d))) (some (.inr a.2))
noncomputable def qbb (b : List qg) (a : Int × List Int) : Option ((Int × List Int) ⊕ (List Int)):=
  cond (decide (a.1 < (b.length : Int))) ((idx b a.1).bind fun c=>(app 8 a.2 [c.X0,c.X1]).bind fun d=>some (.inl (w64 (a.1 + 1),d))) (some (.inr a.2))
noncomputable def qbc (c : List qg) (d : Int) (a : Int × List qh) : Option ((Int × List qh) ⊕ (List qh)):=
  cond (decide (a.1 < (c.length : Int))) (((idx c a.1).bind fun b=>(cond (decide (b.X0≤d)) (some (decide (d < b.X1))) (some false)).bind fun f=>cond f ((app 16 a.2 [({Lo:=b.Y0,Hi:=b.Y1} : qh)]).bind fun g=>some g) (some a.2)).bind fun h=>some (.inl (w64 (a.1 + 1),h))) (some (.inr a.2))
noncomputable def qbd (c : List qg) (d : Int) (a : Int × List qh) : Option ((Int × List qh) ⊕ (List qh)):=
  cond (decide (a.1 < (c.length : Int))) (((idx c a.1).bind fun b=>(cond (decide (b.X0≤d)) (some (decide (d < b.X1))) (some false)).bind fun f=>cond f ((app 16 a.2 [({Lo:=b.Y0,Hi:=b.Y1} : qh)]).bind fun g=>some g) (some a.2)).bind fun h=>some (.inl (w64 (a.1 + 1),h))) (some (.inr a.2))
noncomputable def q3g (d : List Int) (j : List qg) (k : List qg) (l : List qh→List qh→Option (List qh × Int)) (a : Int × List qh × Int × Int × List qg) : Option ((Int × List qh × Int × Int × List qg) ⊕ ((List qh × Int × Int × List qg) ⊕ (List qg × Int))):=
  cond (decide (a.1 < (d.length : Int))) ((idx d (w64 (a.1 - 1))).bind fun f=>(idx d a.1).bind fun m=>((idx [j,k] 0).bind fun n=>(loop (qbc n f) (0,[])).bind fun g=>some g).bind fun o=>((idx [j,k] 1).bind fun p=>(loop (qbd p f) (0,[])).bind fun g=>some g).bind fun q=>((l o q).bind fun h=>cond (h.2 != 0) (some (.inr ([],h.2))) ((q5i a.2.2.2.2 a.2.1 a.2.2.1 a.2.2.2.1 f m h.1).bind fun b=>some (.inl (b.1,b.2.1,b.2.2.1,b.2.2.2))) : Option ((List qh × Int × Int × List qg) ⊕ (List qg × Int))).bind fun r=>(match r with | .inl c=>some (.inl (w64 (a.1 + 1),c.1,c.2.1,c.2.2.1,c.2.2.2)) | .inr s=>some (.inr (.inr s)))) (some (.inr (.inl (a.2.1,a.2.2.1,a.2.2.2.1,a.2.2.2.2))))
noncomputable def q3f (c : List qg) (d : List qg) (m : List qh→List qh→Option (List qh × Int)) : Option (List qg × Int):=
  (q83 c d).bind fun h=>cond (h != 0) (some ([],h)) ((((idx [c,d] 0).bind fun n=>(loop (qba n) (0,[])).bind fun b=>some b).bind fun o=>((idx [c,d] 1).bind fun p=>(loop (qbb p) (0,o)).bind fun b=>some b).bind fun j=>(Ja j).bind fun f=>(Qm f.length j.length).bind fun _=>(U9 f).bind fun a=>(Qm a.2.length f.length).bind fun _=>(Ud a.2.length a.1).bind fun _=>some ((a.2.drop a.1.1).take a.1.2)).bind fun q=>((loop (q3g q c d m) (1,[],0,0,[]) : Option ((List qh × Int × Int × List qg) ⊕ (List qg × Int))).bind fun r=>(match r with | .inl b=>some (.inl b) | .inr g=>some (.inr g)) : Option ((List qh × Int × Int × List qg) ⊕ (List qg × Int))).bind fun s=>(match s with | .inl k=>(cond (decide ((k.2.2.2.length : Int) > 400)) (some (4,[])) (some (0,k.2.2.2))).bind fun l=>some (l.2,l.1) | .inr g=>some g))
noncomputable def q17 (b : List qh) (a : Int) : Option ((Int) ⊕ ((Unit) ⊕ (Int))):=
  cond (decide (a < (b.length : Int))) ((idx b a).bind fun c=>(q2j c).bind fun d=>(cond (!d) (some true) ((cond (decide (a > 0)) ((idx b (w64 (a - 1))).bind fun f=>some (decide (f.Hi ≥ c.Lo))) (some false)).bind fun g=>some g)).bind fun h=>cond h (some (.inr (.inr 8))) (some (.inl (w64 (a + 1))))) (some (.inr (.inl ())))
noncomputable def q2h (a : List qh) : Option Int:=
  cond (decide ((a.length : Int) > 400)) (some 4) ((loop (q17 a) 0 : Option ((Unit) ⊕ (Int))).bind fun b=>(match b with | .inl _=>some 0 | .inr c=>some c))
noncomputable def q41 (a : List qh) (b : List qh) (g : Bool→Bool→Option Bool) : Option (List qh × Int):=
  (q2h a).bind fun c=>cond (c != 0) (some ([],c)) ((q2h b).bind fun d=>cond (d != 0) (some ([],d)) ((q2i a b g).bind fun f=>cond (decide ((f.length : Int) > 400)) (some ([],4)) (some (f,0))))
noncomputable def qc1 (a : Bool) (b : Bool) : Option Bool:=
  (cond a (some true) (some b)).bind fun c=>some c
noncomputable def q70 (b : List qh) (c : List qh) : Option (List qh × Int):=
  (q41 b c (fun d f=>qc1 d f)).bind fun a=>some (a.1,a.2)
noncomputable def q5h (b : List qg) (c : List qg) : Option (List qg × Int):=
  (q3f b c (fun d f=>q70 d f)).bind fun a=>some (a.1,a.2)
noncomputable def q2g (b : List qf) (c : List qf) : Option (List qf × Int):=
  (q3y b c (fun d f=>q5h d f)).bind fun a=>some (a.1,a.2)
noncomputable def q38 (a : List qf) (b : List qf) : Option Int:=
  (q39 a).bind fun c=>cond (c != 0) ((q39 a).bind fun d=>some d) ((q39 b).bind fun f=>some f)
noncomputable def q3c (d : Int) (a : List qf) (b : List qf) : Option (List qf × Int):=
  (q38 a b).bind fun f=>cond (f != 0) ((q38 a b).bind fun g=>some ([],g)) ((q21 d a b).bind fun c=>cond (!c.2) (some ([],4)) (some (c.1,0)))
noncomputable def qbz (a : Bool) (b : Bool) : Option Bool:=
  (cond a (some b) (some false)).bind fun c=>some c
noncomputable def q6y (b : List qh) (c : List qh) : Option (List qh × Int):=
  (q41 b c (fun d f=>qbz d f)).bind fun a=>some (a.1,a.2)
noncomputable def q5f (b : List qg) (c : List qg) : Option (List qg × Int):=
  (q3f b c (fun d f=>q6y d f)).bind fun a=>some (a.1,a.2)
noncomputable def q2f (b : List qf) (c : List qf) : Option (List qf × Int):=
  (q3y b c (fun d f=>q5f d f)).bind fun a=>some (a.1,a.2)
noncomputable def qc0 (a : Bool) (b : Bool) : Option Bool:=
  (cond a (some (!b)) (some false)).bind fun c=>some c
noncomputable def q6z (b : List qh) (c : List qh) : Option (List qh × Int):=
  (q41 b c (fun d f=>qc0 d f)).bind fun a=>some (a.1,a.2)
noncomputable def q5g (b : List qg) (c : List qg) : Option (List qg × Int):=
  (q3f b c (fun d f=>q6z d f)).bind fun a=>some (a.1,a.2)
noncomputable def q3u (b : List qf) (c : List qf) : Option (List qf × Int):=
  (q3y b c (fun d f=>q5g d f)).bind fun a=>some (a.1,a.2)
noncomputable def qal (a : List qf) (b : List qf) : Option Bool:=
  (q5b a).bind fun k=>(cond k (some true) ((q5b b).bind fun l=>some l)).bind fun m=>cond m (some true) ((q2g a b).bind fun c=>(q3c 2 a b).bind fun d=>(q2f a b).bind fun f=>(q3c 1 a b).bind fun g=>(q3u a b).bind fun h=>(q3c 3 a b).bind fun j=>(U8 c.1 d.1).bind fun n=>(cond n (some (c.2 == d.2)) (some false)).bind fun o=>(cond o ((U8 f.1 g.1).bind fun p=>some p) (some false)).bind fun q=>(cond q (some (f.2 == g.2)) (some false)).bind fun r=>(cond r ((U8 h.1 j.1).bind fun s=>some s) (some false)).bind fun t=>(cond t (some (h.2 == j.2)) (some false)).bind fun u=>some u)
structure Y5 where
  Turn : Int
  At : qy
  deriving DecidableEq
noncomputable def q9c (a : qf) (b : qf) : Option Int:=
  (cond ((w64 ((min a.Hi.X b.Hi.X) - (max a.Lo.X b.Lo.X))) == 0) (some (decide ((w64 ((min a.Hi.Y b.Hi.Y) - (max a.Lo.Y b.Lo.Y))) > 0))) (some false)).bind fun c=>(cond c (some (decide ((w64 ((min a.Hi.Z b.Hi.Z) - (max a.Lo.Z b.Lo.Z))) > 0))) (some false)).bind fun d=>cond d (some (w64 ((w64 ((min a.Hi.Y b.Hi.Y) - (max a.Lo.Y b.Lo.Y))) * (w64 ((min a.Hi.Z b.Hi.Z) - (max a.Lo.Z b.Lo.Z)))))) ((cond (decide ((w64 ((min a.Hi.X b.Hi.X) - (max a.Lo.X b.Lo.X))) > 0)) (some ((w64 ((min a.Hi.Y b.Hi.Y) - (max a.Lo.Y b.Lo.Y))) == 0)) (some false)).bind fun f=>(cond f (some (decide ((w64 ((min a.Hi.Z b.Hi.Z) - (max a.Lo.Z b.Lo.Z))) > 0))) (some false)).bind fun g=>cond g (some (w64 ((w64 ((min a.Hi.X b.Hi.X) - (max a.Lo.X b.Lo.X))) * (w64 ((min a.Hi.Z b.Hi.Z) - (max a.Lo.Z b.Lo.Z)))))) ((cond (decide ((w64 ((min a.Hi.X b.Hi.X) - (max a.Lo.X b.Lo.X))) > 0)) (some (decide ((w64 ((min a.Hi.Y b.Hi.Y) - (max a.Lo.Y b.Lo.Y))) > 0))) (some false)).bind fun h=>(cond h (some ((w64 ((min a.Hi.Z b.Hi.Z) - (max a.Lo.Z b.Lo.Z))) == 0)) (some false)).bind fun j=>cond j (some (w64 ((w64 ((min a.Hi.X b.Hi.X) - (max a.Lo.X b.Lo.X))) * (w64 ((min a.Hi.Y b.Hi.Y) - (max a.Lo.Y b.Lo.Y)))))) (some 0)))
noncomputable def q3x (b : List qf) (c : qf) (a : Int × Int) : Option ((Int × Int) ⊕ (Int)):=
  cond (decide (a.2 < (b.length : Int))) ((idx b a.2).bind fun d=>(q9c c d).bind fun f=>some (.inl (w64 (a.1 - (w64 (2 * f))),w64 (a.2 + 1)))) (some (.inr a.1))
noncomputable def q3w (c : List qf) (a : Int × Int) : Option ((Int × Int) ⊕ (Int)):=
  cond (decide (a.2 < (c.length : Int))) (((idx c a.2).bind fun d=>(q6u d).bind fun b=>(slc c 0 a.2).bind fun f=>(loop (q3x f d) (w64 (a.1 + (w64 (2 * (w64 ((w64 ((w64 (b.1 * b.2.1)) + (w64 (b.1 * b.2.2)))) + (w64 (b.2.1 * b.2.2))))))),0)).bind fun g=>some g).bind fun h=>some (.inl (h,w64 (a.2 + 1)))) (some (.inr a.1))
noncomputable def q9a (a : List qf) : Option (Int × Int):=
  (Jb a).bind fun b=>cond (b != 0) (some (0,b)) ((loop (q3w a) (0,0)).bind fun c=>some (c,0))
noncomputable def q2s (a : qy) (b : Int) : Option Bool:=
  (cond (decide ((min (min a.X a.Y) a.Z) ≥ b)) (some (decide ((max (max a.X a.Y) a.Z)≤1000000))) (some false)).bind fun c=>some c
noncomputable def q4i (a : Y5) : Option Int:=
  (cond (decide (a.Turn ≥ 24)) (some true) ((q2s a.At (-1000000)).bind fun b=>some (!b))).bind fun c=>cond c (some 8) (some 0)
noncomputable def qag (a : Int) : Option qy:=
  cond ((IntKind.wrap .u8 (Int.tdiv a 2)) == 0) (some ({X:=w64 (1 - (w64 (2 * (w64 (Int.tmod a 2))))),Y:=0,Z:=0} : qy)) (cond ((IntKind.wrap .u8 (Int.tdiv a 2)) == 1) (some ({X:=0,Y:=w64 (1 - (w64 (2 * (w64 (Int.tmod a 2))))),Z:=0} : qy)) (some ({X:=0,Y:=0,Z:=w64 (1 - (w64 (2 * (w64 (Int.tmod a 2)))))} : qy)))
noncomputable def qde (a : qy) (b : qy) : Option qy:=
  some ({X:=w64 ((w64 (a.Y * b.Z)) - (w64 (a.Z * b.Y))),Y:=w64 ((w64 (a.Z * b.X)) - (w64 (a.X * b.Z))),Z:=w64 ((w64 (a.X * b.Y)) - (w64 (a.Y * b.X)))} : qy)
noncomputable def q7k (a : Int) : Option (qy × qy × qy):=
  (cond (decide ((Int.tmod a 4) ≥ (IntKind.wrap .u8 ((IntKind.wrap .u8 (Int.tdiv (IntKind.wrap .u8 (Int.tdiv a 4)) 2)) * 2)))) (some (IntKind.wrap .u8 ((Int.tmod a 4) + 2))) (some (Int.tmod a 4))).bind fun d=>(qag (IntKind.wrap .u8 (Int.tdiv a 4))).bind fun b=>(qag d).bind fun c=>(qde b c).bind fun f=>some (b,c,f)
noncomputable def q7m (a : qy × qy × qy) (b : qy) : Option qy:=
  some ({X:=w64 ((w64 ((w64 (b.X * a.1.X)) + (w64 (b.Y * a.2.1.X)))) + (w64 (b.Z * a.2.2.X))),Y:=w64 ((w64 ((w64 (b.X * a.1.Y)) + (w64 (b.Y * a.2.1.Y)))) + (w64 (b.Z * a.2.2.Y))),Z:=w64 ((w64 ((w64 (b.X * a.1.Z)) + (w64 (b.Y * a.2.1.Z)))) + (w64 (b.Z * a.2.2.Z)))} : qy)
noncomputable def q7l (a : Y5) (c : qy) : Option qy:=
  (q7k a.Turn).bind fun d=>(q7m d c).bind fun b=>some ({X:=w64 (b.X + a.At.X),Y:=w64 (b.Y + a.At.Y),Z:=w64 (b.Z + a.At.Z)} : qy)
noncomputable def q4h (a : Y5) (b : qy) : Option (qy × Int):=
  (q4i a).bind fun c=>cond (c != 0) (some (({X:=0,Y:=0,Z:=0} : qy),c)) ((q2s b (-1000000)).bind fun f=>cond (!f) (some (({X:=0,Y:=0,Z:=0} : qy),2)) ((q7l a b).bind fun d=>(q2s d (-1000000)).bind fun g=>cond (!g) (some (({X:=0,Y:=0,Z:=0} : qy),16)) (some (d,0))))
noncomputable def q3v (d : List qf) (f : Y5) (c : Int × List qf) : Option ((Int × List qf) ⊕ ((List qf) ⊕ (List qf × Int))):=
  cond (decide (c.1 < (d.length : Int))) ((idx d c.1).bind fun g=>(q4h f g.Lo).bind fun a=>(q4h f g.Hi).bind fun b=>(cond (a.2 != 0) (some true) (some (b.2 != 0))).bind fun h=>cond h (some (.inr (.inr ([],16)))) ((app 48 c.2 [({Lo:=({X:=min a.1.X b.1.X,Y:=min a.1.Y b.1.Y,Z:=min a.1.Z b.1.Z} : qy),Hi:=({X:=max a.1.X b.1.X,Y:=max a.1.Y b.1.Y,Z:=max a.1.Z b.1.Z} : qy)} : qf)]).bind fun j=>some (.inl (w64 (c.1 + 1),j)))) (some (.inr (.inl c.2)))
noncomputable def q99 (a : List qf) (b : Y5) : Option (List qf × Int):=
  (Jb a).bind fun c=>cond (c != 0) (some ([],c)) ((q4i b).bind fun d=>cond (d != 0) (some ([],d)) ((loop (q3v a b) (0,[]) : Option ((List qf) ⊕ (List qf × Int))).bind fun g=>(match g with | .inl h=>(q6o h).bind fun f=>some (f.1,f.2) | .inr j=>some j)))
noncomputable def J4 (a : Int) (b : Int) (c : Int) (d : Int) (f : Int) (g : Int) : Option qf:=
  some ({Lo:=({X:=a,Y:=b,Z:=c} : qy),Hi:=({X:=d,Y:=f,Z:=g} : qy)} : qf)
noncomputable def Uu : Option (List qf):=
  (J4 0 0 0 2 2 1).bind fun a=>(J4 0 0 1 1 2 2).bind fun b=>some [a,b]
noncomputable def q4r : Option Bool:=
  Uu.bind fun f=>(q14 f).bind fun a=>Uu.bind fun g=>(q9a g).bind fun b=>Uu.bind fun h=>(q99 h ({Turn:=9,At:=({X:=0,Y:=0,Z:=0} : qy)} : Y5)).bind fun c=>(J4 0 0 0 1 2 2).bind fun j=>(J4 1 0 0 2 2 1).bind fun k=>(q6o [j,k]).bind fun d=>(cond (a.2 == 0) (some (a.1 == 6)) (some false)).bind fun l=>(cond l (some (b.2 == 0)) (some false)).bind fun m=>(cond m (some (b.1 == 22)) (some false)).bind fun n=>(cond n (some (c.2 == 0)) (some false)).bind fun o=>cond o ((J4 (-2) 0 0 0 2 1).bind fun p=>(J4 (-2) 0 1 0 1 2).bind fun q=>(U8 c.1 [p,q]).bind fun r=>(cond r (some (d.2 == 0)) (some false)).bind fun s=>(cond s (Uu.bind fun t=>(U8 d.1 t).bind fun u=>some u) (some false)).bind fun v=>(cond v (Uu.bind fun w=>(Jc w ({X:=0,Y:=0,Z:=1} : qy)).bind fun x=>some x) (some false)).bind fun y=>(cond y (Uu.bind fun z=>(Jc z ({X:=1,Y:=0,Z:=1} : qy)).bind fun aa=>some (!aa)) (some false)).bind fun ab=>some ab) (some false)
noncomputable def q4t (a : List qf) (b : List qf) : Option Bool:=
  (cond (decide ((a.length : Int)≤30)) (some (decide ((b.length : Int)≤30))) (some false)).bind fun c=>(cond c ((q38 a b).bind fun d=>some (d == 0)) (some false)).bind fun f=>some f
def q105 (x : qy) : List DV:=[.int .i64 x.X,.int .i64 x.Y,.int .i64 x.Z]
noncomputable def qam (a : List qf) (b : List qf) (c : qy) : Option Bool:=
  q4r.bind fun h=>(q4t a b).bind fun l=>(cond (!l) (some true) (some (!h))).bind fun m=>cond m (some h) ((q2g a b).bind fun d=>(q2f a b).bind fun f=>(q3u a b).bind fun g=>(Jc a c).bind fun j=>(Jc b c).bind fun k=>(cond (d.2 == 0) ((Jb d.1).bind fun n=>(cond (n != 0) (some true) ((Jc d.1 c).bind fun o=>(cond j (some true) (some k)).bind fun p=>some (!(o == p)))).bind fun q=>some q) (some false)).bind fun r=>cond r (some false) ((cond (f.2 == 0) ((Jb f.1).bind fun s=>(cond (s != 0) (some true) ((Jc f.1 c).bind fun t=>(cond j (some k) (some false)).bind fun u=>some (!(t == u)))).bind fun v=>some v) (some false)).bind fun w=>cond w (some false) ((cond (g.2 == 0) ((Jb g.1).bind fun x=>(cond (x != 0) (some true) ((Jc g.1 c).bind fun y=>(cond j (some (!k)) (some false)).bind fun z=>some (!(y == z)))).bind fun aa=>some aa) (some false)).bind fun ab=>cond ab (some false) ((cond h ((cond (d.2 == 0) (some true) (some (d.2 == 4))).bind fun ac=>some ac) (some false)).bind fun ad=>(cond ad ((cond (f.2 == 0) (some true) (some (f.2 == 4))).bind fun ae=>some ae) (some false)).bind fun af=>(cond af ((cond (g.2 == 0) (some true) (some (g.2 == 4))).bind fun ag=>some ag) (some false)).bind fun ah=>some ah))))
noncomputable def qan (a : List qf) (b : List qf) : Option Bool:=
  q4r.bind fun d=>(q4t a b).bind fun o=>(cond (!o) (some true) (some (!d))).bind fun p=>cond p (some d) ((q2g a b).bind fun g=>(q2f a b).bind fun c=>(q3u a b).bind fun f=>(cond (g.2 != 0) (some true) (some (c.2 != 0))).bind fun q=>(cond q (some true) (some (f.2 != 0))).bind fun r=>cond r ((cond d ((cond (g.2 == 4) (some true) (some (c.2 == 4))).bind fun s=>(cond s (some true) (some (f.2 == 4))).bind fun t=>some t) (some false)).bind fun u=>some u) ((q14 g.1).bind fun h=>(q14 c.1).bind fun j=>(q14 a).bind fun k=>(q14 b).bind fun l=>(q2g c.1 f.1).bind fun m=>(q2f c.1 f.1).bind fun n=>(cond d (some (h.2 == 0)) (some false)).bind fun v=>(cond v (some (j.2 == 0)) (some false)).bind fun w=>(cond w (some (k.2 == 0)) (some false)).bind fun x=>(cond x (some (l.2 == 0)) (some false)).bind fun y=>(cond y (some ((w64 (h.1 - k.1)) == (w64 (l.1 - j.1)))) (some false)).bind fun z=>(cond z (some (m.2 == 0)) (some false)).bind fun aa=>(cond aa ((U8 m.1 a).bind fun ab=>some ab) (some false)).bind fun ac=>(cond ac (some (n.2 == 0)) (some false)).bind fun ad=>(cond ad (some ((n.1.length : Int) == 0)) (some false)).bind fun ae=>some ae))
noncomputable def qjz (a : qh) : Option Bool:=
  (cond (decide (a.Lo < a.Hi)) (some (decide (a.Lo ≥ (-1000000)))) (some false)).bind fun b=>(cond b (some (decide (a.Hi≤1000000))) (some false)).bind fun c=>some c
noncomputable def qee (b : List qh) (a : Int) : Option ((Int) ⊕ ((Unit) ⊕ (Int))):=
  cond (decide (a < (b.length : Int))) ((idx b a).bind fun c=>(qjz c).bind fun d=>(cond (!d) (some true) ((cond (decide (a > 0)) ((idx b (w64 (a - 1))).bind fun f=>(idx b a).bind fun g=>some (decide (f.Hi ≥ g.Lo))) (some false)).bind fun h=>some h)).bind fun j=>cond j (some (.inr (.inr 8))) (some (.inl (w64 (a + 1))))) (some (.inr (.inl ())))
noncomputable def qb1 (a : List qh) : Option Int:=
  cond (decide ((a.length : Int) > 400)) (some 4) ((loop (qee a) 0 : Option ((Unit) ⊕ (Int))).bind fun b=>(match b with | .inl _=>some 0 | .inr c=>some c))
noncomputable def q7v (b : List qh) (a : Int × List Int) : Option ((Int × List Int) ⊕ (List Int)):=
  cond (decide (a.1 < (b.length : Int))) ((idx b a.1).bind fun c=>(idx b a.1).bind fun d=>(app 8 a.2 [c.Lo,d.Hi]).bind fun f=>some (.inl (w64 (a.1 + 1),f))) (some (.inr a.2))
noncomputable def qjw (b : List qh) (a : Int × List Int) : Option ((Int × List Int) ⊕ (List Int)):=
  cond (decide (a.1 < (b.length : Int))) ((idx b a.1).bind fun c=>(idx b a.1).bind fun d=>(app 8 a.2 [c.Lo,d.Hi]).bind fun f=>some (.inl (w64 (a.1 + 1),f))) (some (.inr a.2))
noncomputable def qef (a : List qh) (b : List qh) : Option (List Int):=
  (loop (q7v a) (0,[])).bind fun c=>(loop (qjw b) (0,c)).bind fun d=>(J8 d).bind fun f=>some f
noncomputable def q7w (b : List qh) (c : Int) (a : Int) : Option ((Int) ⊕ ((Unit) ⊕ (Bool))):=
  cond (decide (a < (b.length : Int))) ((idx b a).bind fun d=>(cond (decide (d.Lo≤c)) ((idx b a).bind fun f=>some (decide (c < f.Hi))) (some false)).bind fun g=>cond g (some (.inr (.inr true))) (some (.inl (w64 (a + 1))))) (some (.inr (.inl ())))
noncomputable def qb2 (a : List qh) (b : Int) : Option Bool:=
  (loop (q7w a b) 0 : Option ((Unit) ⊕ (Bool))).bind fun c=>(match c with | .inl _=>some false | .inr d=>some d)
noncomputable def q7x (b : List Int) (c : List qh) (d : List qh) (f : Int) (a : Int × List Bool) : Option ((Int × List Bool) ⊕ (List Bool)):=
  cond (decide (a.1 < (b.length : Int))) ((idx b a.1).bind fun g=>(qb2 c g).bind fun h=>(idx b a.1).bind fun j=>(qb2 d j).bind fun k=>(q52 f h k).bind fun l=>(app 1 a.2 [l]).bind fun m=>some (.inl (w64 (a.1 + 1),m))) (some (.inr a.2))
noncomputable def qb3 (d : Int) (a : List qh) (b : List qh) : Option (List qh):=
  (qef a b).bind fun c=>(loop (q7x c a b d) (0,[])).bind fun f=>(q2y c f).bind fun g=>some g
noncomputable def q9e (b : List qh) (a : Int × Int) : Option ((Int × Int) ⊕ (Int)):=
  cond (decide (a.2 < (b.length : Int))) ((idx b a.2).bind fun c=>some (.inl (w64 (a.1 + (w64 (c.Hi - c.Lo))),w64 (a.2 + 1)))) (some (.inr a.1))
noncomputable def qlp (a : List qh) : Option (Int × Int):=
  (q2h a).bind fun b=>cond (b != 0) (some (0,b)) ((loop (q9e a) (0,0)).bind fun c=>some (c,0))
noncomputable def q7y (b : List qh) (a : Int × Int) : Option ((Int × Int) ⊕ (Int)):=
  cond (decide (a.2 < (b.length : Int))) ((idx b a.2).bind fun c=>(idx b a.2).bind fun d=>some (.inl (w64 ((w64 (a.1 + c.Hi)) - d.Lo),w64 (a.2 + 1)))) (some (.inr a.1))
noncomputable def qjy (a : List qh) : Option (Int × Int):=
  (qb1 a).bind fun b=>cond (b != 0) ((qb1 a).bind fun c=>some (0,c)) ((loop (q7y a) (0,0)).bind fun d=>some (d,0))
structure qfy where
  Frame : Y5
  Size : qy
  deriving DecidableEq
structure q101 where
  t_ : Int
  at_ : qy
  flat_ : qy
  deriving DecidableEq
end Go.Sh
