/- PX -/
import Derived.Test.YtiejlbckgihckaaK7
namespace Go.Sh
open Go Go.Am
structure Qe where
  X : Int
  Y : Int
  Z : Int
  deriving DecidableEq
structure qf where
  Lo : Qe
  Hi : Qe
  deriving DecidableEq
def Q5 (x : qf) : List DV:=[.int .i64 x.Lo.X,.int .i64 x.Lo.Y,.int .i64 x.Lo.Z,.int .i64 x.Hi.X,.int .i64 x.Hi.Y,.int .i64 x.Hi.Z]
noncomputable def q7d (a : List qf) : Option Bool:=
  (cond (decide ((a.length : Int) > 30)) (some (decide ((a.length : Int)≤400))) (some false)).bind fun b=>(cond b (some true) (some (decide ((a.length : Int) > 420)))).bind fun c=>some c
noncomputable def q3h (b : List qf) (c : qf→Option Bool) (a : Int) : Option ((Int) ⊕ ((Unit) ⊕ (Int))):=
  cond (decide (a < (b.length : Int))) ((idx b a).bind fun d=>(c d).bind fun f=>cond f (some (.inr (.inr a))) (some (.inl (w64 (a + 1))))) (some (.inr (.inl ())))
noncomputable def qak (a : List qf) (b : qf→Option Bool) : Option Int:=
  (loop (q3h a b) 0 : Option ((Unit) ⊕ (Int))).bind fun c=>(match c with | .inl _=>some (-1) | .inr d=>some d)
noncomputable def q7p (a : List qf) (b : qf→Option Bool) : Option Bool:=
  (qak a b).bind fun c=>some (decide (c ≥ 0))
noncomputable def q66 (a : Qe) : Option Bool:=
  (cond (decide ((min (min a.X a.Y) a.Z) ≥ (-1000000))) (some (decide ((max (max a.X a.Y) a.Z)≤1000000))) (some false)).bind fun b=>some b
noncomputable def q67 (a : qf) : Option Bool:=
  (cond (decide (a.Lo.X < a.Hi.X)) (some (decide (a.Lo.Y < a.Hi.Y))) (some false)).bind fun b=>(cond b (some (decide (a.Lo.Z < a.Hi.Z))) (some false)).bind fun c=>(cond c ((q66 a.Lo).bind fun d=>some d) (some false)).bind fun f=>(cond f ((q66 a.Hi).bind fun g=>some g) (some false)).bind fun h=>some h
noncomputable def q2a (a : qf) : Option Bool:=
  (q67 a).bind fun b=>some (!b)
def K8 (x : List qf) : List DV:=[.sl 6 (x.map Q5)]
def qap : ByteArray:=⟨#[0,1,2,2,3,3,3,3,4,4,4,4,4,4,4,4,5,5,5,5,5,5,5,5,5,5,5,5,5,5,5,5,6,6,6,6,6,6,6,6,6,6,6,6,6,6,6,6,6,6,6,6,6,6,6,6,6,6,6,6,6,6,6,6,7,7,7,7,7,7,7,7,7,7,7,7,7,7,7,7,7,7,7,7,7,7,7,7,7,7,7,7,7,7,7,7,7,7,7,7,7,7,7,7,7,7,7,7,7,7,7,7,7,7,7,7,7,7,7,7,7,7,7,7,7,7,7,7,8,8,8,8,8,8,8,8,8,8,8,8,8,8,8,8,8,8,8,8,8,8,8,8,8,8,8,8,8,8,8,8,8,8,8,8,8,8,8,8,8,8,8,8,8,8,8,8,8,8,8,8,8,8,8,8,8,8,8,8,8,8,8,8,8,8,8,8,8,8,8,8,8,8,8,8,8,8,8,8,8,8,8,8,8,8,8,8,8,8,8,8,8,8,8,8,8,8,8,8,8,8,8,8,8,8,8,8,8,8,8,8,8,8,8,8,8,8,8,8,8,8,8,8,8,8,8,8]⟩
noncomputable def q1u (c : Int) : Option Int:=
  (cond (decide (c ≥ 4294967296)) (some (Int.fdiv c (2 ^ 32),32)) (some (c,0))).bind fun a=>(cond (decide (a.1 ≥ 65536)) (some (Int.fdiv a.1 (2 ^ 16),w64 (a.2 + 16))) (some (a.1,a.2))).bind fun b=>(cond (decide (b.1 ≥ 256)) (some (Int.fdiv b.1 (2 ^ 8),w64 (b.2 + 8))) (some (b.1,b.2))).bind fun d=>(q3x qap (IntKind.wrap .u8 d.1)).bind fun f=>some (w64 (d.2 + (w64 f)))
noncomputable def U4 (a : Int) : Option Int:=
  (q1u a).bind fun b=>some b
noncomputable def q6i (a : Int) : Option Bool:=
  some (a != a)
noncomputable def Yq (a : Int) (b : Int) : Option Bool:=
  (q6i a).bind fun c=>(cond c ((q6i b).bind fun d=>some (!d)) (some false)).bind fun f=>(cond f (some true) (some (decide (a < b)))).bind fun g=>some g
noncomputable def q5g (c : Int) (a : Int × List Int) : Option ((Int × List Int) ⊕ (List Int)):=
  (cond (decide (a.1 > c)) ((idx a.2 a.1).bind fun d=>(idx a.2 (w64 (a.1 - 1))).bind fun f=>(Yq d f).bind fun g=>some g) (some false)).bind fun h=>cond h ((idx a.2 (w64 (a.1 - 1))).bind fun b=>(idx a.2 a.1).bind fun j=>(idx a.2 a.1).bind fun _=>(idx (a.2.set a.1.toNat b) (w64 (a.1 - 1))).bind fun _=>some (.inl (w64 (a.1 - 1),(a.2.set a.1.toNat b).set (w64 (a.1 - 1)).toNat j))) (some (.inr a.2))
noncomputable def q5f (b : Int) (c : Int) (a : Int × List Int) : Option ((Int × List Int) ⊕ (List Int)):=
  cond (decide (a.1 < b)) (((loop (q5g c) (a.1,a.2)).bind fun d=>some d).bind fun f=>some (.inl (w64 (a.1 + 1),f))) (some (.inr a.2))
noncomputable def q5e (b : List Int) (a : Int) (c : Int) : Option (List Int):=
  (loop (q5f c a) (w64 (a + 1),b)).bind fun d=>some d
noncomputable def q62 (d : Int) (b : Int) (a : Int × List Int) : Option ((Int × List Int) ⊕ (List Int)):=
  cond (decide ((w64 ((w64 (2 * a.1)) + 1)) ≥ d)) (some (.inr a.2)) ((cond (decide ((w64 ((w64 ((w64 (2 * a.1)) + 1)) + 1)) < d)) ((idx a.2 (w64 (b + (w64 ((w64 (2 * a.1)) + 1))))).bind fun g=>(idx a.2 (w64 ((w64 (b + (w64 ((w64 (2 * a.1)) + 1)))) + 1))).bind fun h=>(Yq g h).bind fun j=>some j) (some false)).bind fun k=>(cond k (some (w64 ((w64 ((w64 (2 * a.1)) + 1)) + 1))) (some (w64 ((w64 (2 * a.1)) + 1)))).bind fun c=>(idx a.2 (w64 (b + a.1))).bind fun l=>(idx a.2 (w64 (b + c))).bind fun m=>(Yq l m).bind fun n=>cond (!n) (some (.inr a.2)) ((idx a.2 (w64 (b + c))).bind fun f=>(idx a.2 (w64 (b + a.1))).bind fun o=>(idx a.2 (w64 (b + a.1))).bind fun _=>(idx (a.2.set (w64 (b + a.1)).toNat f) (w64 (b + c))).bind fun _=>some (.inl (c,(a.2.set (w64 (b + a.1)).toNat f).set (w64 (b + c)).toNat o))))
noncomputable def q3p (a : List Int) (b : Int) (c : Int) (d : Int) : Option (List Int):=
  (loop (q62 c d) (b,a)).bind fun f=>some f
noncomputable def q5c (d : Int) (b : Int) (a : Int × List Int) : Option ((Int × List Int) ⊕ (List Int)):=
  cond (decide (a.1 ≥ 0)) ((q3p a.2 a.1 (w64 (d - b)) b).bind fun c=>(Qw c.length a.2.length).bind fun _=>some (.inl (w64 (a.1 - 1),c))) (some (.inr a.2))
noncomputable def q5d (b : Int) (a : Int × List Int) : Option ((Int × List Int) ⊕ (List Int)):=
  cond (decide (a.1 ≥ 0)) ((idx a.2 (w64 (b + a.1))).bind fun c=>(idx a.2 b).bind fun d=>(idx a.2 b).bind fun _=>(idx (a.2.set b.toNat c) (w64 (b + a.1))).bind fun _=>(q3p ((a.2.set b.toNat c).set (w64 (b + a.1)).toNat d) 0 a.1 b).bind fun f=>(Qw f.length ((a.2.set b.toNat c).set (w64 (b + a.1)).toNat d).length).bind fun _=>some (.inl (w64 (a.1 - 1),f))) (some (.inr a.2))
noncomputable def q5b (c : List Int) (a : Int) (b : Int) : Option (List Int):=
  (loop (q5c b a) (w64 (Int.tdiv (w64 ((w64 (b - a)) - 1)) 2),c)).bind fun d=>(loop (q5d a) (w64 ((w64 (b - a)) - 1),d)).bind fun f=>some f
noncomputable def q29 (c : List Int) (a : Int) (b : Int) (d : Int) : Option (Int × Int × Int):=
  (idx c b).bind fun f=>(idx c a).bind fun g=>(Yq f g).bind fun h=>cond h (some (b,a,w64 (d + 1))) (some (a,b,d))
noncomputable def q3j (a : List Int) (f : Int) (g : Int) (h : Int) (j : Int) : Option (Int × Int):=
  (q29 a f g j).bind fun b=>(q29 a b.2.1 h b.2.2).bind fun c=>(q29 a b.1 c.1 c.2.2).bind fun d=>some (d.2.1,d.2.2)
noncomputable def q28 (c : List Int) (a : Int) (d : Int) : Option (Int × Int):=
  (q3j c (w64 (a - 1)) a (w64 (a + 1)) d).bind fun b=>some (b.1,b.2)
noncomputable def q5a (d : List Int) (a : Int) (b : Int) : Option (Int × Int):=
  (cond (decide ((w64 (b - a)) ≥ 8)) ((cond (decide ((w64 (b - a)) ≥ 50)) ((q28 d (w64 (a + (w64 ((w64 (Int.tdiv (w64 (b - a)) 4)) * 1)))) 0).bind fun g=>(q28 d (w64 (a + (w64 ((w64 (Int.tdiv (w64 (b - a)) 4)) * 2)))) g.2).bind fun h=>(q28 d (w64 (a + (w64 ((w64 (Int.tdiv (w64 (b - a)) 4)) * 3)))) h.2).bind fun j=>some (g.1,h.1,j.1,j.2)) (some (w64 (a + (w64 ((w64 (Int.tdiv (w64 (b - a)) 4)) * 1))),w64 (a + (w64 ((w64 (Int.tdiv (w64 (b - a)) 4)) * 2))),w64 (a + (w64 ((w64 (Int.tdiv (w64 (b - a)) 4)) * 3))),0))).bind fun f=>(q3j d f.1 f.2.1 f.2.2.1 f.2.2.2).bind fun k=>some (k.1,k.2)) (some (w64 (a + (w64 ((w64 (Int.tdiv (w64 (b - a)) 4)) * 2))),0))).bind fun c=>cond (c.2 == 0) (some (c.1,1)) (cond (c.2 == 12) (some (c.1,2)) (some (c.1,0)))
noncomputable def q8j (a : Int × Int × List Int) : Option ((Int × Int × List Int) ⊕ (List Int)):=
  cond (decide (a.1 < a.2.1)) ((idx a.2.2 a.2.1).bind fun b=>(idx a.2.2 a.1).bind fun c=>(idx a.2.2 a.1).bind fun _=>(idx (a.2.2.set a.1.toNat b) a.2.1).bind fun _=>some (.inl (w64 (a.1 + 1),w64 (a.2.1 - 1),(a.2.2.set a.1.toNat b).set a.2.1.toNat c))) (some (.inr a.2.2))
noncomputable def q60 (a : List Int) (b : Int) (c : Int) : Option (List Int):=
  (loop q8j (b,w64 (c - 1),a)).bind fun d=>some d
noncomputable def q5k (c : Int) (b : Int × Int × List Int) (a : Int) : Option ((Int) ⊕ (Int)):=
  (cond (decide (a < c)) ((idx b.2.2 a).bind fun d=>(idx b.2.2 (w64 (a - 1))).bind fun f=>(Yq d f).bind fun g=>some (!g)) (some false)).bind fun h=>cond h (some (.inl (w64 (a + 1)))) (some (.inr a))
noncomputable def q86 (a : Int × List Int) : Option ((Int × List Int) ⊕ (List Int)):=
  cond (decide (a.1 ≥ 1)) ((idx a.2 a.1).bind fun c=>(idx a.2 (w64 (a.1 - 1))).bind fun d=>(Yq c d).bind fun f=>cond (!f) (some (.inr a.2)) ((idx a.2 (w64 (a.1 - 1))).bind fun b=>(idx a.2 a.1).bind fun g=>(idx a.2 a.1).bind fun _=>(idx (a.2.set a.1.toNat b) (w64 (a.1 - 1))).bind fun _=>some (.inl (w64 (a.1 - 1),(a.2.set a.1.toNat b).set (w64 (a.1 - 1)).toNat g)))) (some (.inr a.2))
noncomputable def q5l (d : Int) (b : Int) (a : Int × List Int) : Option ((Int × List Int) ⊕ (Int × List Int)):=
  cond (decide (a.1 < d)) ((idx a.2 a.1).bind fun f=>(idx a.2 (w64 (a.1 - 1))).bind fun g=>(Yq f g).bind fun h=>cond (!h) (some (.inr (b,a.2))) ((idx a.2 (w64 (a.1 - 1))).bind fun c=>(idx a.2 a.1).bind fun j=>(idx a.2 a.1).bind fun _=>(idx (a.2.set a.1.toNat c) (w64 (a.1 - 1))).bind fun _=>some (.inl (w64 (a.1 + 1),(a.2.set a.1.toNat c).set (w64 (a.1 - 1)).toNat j)))) (some (.inr (b,a.2)))
noncomputable def q3m (c : Int) (g : Int) (b : Int × Int × List Int) : Option ((Int × Int × List Int) ⊕ ((List Int) ⊕ (Bool × List Int))):=
  cond (decide (b.2.1 < 5)) (((loop (q5k c b) b.1).bind fun a=>cond (a == c) (some (.inr (true,b.2.2))) (cond (decide ((w64 (c - g)) < 50)) (some (.inr (false,b.2.2))) ((idx b.2.2 (w64 (a - 1))).bind fun d=>(idx b.2.2 a).bind fun h=>(idx b.2.2 a).bind fun _=>(idx (b.2.2.set a.toNat d) (w64 (a - 1))).bind fun _=>(cond (decide ((w64 (a - g)) ≥ 2)) ((loop q86 (w64 (a - 1),(b.2.2.set a.toNat d).set (w64 (a - 1)).toNat h)).bind fun f=>some f) (some ((b.2.2.set a.toNat d).set (w64 (a - 1)).toNat h))).bind fun j=>cond (decide ((w64 (c - a)) ≥ 2)) ((loop (q5l c a) (w64 (a + 1),j)).bind fun f=>some (.inl f)) (some (.inl (a,j))))) : Option ((Int × List Int) ⊕ (Bool × List Int))).bind fun l=>(match l with | .inl k=>some (.inl (k.1,w64 (b.2.1 + 1),k.2)) | .inr m=>some (.inr (.inr m)))) (some (.inr (.inl b.2.2)))
noncomputable def q3l (b : List Int) (a : Int) (c : Int) : Option (Bool × List Int):=
  (loop (q3m c a) (w64 (a + 1),0,b) : Option ((List Int) ⊕ (Bool × List Int))).bind fun d=>(match d with | .inl f=>some (false,f) | .inr g=>some g)
noncomputable def q5o (b : Int × Int × List Int) (c : Int) (a : Int) : Option ((Int) ⊕ (Int)):=
  (cond (decide (a≤b.2.1)) ((idx b.2.2 c).bind fun d=>(idx b.2.2 a).bind fun f=>(Yq d f).bind fun g=>some (!g)) (some false)).bind fun h=>cond h (some (.inl (w64 (a + 1)))) (some (.inr a))
noncomputable def q5p (c : Int) (b : Int × Int × List Int) (d : Int) (a : Int) : Option ((Int) ⊕ (Int)):=
  (cond (decide (c≤a)) ((idx b.2.2 d).bind fun f=>(idx b.2.2 a).bind fun g=>(Yq f g).bind fun h=>some h) (some false)).bind fun j=>cond j (some (.inl (w64 (a - 1)))) (some (.inr a))
noncomputable def q5n (d : Int) (a : Int × Int × List Int) : Option ((Int × Int × List Int) ⊕ (Int × List Int)):=
  (loop (q5o a d) a.1).bind fun b=>(loop (q5p b a d) a.2.1).bind fun c=>cond (decide (b > c)) (some (.inr (b,a.2.2))) ((idx a.2.2 c).bind fun f=>(idx a.2.2 b).bind fun g=>(idx a.2.2 b).bind fun _=>(idx (a.2.2.set b.toNat f) c).bind fun _=>some (.inl (w64 (b + 1),w64 (c - 1),(a.2.2.set b.toNat f).set c.toNat g)))
noncomputable def q5m (b : List Int) (a : Int) (g : Int) (c : Int) : Option (Int × List Int):=
  (idx b c).bind fun d=>(idx b a).bind fun h=>(idx b a).bind fun _=>(idx (b.set a.toNat d) c).bind fun _=>(loop (q5n a) (w64 (a + 1),w64 (g - 1),(b.set a.toNat d).set c.toNat h)).bind fun f=>some (f.1,f.2)
noncomputable def q5r (h : Int) (c : List Int) (b : Int) (d : Int) (f : Int) (g : Int) (a : Int) : Option ((Int) ⊕ (Int)):=
  (cond (decide (a≤(w64 (h - 1)))) ((idx ((c.set b.toNat d).set f.toNat g) a).bind fun j=>(idx ((c.set b.toNat d).set f.toNat g) b).bind fun k=>(Yq j k).bind fun l=>some l) (some false)).bind fun m=>cond m (some (.inl (w64 (a + 1)))) (some (.inr a))
noncomputable def q5s (h : Int) (c : List Int) (b : Int) (d : Int) (f : Int) (g : Int) (a : Int) : Option ((Int) ⊕ (Int)):=
  (cond (decide (h≤a)) ((idx ((c.set b.toNat d).set f.toNat g) a).bind fun j=>(idx ((c.set b.toNat d).set f.toNat g) b).bind fun k=>(Yq j k).bind fun l=>some (!l)) (some false)).bind fun m=>cond m (some (.inl (w64 (a - 1)))) (some (.inr a))
noncomputable def q5u (b : Int × Int × List Int) (c : Int) (a : Int) : Option ((Int) ⊕ (Int)):=
  (cond (decide (a≤b.2.1)) ((idx b.2.2 a).bind fun d=>(idx b.2.2 c).bind fun f=>(Yq d f).bind fun g=>some g) (some false)).bind fun h=>cond h (some (.inl (w64 (a + 1)))) (some (.inr a))
noncomputable def q5v (c : Int) (b : Int × Int × List Int) (d : Int) (a : Int) : Option ((Int) ⊕ (Int)):=
  (cond (decide (c≤a)) ((idx b.2.2 a).bind fun f=>(idx b.2.2 d).bind fun g=>(Yq f g).bind fun h=>some (!h)) (some false)).bind fun j=>cond j (some (.inl (w64 (a - 1)))) (some (.inr a))
noncomputable def q5t (d : Int) (a : Int × Int × List Int) : Option ((Int × Int × List Int) ⊕ (Int × List Int)):=
  (loop (q5u a d) a.1).bind fun b=>(loop (q5v b a d) a.2.1).bind fun c=>cond (decide (b > c)) (some (.inr (c,a.2.2))) ((idx a.2.2 c).bind fun f=>(idx a.2.2 b).bind fun g=>(idx a.2.2 b).bind fun _=>(idx (a.2.2.set b.toNat f) c).bind fun _=>some (.inl (w64 (b + 1),w64 (c - 1),(a.2.2.set b.toNat f).set c.toNat g)))
noncomputable def q5q (b : List Int) (a : Int) (k : Int) (c : Int) : Option (Int × Bool × List Int):=
  (idx b c).bind fun d=>(idx b a).bind fun f=>(idx b a).bind fun _=>(idx (b.set a.toNat d) c).bind fun _=>(loop (q5r k b a d c f) (w64 (a + 1))).bind fun j=>(loop (q5s j b a d c f) (w64 (k - 1))).bind fun g=>cond (decide (j > g)) ((idx ((b.set a.toNat d).set c.toNat f) a).bind fun l=>(idx ((b.set a.toNat d).set c.toNat f) g).bind fun o=>(idx ((b.set a.toNat d).set c.toNat f) g).bind fun _=>(idx (((b.set a.toNat d).set c.toNat f).set g.toNat l) a).bind fun _=>some (g,true,(((b.set a.toNat d).set c.toNat f).set g.toNat l).set a.toNat o)) ((idx ((b.set a.toNat d).set c.toNat f) g).bind fun m=>(idx ((b.set a.toNat d).set c.toNat f) j).bind fun p=>(idx ((b.set a.toNat d).set c.toNat f) j).bind fun _=>(idx (((b.set a.toNat d).set c.toNat f).set j.toNat m) g).bind fun _=>(loop (q5t a) (w64 (j + 1),w64 (g - 1),(((b.set a.toNat d).set c.toNat f).set j.toNat m).set g.toNat p)).bind fun h=>(idx h.2 a).bind fun n=>(idx h.2 h.1).bind fun q=>(idx h.2 h.1).bind fun _=>(idx (h.2.set h.1.toNat n) a).bind fun _=>some (h.1,false,(h.2.set h.1.toNat n).set a.toNat q))
noncomputable def q17 (a : Int) : Option Int:=
  (U4 (IntKind.wrap .u64 a)).bind fun b=>(shlK .u64 1 b).bind fun c=>some c
noncomputable def q18 (a : Int) : Option Int:=
  some (xorI .u64 (xorI .u64 (xorI .u64 a (IntKind.wrap .u64 (a * (2 ^ 13)))) (Int.fdiv (xorI .u64 a (IntKind.wrap .u64 (a * (2 ^ 13)))) (2 ^ 7))) (IntKind.wrap .u64 ((xorI .u64 (xorI .u64 a (IntKind.wrap .u64 (a * (2 ^ 13)))) (Int.fdiv (xorI .u64 a (IntKind.wrap .u64 (a * (2 ^ 13)))) (2 ^ 7))) * (2 ^ 17))))
noncomputable def q59 (b : Int) (d : Int) (f : Int) (a : Int × List Int × Int) : Option ((Int × List Int × Int) ⊕ (List Int)):=
  cond (decide (a.1≤(w64 ((w64 (b + (w64 ((w64 (Int.tdiv (w64 (d - b)) 4)) * 2)))) + 1)))) ((q18 a.2.2).bind fun c=>(cond (decide ((w64 (andI .u64 c (IntKind.wrap .u64 (f - 1)))) ≥ (w64 (d - b)))) (some (w64 ((w64 (andI .u64 c (IntKind.wrap .u64 (f - 1)))) - (w64 (d - b))))) (some (w64 (andI .u64 c (IntKind.wrap .u64 (f - 1)))))).bind fun g=>(idx a.2.1 (w64 (b + g))).bind fun h=>(idx a.2.1 a.1).bind fun j=>(idx a.2.1 a.1).bind fun _=>(idx (a.2.1.set a.1.toNat h) (w64 (b + g))).bind fun _=>some (.inl (w64 (a.1 + 1),(a.2.1.set a.1.toNat h).set (w64 (b + g)).toNat j,c))) (some (.inr a.2.1))
noncomputable def q58 (c : List Int) (a : Int) (b : Int) : Option (List Int):=
  cond (decide ((w64 (b - a)) ≥ 8)) ((q17 (w64 (b - a))).bind fun d=>(loop (q59 a b d) (w64 ((w64 (a + (w64 ((w64 (Int.tdiv (w64 (b - a)) 4)) * 2)))) - 1),c,IntKind.wrap .u64 (w64 (b - a)))).bind fun f=>some f) (some c)
noncomputable def q3n (rec : List Int→Int→Int→Int→Option (List Int)) (a : Int × Int × Int × Bool × Bool × List Int) : Option ((Int × Int × Int × Bool × Bool × List Int) ⊕ (List Int)):=
  cond (decide ((w64 (a.2.1 - a.1))≤12)) ((q5e a.2.2.2.2.2 a.1 a.2.1).bind fun k=>(Qw k.length a.2.2.2.2.2.length).bind fun _=>some (.inr k)) (cond (a.2.2.1 == 0) ((q5b a.2.2.2.2.2 a.1 a.2.1).bind fun l=>(Qw l.length a.2.2.2.2.2.length).bind fun _=>some (.inr l)) ((cond (!a.2.2.2.1) ((q58 a.2.2.2.2.2 a.1 a.2.1).bind fun m=>(Qw m.length a.2.2.2.2.2.length).bind fun _=>some (w64 (a.2.2.1 - 1),m)) (some (a.2.2.1,a.2.2.2.2.2))).bind fun c=>(q5a c.2 a.1 a.2.1).bind fun g=>(cond (g.2 == 2) ((q60 c.2 a.1 a.2.1).bind fun n=>(Qw n.length c.2.length).bind fun _=>some (w64 ((w64 (a.2.1 - 1)) - (w64 (g.1 - a.1))),1,n)) (some (g.1,g.2,c.2))).bind fun d=>(cond a.2.2.2.1 (some a.2.2.2.2.1) (some false)).bind fun q=>(cond q (some (d.2.1 == 1)) (some false)).bind fun r=>(cond r ((q3l d.2.2 a.1 a.2.1).bind fun h=>(Qw h.2.length d.2.2.length).bind fun _=>cond h.1 (some (.inr h.2)) (some (.inl h.2))) (some (.inl d.2.2)) : Option ((List Int) ⊕ (List Int))).bind fun s=>(match s with | .inl f=>(cond (decide (a.1 > 0)) ((idx f (w64 (a.1 - 1))).bind fun t=>(idx f d.1).bind fun u=>(Yq t u).bind fun v=>some (!v)) (some false)).bind fun w=>cond w ((q5m f a.1 a.2.1 d.1).bind fun j=>(Qw j.2.length f.length).bind fun _=>some (.inl (j.1,a.2.1,c.1,a.2.2.2.1,a.2.2.2.2.1,j.2))) ((q5q f a.1 a.2.1 d.1).bind fun b=>(Qw b.2.2.length f.length).bind fun _=>cond (decide ((w64 (b.1 - a.1)) < (w64 (a.2.1 - b.1)))) ((rec b.2.2 a.1 b.1 c.1).bind fun o=>(Qw o.length b.2.2.length).bind fun _=>some (.inl (w64 (b.1 + 1),a.2.1,c.1,decide ((w64 (b.1 - a.1)) ≥ (w64 (Int.tdiv (w64 (a.2.1 - a.1)) 8))),b.2.1,o))) ((rec b.2.2 (w64 (b.1 + 1)) a.2.1 c.1).bind fun p=>(Qw p.length b.2.2.length).bind fun _=>some (.inl (a.1,b.1,c.1,decide ((w64 (a.2.1 - b.1)) ≥ (w64 (Int.tdiv (w64 (a.2.1 - a.1)) 8))),b.2.1,p)))) | .inr x=>some (.inr x))))
noncomputable def q3o (rec : List Int→Int→Int→Int→Option (List Int)) (a : List Int) (b : Int) (c : Int) (d : Int) : Option (List Int):=
  (loop (q3n rec) (b,c,d,true,true,a)).bind fun f=>some f
noncomputable def q5z : Nat→List Int→Int→Int→Int→Option (List Int)
  | 0,_,_,_,_=>none
  | n + 1,a,b,c,d=>q3o (q5z n)  a b c d
noncomputable def Ub (a : List Int) : Option (List Int):=
  (U4 (IntKind.wrap .u64 (a.length : Int))).bind fun c=>(lim (fun n=>q5z n a 0 (a.length : Int) c)).bind fun b=>(Qw b.length a.length).bind fun _=>some b
noncomputable def q16 (a : Int × (Nat × Nat) × Int × List Int) : Option ((Int × (Nat × Nat) × Int × List Int) ⊕ (Int × List Int)):=
  cond (decide (a.2.2.1 < (a.2.1.2 : Int))) (((idxW a.2.2.2 a.2.1 a.2.2.1).bind fun c=>(idxW a.2.2.2 a.2.1 (w64 (a.2.2.1 - 1))).bind fun d=>cond (c != d) ((idxW a.2.2.2 a.2.1 a.2.2.1).bind fun f=>(idx a.2.2.2 a.1).bind fun _=>some (w64 (a.1 + 1),a.2.1,a.2.2.2.set a.1.toNat f)) (some (a.1,a.2.1,a.2.2.2))).bind fun b=>some (.inl (b.1,b.2.1,w64 (a.2.2.1 + 1),b.2.2))) (some (.inr (a.1,a.2.2.2)))
noncomputable def Zu (a : List Int) (b : Int) : Option ((Int) ⊕ ((Unit) ⊕ ((Nat × Nat) × List Int))):=
  cond (decide (b < (a.length : Int))) ((idx a b).bind fun d=>(idx a (w64 (b - 1))).bind fun f=>cond (d == f) ((sub2 a.length b a.length).bind fun g=>(loop q16 (b,g,1,a)).bind fun c=>(sub2 c.2.length c.1 c.2.length).bind fun h=>(sub2 c.2.length 0 c.1).bind fun j=>some (.inr (.inr (j,clrw c.2 h 0)))) (some (.inl (w64 (b + 1))))) (some (.inr (.inl ())))
noncomputable def q26 (a : List Int) : Option ((Nat × Nat) × List Int):=
  cond (decide ((a.length : Int) < 2)) (some ((0,a.length),a)) ((loop (Zu a) 1 : Option ((Unit) ⊕ ((Nat × Nat) × List Int))).bind fun b=>(match b with | .inl _=>some ((0,a.length),a) | .inr c=>some c))
structure ql where
  X0 : Int
  Y0 : Int
  X1 : Int
  Y1 : Int
  deriving DecidableEq
def Q7 (x : ql) : List DV:=[.int .i64 x.X0,.int .i64 x.Y0,.int .i64 x.X1,.int .i64 x.Y1]
noncomputable def q3g (b : List ql) (c : ql→Option Bool) (a : Int) : Option ((Int) ⊕ ((Unit) ⊕ (Int))):=
  cond (decide (a < (b.length : Int))) ((idx b a).bind fun d=>(c d).bind fun f=>cond f (some (.inr (.inr a))) (some (.inl (w64 (a + 1))))) (some (.inr (.inl ())))
noncomputable def qaj (a : List ql) (b : ql→Option Bool) : Option Int:=
  (loop (q3g a b) 0 : Option ((Unit) ⊕ (Int))).bind fun c=>(match c with | .inl _=>some (-1) | .inr d=>some d)
noncomputable def q7o (a : List ql) (b : ql→Option Bool) : Option Bool:=
  (qaj a b).bind fun c=>some (decide (c ≥ 0))
noncomputable def q21 (a : Int) : Option Bool:=
  (cond (decide (a ≥ (-1000000))) (some (decide (a≤1000000))) (some false)).bind fun b=>some b
noncomputable def q7j (a : ql) : Option Bool:=
  (cond (decide (a.X0 < a.X1)) (some (decide (a.Y0 < a.Y1))) (some false)).bind fun b=>(cond b ((q21 a.X0).bind fun c=>some c) (some false)).bind fun d=>(cond d ((q21 a.X1).bind fun f=>some f) (some false)).bind fun g=>(cond g ((q21 a.Y0).bind fun h=>some h) (some false)).bind fun j=>(cond j ((q21 a.Y1).bind fun k=>some k) (some false)).bind fun l=>some l
noncomputable def q20 (a : ql) : Option Bool:=
  (q7j a).bind fun b=>some (!b)
def Zd (x : List ql) : List DV:=[.sl 4 (x.map Q7)]
structure qm where
  Lo : Int
  Hi : Int
  deriving DecidableEq
def Qu (x : qm) : List DV:=[.int .i64 x.Lo,.int .i64 x.Hi]
noncomputable def q27 (b : List qm) (c : qm→Option Bool) (a : Int) : Option ((Int) ⊕ ((Unit) ⊕ (Int))):=
  cond (decide (a < (b.length : Int))) ((idx b a).bind fun d=>(c d).bind fun f=>cond f (some (.inr (.inr a))) (some (.inl (w64 (a + 1))))) (some (.inr (.inl ())))
noncomputable def q7t (a : List qm) (b : qm→Option Bool) : Option Int:=
  (loop (q27 a b) 0 : Option ((Unit) ⊕ (Int))).bind fun c=>(match c with | .inl _=>some (-1) | .inr d=>some d)
noncomputable def q7q (a : List qm) (b : qm→Option Bool) : Option Bool:=
  (q7t a b).bind fun c=>some (decide (c ≥ 0))
noncomputable def q2e (a : qm) : Option Bool:=
  (cond (decide (a.Lo < a.Hi)) (some (decide (a.Lo ≥ (-1000000)))) (some false)).bind fun b=>(cond b (some (decide (a.Hi≤1000000))) (some false)).bind fun c=>some c
noncomputable def qao (a : qm) : Option Bool:=
  (q2e a).bind fun b=>some (!b)
def Ui (x : List qm) : List DV:=[.sl 2 (x.map Qu)]
structure qh where
  at_ : Int
  list_ : Int
  by_ : Int
  deriving DecidableEq
def Q1 (x : qh) : List DV:=[.int .i64 x.at_,.int .i64 x.list_,.int .i64 x.by_]
noncomputable def q8r (a : qh) (b : qh) : Option Int:=
  some (w64 (a.at_ - b.at_))
noncomputable def q82 (c : Int) (d : qh→qh→Option Int) (a : Int × List qh) : Option ((Int × List qh) ⊕ (List qh)):=
  (cond (decide (a.1 > c)) ((idx a.2 a.1).bind fun f=>(idx a.2 (w64 (a.1 - 1))).bind fun g=>(d f g).bind fun h=>some (decide (h < 0))) (some false)).bind fun j=>cond j ((idx a.2 (w64 (a.1 - 1))).bind fun b=>(idx a.2 a.1).bind fun k=>(idx a.2 a.1).bind fun _=>(idx (a.2.set a.1.toNat b) (w64 (a.1 - 1))).bind fun _=>some (.inl (w64 (a.1 - 1),(a.2.set a.1.toNat b).set (w64 (a.1 - 1)).toNat k))) (some (.inr a.2))
noncomputable def q81 (b : Int) (c : Int) (d : qh→qh→Option Int) (a : Int × List qh) : Option ((Int × List qh) ⊕ (List qh)):=
  cond (decide (a.1 < b)) (((loop (q82 c d) (a.1,a.2)).bind fun f=>some f).bind fun g=>some (.inl (w64 (a.1 + 1),g))) (some (.inr a.2))
noncomputable def q80 (b : qh→qh→Option Int) (c : List qh) (a : Int) (d : Int) : Option (List qh):=
  (loop (q81 d a b) (w64 (a + 1),c)).bind fun f=>some f
noncomputable def q8k (d : Int) (b : Int) (f : qh→qh→Option Int) (a : Int × List qh) : Option ((Int × List qh) ⊕ (List qh)):=
  cond (decide ((w64 ((w64 (2 * a.1)) + 1)) ≥ d)) (some (.inr a.2)) ((cond (decide ((w64 ((w64 ((w64 (2 * a.1)) + 1)) + 1)) < d)) ((idx a.2 (w64 (b + (w64 ((w64 (2 * a.1)) + 1))))).bind fun h=>(idx a.2 (w64 ((w64 (b + (w64 ((w64 (2 * a.1)) + 1)))) + 1))).bind fun j=>(f h j).bind fun k=>some (decide (k < 0))) (some false)).bind fun l=>(cond l (some (w64 ((w64 ((w64 (2 * a.1)) + 1)) + 1))) (some (w64 ((w64 (2 * a.1)) + 1)))).bind fun c=>(idx a.2 (w64 (b + a.1))).bind fun m=>(idx a.2 (w64 (b + c))).bind fun n=>(f m n).bind fun o=>cond (!(decide (o < 0))) (some (.inr a.2)) ((idx a.2 (w64 (b + c))).bind fun g=>(idx a.2 (w64 (b + a.1))).bind fun p=>(idx a.2 (w64 (b + a.1))).bind fun _=>(idx (a.2.set (w64 (b + a.1)).toNat g) (w64 (b + c))).bind fun _=>some (.inl (c,(a.2.set (w64 (b + a.1)).toNat g).set (w64 (b + c)).toNat p))))
noncomputable def q61 (a : qh→qh→Option Int) (b : List qh) (c : Int) (d : Int) (f : Int) : Option (List qh):=
  (loop (q8k d f a) (c,b)).bind fun g=>some g
noncomputable def q7y (d : qh→qh→Option Int) (f : Int) (b : Int) (a : Int × List qh) : Option ((Int × List qh) ⊕ (List qh)):=
  cond (decide (a.1 ≥ 0)) ((q61 d a.2 a.1 (w64 (f - b)) b).bind fun c=>(Qw c.length a.2.length).bind fun _=>some (.inl (w64 (a.1 - 1),c))) (some (.inr a.2))
noncomputable def q7z (b : Int) (g : qh→qh→Option Int) (a : Int × List qh) : Option ((Int × List qh) ⊕ (List qh)):=
  cond (decide (a.1 ≥ 0)) ((idx a.2 (w64 (b + a.1))).bind fun c=>(idx a.2 b).bind fun d=>(idx a.2 b).bind fun _=>(idx (a.2.set b.toNat c) (w64 (b + a.1))).bind fun _=>(q61 g ((a.2.set b.toNat c).set (w64 (b + a.1)).toNat d) 0 a.1 b).bind fun f=>(Qw f.length ((a.2.set b.toNat c).set (w64 (b + a.1)).toNat d).length).bind fun _=>some (.inl (w64 (a.1 - 1),f))) (some (.inr a.2))
noncomputable def q7x (c : qh→qh→Option Int) (d : List qh) (a : Int) (b : Int) : Option (List qh):=
  (loop (q7y c b a) (w64 (Int.tdiv (w64 ((w64 (b - a)) - 1)) 2),d)).bind fun f=>(loop (q7z a c) (w64 ((w64 (b - a)) - 1),f)).bind fun g=>some g
noncomputable def q3k (f : qh→qh→Option Int) (c : List qh) (a : Int) (b : Int) (d : Int) : Option (Int × Int × Int):=
  (idx c b).bind fun g=>(idx c a).bind fun h=>(f g h).bind fun j=>cond (decide (j < 0)) (some (b,a,w64 (d + 1))) (some (a,b,d))
noncomputable def q5h (a : qh→qh→Option Int) (b : List qh) (g : Int) (h : Int) (j : Int) (k : Int) : Option (Int × Int):=
  (q3k a b g h k).bind fun c=>(q3k a b c.2.1 j c.2.2).bind fun d=>(q3k a b c.1 d.1 d.2.2).bind fun f=>some (f.2.1,f.2.2)
noncomputable def q3i (c : qh→qh→Option Int) (d : List qh) (a : Int) (f : Int) : Option (Int × Int):=
  (q5h c d (w64 (a - 1)) a (w64 (a + 1)) f).bind fun b=>some (b.1,b.2)
noncomputable def q7w (d : List qh) (a : Int) (b : Int) (f : qh→qh→Option Int) : Option (Int × Int):=
  (cond (decide ((w64 (b - a)) ≥ 8)) ((cond (decide ((w64 (b - a)) ≥ 50)) ((q3i f d (w64 (a + (w64 ((w64 (Int.tdiv (w64 (b - a)) 4)) * 1)))) 0).bind fun h=>(q3i f d (w64 (a + (w64 ((w64 (Int.tdiv (w64 (b - a)) 4)) * 2)))) h.2).bind fun j=>(q3i f d (w64 (a + (w64 ((w64 (Int.tdiv (w64 (b - a)) 4)) * 3)))) j.2).bind fun k=>some (h.1,j.1,k.1,k.2)) (some (w64 (a + (w64 ((w64 (Int.tdiv (w64 (b - a)) 4)) * 1))),w64 (a + (w64 ((w64 (Int.tdiv (w64 (b - a)) 4)) * 2))),w64 (a + (w64 ((w64 (Int.tdiv (w64 (b - a)) 4)) * 3))),0))).bind fun g=>(q5h f d g.1 g.2.1 g.2.2.1 g.2.2.2).bind fun l=>some (l.1,l.2)) (some (w64 (a + (w64 ((w64 (Int.tdiv (w64 (b - a)) 4)) * 2))),0))).bind fun c=>cond (c.2 == 0) (some (c.1,1)) (cond (c.2 == 12) (some (c.1,2)) (some (c.1,0)))
noncomputable def q8i (a : Int × Int × List qh) : Option ((Int × Int × List qh) ⊕ (List qh)):=
  cond (decide (a.1 < a.2.1)) ((idx a.2.2 a.2.1).bind fun b=>(idx a.2.2 a.1).bind fun c=>(idx a.2.2 a.1).bind fun _=>(idx (a.2.2.set a.1.toNat b) a.2.1).bind fun _=>some (.inl (w64 (a.1 + 1),w64 (a.2.1 - 1),(a.2.2.set a.1.toNat b).set a.2.1.toNat c))) (some (.inr a.2.2))
noncomputable def q8h (f : qh→qh→Option Int) (a : List qh) (b : Int) (c : Int) : Option (List qh):=
  (loop q8i (b,w64 (c - 1),a)).bind fun d=>some d
noncomputable def q83 (c : Int) (b : Int × Int × List qh) (d : qh→qh→Option Int) (a : Int) : Option ((Int) ⊕ (Int)):=
  (cond (decide (a < c)) ((idx b.2.2 a).bind fun f=>(idx b.2.2 (w64 (a - 1))).bind fun g=>(d f g).bind fun h=>some (!(decide (h < 0)))) (some false)).bind fun j=>cond j (some (.inl (w64 (a + 1)))) (some (.inr a))
noncomputable def q84 (c : qh→qh→Option Int) (a : Int × List qh) : Option ((Int × List qh) ⊕ (List qh)):=
  cond (decide (a.1 ≥ 1)) ((idx a.2 a.1).bind fun d=>(idx a.2 (w64 (a.1 - 1))).bind fun f=>(c d f).bind fun g=>cond (!(decide (g < 0))) (some (.inr a.2)) ((idx a.2 (w64 (a.1 - 1))).bind fun b=>(idx a.2 a.1).bind fun h=>(idx a.2 a.1).bind fun _=>(idx (a.2.set a.1.toNat b) (w64 (a.1 - 1))).bind fun _=>some (.inl (w64 (a.1 - 1),(a.2.set a.1.toNat b).set (w64 (a.1 - 1)).toNat h)))) (some (.inr a.2))
noncomputable def q85 (d : Int) (f : qh→qh→Option Int) (b : Int) (a : Int × List qh) : Option ((Int × List qh) ⊕ (Int × List qh)):=
  cond (decide (a.1 < d)) ((idx a.2 a.1).bind fun g=>(idx a.2 (w64 (a.1 - 1))).bind fun h=>(f g h).bind fun j=>cond (!(decide (j < 0))) (some (.inr (b,a.2))) ((idx a.2 (w64 (a.1 - 1))).bind fun c=>(idx a.2 a.1).bind fun k=>(idx a.2 a.1).bind fun _=>(idx (a.2.set a.1.toNat c) (w64 (a.1 - 1))).bind fun _=>some (.inl (w64 (a.1 + 1),(a.2.set a.1.toNat c).set (w64 (a.1 - 1)).toNat k)))) (some (.inr (b,a.2)))
noncomputable def q5j (c : Int) (d : qh→qh→Option Int) (h : Int) (b : Int × Int × List qh) : Option ((Int × Int × List qh) ⊕ ((List qh) ⊕ (Bool × List qh))):=
  cond (decide (b.2.1 < 5)) (((loop (q83 c b d) b.1).bind fun a=>cond (a == c) (some (.inr (true,b.2.2))) (cond (decide ((w64 (c - h)) < 50)) (some (.inr (false,b.2.2))) ((idx b.2.2 (w64 (a - 1))).bind fun f=>(idx b.2.2 a).bind fun j=>(idx b.2.2 a).bind fun _=>(idx (b.2.2.set a.toNat f) (w64 (a - 1))).bind fun _=>(cond (decide ((w64 (a - h)) ≥ 2)) ((loop (q84 d) (w64 (a - 1),(b.2.2.set a.toNat f).set (w64 (a - 1)).toNat j)).bind fun g=>some g) (some ((b.2.2.set a.toNat f).set (w64 (a - 1)).toNat j))).bind fun k=>cond (decide ((w64 (c - a)) ≥ 2)) ((loop (q85 c d a) (w64 (a + 1),k)).bind fun g=>some (.inl g)) (some (.inl (a,k))))) : Option ((Int × List qh) ⊕ (Bool × List qh))).bind fun m=>(match m with | .inl l=>some (.inl (l.1,w64 (b.2.1 + 1),l.2)) | .inr n=>some (.inr (.inr n)))) (some (.inr (.inl b.2.2)))
noncomputable def q5i (b : qh→qh→Option Int) (c : List qh) (a : Int) (d : Int) : Option (Bool × List qh):=
  (loop (q5j d b a) (w64 (a + 1),0,c) : Option ((List qh) ⊕ (Bool × List qh))).bind fun f=>(match f with | .inl g=>some (false,g) | .inr h=>some h)
noncomputable def q8f (b : Int × Int × List qh) (c : Int) (d : qh→qh→Option Int) (a : Int) : Option ((Int) ⊕ (Int)):=
  (cond (decide (a≤b.2.1)) ((idx b.2.2 c).bind fun f=>(idx b.2.2 a).bind fun g=>(d f g).bind fun h=>some (!(decide (h < 0)))) (some false)).bind fun j=>cond j (some (.inl (w64 (a + 1)))) (some (.inr a))
noncomputable def q8g (c : Int) (b : Int × Int × List qh) (d : Int) (f : qh→qh→Option Int) (a : Int) : Option ((Int) ⊕ (Int)):=
  (cond (decide (c≤a)) ((idx b.2.2 d).bind fun g=>(idx b.2.2 a).bind fun h=>(f g h).bind fun j=>some (decide (j < 0))) (some false)).bind fun k=>cond k (some (.inl (w64 (a - 1)))) (some (.inr a))
noncomputable def q8e (d : Int) (f : qh→qh→Option Int) (a : Int × Int × List qh) : Option ((Int × Int × List qh) ⊕ (Int × List qh)):=
  (loop (q8f a d f) a.1).bind fun b=>(loop (q8g b a d f) a.2.1).bind fun c=>cond (decide (b > c)) (some (.inr (b,a.2.2))) ((idx a.2.2 c).bind fun g=>(idx a.2.2 b).bind fun h=>(idx a.2.2 b).bind fun _=>(idx (a.2.2.set b.toNat g) c).bind fun _=>some (.inl (w64 (b + 1),w64 (c - 1),(a.2.2.set b.toNat g).set c.toNat h)))
noncomputable def q8d (g : qh→qh→Option Int) (b : List qh) (a : Int) (h : Int) (c : Int) : Option (Int × List qh):=
  (idx b c).bind fun d=>(idx b a).bind fun j=>(idx b a).bind fun _=>(idx (b.set a.toNat d) c).bind fun _=>(loop (q8e a g) (w64 (a + 1),w64 (h - 1),(b.set a.toNat d).set c.toNat j)).bind fun f=>some (f.1,f.2)
noncomputable def q88 (h : Int) (c : List qh) (b : Int) (d : qh) (f : Int) (g : qh) (j : qh→qh→Option Int) (a : Int) : Option ((Int) ⊕ (Int)):=
  (cond (decide (a≤(w64 (h - 1)))) ((idx ((c.set b.toNat d).set f.toNat g) a).bind fun k=>(idx ((c.set b.toNat d).set f.toNat g) b).bind fun l=>(j k l).bind fun m=>some (decide (m < 0))) (some false)).bind fun n=>cond n (some (.inl (w64 (a + 1)))) (some (.inr a))
noncomputable def q89 (h : Int) (c : List qh) (b : Int) (d : qh) (f : Int) (g : qh) (j : qh→qh→Option Int) (a : Int) : Option ((Int) ⊕ (Int)):=
  (cond (decide (h≤a)) ((idx ((c.set b.toNat d).set f.toNat g) a).bind fun k=>(idx ((c.set b.toNat d).set f.toNat g) b).bind fun l=>(j k l).bind fun m=>some (!(decide (m < 0)))) (some false)).bind fun n=>cond n (some (.inl (w64 (a - 1)))) (some (.inr a))
noncomputable def q8b (b : Int × Int × List qh) (c : Int) (d : qh→qh→Option Int) (a : Int) : Option ((Int) ⊕ (Int)):=
  (cond (decide (a≤b.2.1)) ((idx b.2.2 a).bind fun f=>(idx b.2.2 c).bind fun g=>(d f g).bind fun h=>some (decide (h < 0))) (some false)).bind fun j=>cond j (some (.inl (w64 (a + 1)))) (some (.inr a))
noncomputable def q8c (c : Int) (b : Int × Int × List qh) (d : Int) (f : qh→qh→Option Int) (a : Int) : Option ((Int) ⊕ (Int)):=
  (cond (decide (c≤a)) ((idx b.2.2 a).bind fun g=>(idx b.2.2 d).bind fun h=>(f g h).bind fun j=>some (!(decide (j < 0)))) (some false)).bind fun k=>cond k (some (.inl (w64 (a - 1)))) (some (.inr a))
noncomputable def q8a (d : Int) (f : qh→qh→Option Int) (a : Int × Int × List qh) : Option ((Int × Int × List qh) ⊕ (Int × List qh)):=
  (loop (q8b a d f) a.1).bind fun b=>(loop (q8c b a d f) a.2.1).bind fun c=>cond (decide (b > c)) (some (.inr (c,a.2.2))) ((idx a.2.2 c).bind fun g=>(idx a.2.2 b).bind fun h=>(idx a.2.2 b).bind fun _=>(idx (a.2.2.set b.toNat g) c).bind fun _=>some (.inl (w64 (b + 1),w64 (c - 1),(a.2.2.set b.toNat g).set c.toNat h)))
noncomputable def q87 (k : qh→qh→Option Int) (b : List qh) (a : Int) (l : Int) (c : Int) : Option (Int × Bool × List qh):=
  (idx b c).bind fun d=>(idx b a).bind fun f=>(idx b a).bind fun _=>(idx (b.set a.toNat d) c).bind fun _=>(loop (q88 l b a d c f k) (w64 (a + 1))).bind fun j=>(loop (q89 j b a d c f k) (w64 (l - 1))).bind fun g=>cond (decide (j > g)) ((idx ((b.set a.toNat d).set c.toNat f) a).bind fun m=>(idx ((b.set a.toNat d).set c.toNat f) g).bind fun p=>(idx ((b.set a.toNat d).set c.toNat f) g).bind fun _=>(idx (((b.set a.toNat d).set c.toNat f).set g.toNat m) a).bind fun _=>some (g,true,(((b.set a.toNat d).set c.toNat f).set g.toNat m).set a.toNat p)) ((idx ((b.set a.toNat d).set c.toNat f) g).bind fun n=>(idx ((b.set a.toNat d).set c.toNat f) j).bind fun q=>(idx ((b.set a.toNat d).set c.toNat f) j).bind fun _=>(idx (((b.set a.toNat d).set c.toNat f).set j.toNat n) g).bind fun _=>(loop (q8a a k) (w64 (j + 1),w64 (g - 1),(((b.set a.toNat d).set c.toNat f).set j.toNat n).set g.toNat q)).bind fun h=>(idx h.2 a).bind fun o=>(idx h.2 h.1).bind fun r=>(idx h.2 h.1).bind fun _=>(idx (h.2.set h.1.toNat o) a).bind fun _=>some (h.1,false,(h.2.set h.1.toNat o).set a.toNat r))
noncomputable def q7v (b : Int) (d : Int) (f : Int) (a : Int × List qh × Int) : Option ((Int × List qh × Int) ⊕ (List qh)):=
  cond (decide (a.1≤(w64 ((w64 (b + (w64 ((w64 (Int.tdiv (w64 (d - b)) 4)) * 2)))) + 1)))) ((q18 a.2.2).bind fun c=>(cond (decide ((w64 (andI .u64 c (IntKind.wrap .u64 (f - 1)))) ≥ (w64 (d - b)))) (some (w64 ((w64 (andI .u64 c (IntKind.wrap .u64 (f - 1)))) - (w64 (d - b))))) (some (w64 (andI .u64 c (IntKind.wrap .u64 (f - 1)))))).bind fun g=>(idx a.2.1 (w64 (b + g))).bind fun h=>(idx a.2.1 a.1).bind fun j=>(idx a.2.1 a.1).bind fun _=>(idx (a.2.1.set a.1.toNat h) (w64 (b + g))).bind fun _=>some (.inl (w64 (a.1 + 1),(a.2.1.set a.1.toNat h).set (w64 (b + g)).toNat j,c))) (some (.inr a.2.1))
noncomputable def q7u (g : qh→qh→Option Int) (c : List qh) (a : Int) (b : Int) : Option (List qh):=
  cond (decide ((w64 (b - a)) ≥ 8)) ((q17 (w64 (b - a))).bind fun d=>(loop (q7v a b d) (w64 ((w64 (a + (w64 ((w64 (Int.tdiv (w64 (b - a)) 4)) * 2)))) - 1),c,IntKind.wrap .u64 (w64 (b - a)))).bind fun f=>some f) (some c)
noncomputable def q5x (c : qh→qh→Option Int) (rec : List qh→Int→Int→Int→Option (List qh)) (a : Int × Int × Int × Bool × Bool × List qh) : Option ((Int × Int × Int × Bool × Bool × List qh) ⊕ (List qh)):=
  cond (decide ((w64 (a.2.1 - a.1))≤12)) ((q80 c a.2.2.2.2.2 a.1 a.2.1).bind fun l=>(Qw l.length a.2.2.2.2.2.length).bind fun _=>some (.inr l)) (cond (a.2.2.1 == 0) ((q7x c a.2.2.2.2.2 a.1 a.2.1).bind fun m=>(Qw m.length a.2.2.2.2.2.length).bind fun _=>some (.inr m)) ((cond (!a.2.2.2.1) ((q7u c a.2.2.2.2.2 a.1 a.2.1).bind fun n=>(Qw n.length a.2.2.2.2.2.length).bind fun _=>some (w64 (a.2.2.1 - 1),n)) (some (a.2.2.1,a.2.2.2.2.2))).bind fun d=>(q7w d.2 a.1 a.2.1 c).bind fun h=>(cond (h.2 == 2) ((q8h c d.2 a.1 a.2.1).bind fun o=>(Qw o.length d.2.length).bind fun _=>some (w64 ((w64 (a.2.1 - 1)) - (w64 (h.1 - a.1))),1,o)) (some (h.1,h.2,d.2))).bind fun f=>(cond a.2.2.2.1 (some a.2.2.2.2.1) (some false)).bind fun r=>(cond r (some (f.2.1 == 1)) (some false)).bind fun s=>(cond s ((q5i c f.2.2 a.1 a.2.1).bind fun j=>(Qw j.2.length f.2.2.length).bind fun _=>cond j.1 (some (.inr j.2)) (some (.inl j.2))) (some (.inl f.2.2)) : Option ((List qh) ⊕ (List qh))).bind fun t=>(match t with | .inl g=>(cond (decide (a.1 > 0)) ((idx g (w64 (a.1 - 1))).bind fun u=>(idx g f.1).bind fun v=>(c u v).bind fun w=>some (!(decide (w < 0)))) (some false)).bind fun x=>cond x ((q8d c g a.1 a.2.1 f.1).bind fun k=>(Qw k.2.length g.length).bind fun _=>some (.inl (k.1,a.2.1,d.1,a.2.2.2.1,a.2.2.2.2.1,k.2))) ((q87 c g a.1 a.2.1 f.1).bind fun b=>(Qw b.2.2.length g.length).bind fun _=>cond (decide ((w64 (b.1 - a.1)) < (w64 (a.2.1 - b.1)))) ((rec b.2.2 a.1 b.1 d.1).bind fun p=>(Qw p.length b.2.2.length).bind fun _=>some (.inl (w64 (b.1 + 1),a.2.1,d.1,decide ((w64 (b.1 - a.1)) ≥ (w64 (Int.tdiv (w64 (a.2.1 - a.1)) 8))),b.2.1,p))) ((rec b.2.2 (w64 (b.1 + 1)) a.2.1 d.1).bind fun q=>(Qw q.length b.2.2.length).bind fun _=>some (.inl (a.1,b.1,d.1,decide ((w64 (a.2.1 - b.1)) ≥ (w64 (Int.tdiv (w64 (a.2.1 - a.1)) 8))),b.2.1,q)))) | .inr y=>some (.inr y))))
noncomputable def q5y (rec : List qh→Int→Int→Int→Option (List qh)) (a : qh→qh→Option Int) (b : List qh) (c : Int) (d : Int) (f : Int) : Option (List qh):=
  (loop (q5x a rec) (c,d,f,true,true,b)).bind fun g=>some g
noncomputable def q5w : Nat→(qh→qh→Option Int)→List qh→Int→Int→Int→Option (List qh)
  | 0,_,_,_,_,_=>none
  | n + 1,a,b,c,d,f=>q5y (q5w n a) a b c d f
noncomputable def q57 (c : qh→qh→Option Int) (a : List qh) : Option (List qh):=
  (U4 (IntKind.wrap .u64 (a.length : Int))).bind fun d=>(lim (fun n=>q5w n c a 0 (a.length : Int) d)).bind fun b=>(Qw b.length a.length).bind fun _=>some b
noncomputable def qal (a : List qh) : Option (List qh):=
  some a
noncomputable def q3v (b : List qm) (c : Int × List qh) (a : Int × List qh) : Option ((Int × List qh) ⊕ (List qh)):=
  cond (decide (a.1 < (b.length : Int))) ((idx b a.1).bind fun d=>(app 24 a.2 [({at_:=d.Lo,list_:=c.1,by_:=1} : qh),({at_:=d.Hi,list_:=c.1,by_:=(-1)} : qh)]).bind fun f=>some (.inl (w64 (a.1 + 1),f))) (some (.inr a.2))
noncomputable def Uc (b : List (List qm)) (a : Int × List qh) : Option ((Int × List qh) ⊕ (List qh)):=
  cond (decide (a.1 < (b.length : Int))) (((idx b a.1).bind fun c=>(loop (q3v c a) (0,a.2)).bind fun d=>some d).bind fun f=>some (.inl (w64 (a.1 + 1),f))) (some (.inr a.2))
noncomputable def q8s (b : List (List qm)) : Option (List (List qm) × List qh):=
  (loop (Uc b) (0,[])).bind fun c=>(q57 (fun f g=>q8r f g) c).bind fun a=>(Qw a.length c.length).bind fun _=>(qal a).bind fun d=>(Qw d.length a.length).bind fun _=>some (b,d)
noncomputable def q8t (d : Int) (c : Bool) (b : Int) (a : List qm) : Option (Bool × Int × List qm):=
  (cond (!c) (some true) (some (b == d))).bind fun f=>cond f (some (c,b,a)) ((cond (decide ((a.length : Int) > 0)) ((idx a (w64 ((a.length : Int) - 1))).bind fun g=>some (g.Hi == b)) (some false)).bind fun h=>cond h ((idx a (w64 ((a.length : Int) - 1))).bind fun j=>some (c,b,a.set (w64 ((a.length : Int) - 1)).toNat ({Lo:=j.Lo,Hi:=d} : qm))) ((app 16 a [({Lo:=b,Hi:=d} : qm)]).bind fun k=>some (c,b,k)))
noncomputable def q3w (f : List (List qm) × List qh) (g : Bool→Bool→Option Bool) (a : Int × List Int × Int × Bool × List qm) : Option ((Int × List Int × Int × Bool × List qm) ⊕ (List qm)):=
  cond (decide (a.1 < (f.2.length : Int))) ((idx f.2 a.1).bind fun b=>((q8t b.at_ a.2.2.2.1 a.2.2.1 a.2.2.2.2).bind fun h=>(idxA 2 a.2.1 b.list_).bind fun c=>(idxA 2 a.2.1 b.list_).bind fun _=>(idxA 2 (a.2.1.set b.list_.toNat (w64 (c + b.by_))) 0).bind fun j=>(idxA 2 (a.2.1.set b.list_.toNat (w64 (c + b.by_))) 1).bind fun k=>(g (decide (j > 0)) (decide (k > 0))).bind fun l=>some (a.2.1.set b.list_.toNat (w64 (c + b.by_)),l,h.2.2)).bind fun d=>some (.inl (w64 (a.1 + 1),d.1,b.at_,d.2.1,d.2.2))) (some (.inr a.2.2.2.2))
noncomputable def q6a (a : List qm) (b : List qm) (d : Bool→Bool→Option Bool) : Option (List qm):=
  (q8s [a,b]).bind fun c=>(Qw c.1.length [a,b].length).bind fun _=>((loop (q3w c d) (0,[0,0],0,false,[])).bind fun f=>some f).bind fun g=>some g
noncomputable def q8q (a : Bool) (b : Bool) : Option Bool:=
  some a
noncomputable def q69 (a : List qm) : Option (List qm × Int):=
  cond (decide ((a.length : Int) > 400)) (some ([],4)) ((q7q a (fun b=>qao b)).bind fun c=>cond c (some ([],8)) ((q6a a [] (fun b d=>q8q b d)).bind fun f=>some (f,0)))
noncomputable def qah (b : List qm) (f : List qm) (a : Int) : Option ((Int) ⊕ ((Unit) ⊕ (Bool))):=
  cond (decide (a < (b.length : Int))) ((idx b a).bind fun c=>(idx f a).bind fun d=>cond (!((c.Lo == d.Lo) && ((c.Hi == d.Hi) && true))) (some (.inr (.inr false))) (some (.inl (w64 (a + 1))))) (some (.inr (.inl ())))
noncomputable def q7s (a : List qm) (b : List qm) : Option Bool:=
  cond ((a.length : Int) != (b.length : Int)) (some false) ((loop (qah a b) 0 : Option ((Unit) ⊕ (Bool))).bind fun c=>(match c with | .inl _=>some true | .inr d=>some d))
noncomputable def q51 (c : Int) (a : Int × List ql) : Option ((Int × List ql) ⊕ (List ql)):=
  cond (decide (a.1 < (a.2.length : Int))) ((idx a.2 a.1).bind fun b=>some (.inl (w64 (a.1 + 1),a.2.set a.1.toNat ({X0:=b.X0,Y0:=b.Y0,X1:=c,Y1:=b.Y1} : ql)))) (some (.inr a.2))
noncomputable def q52 (b : List qm) (f : Int) (c : Int) (g : List ql) (a : Int × List ql) : Option ((Int × List ql) ⊕ (List qm × Int × Int × List ql)):=
  cond (decide (a.1 < (b.length : Int))) ((idx b a.1).bind fun d=>(app 32 a.2 [({X0:=f,Y0:=d.Lo,X1:=c,Y1:=d.Hi} : ql)]).bind fun h=>some (.inl (w64 (a.1 + 1),h))) (some (.inr (b,(g.length : Int),c,a.2)))
noncomputable def q7h (a : List ql) (d : List qm) (f : Int) (h : Int) (g : Int) (b : Int) (c : List qm) : Option (List qm × Int × Int × List ql):=
  (cond (decide ((c.length : Int) > 0)) (some (h == g)) (some false)).bind fun j=>(cond j ((q7s d c).bind fun k=>some k) (some false)).bind fun l=>cond l ((loop (q51 b) (f,a)).bind fun m=>some (d,f,b,m)) ((loop (q52 c g b a) (0,a)).bind fun n=>some n)
noncomputable def q22 (b : List ql) (a : Int × List Int) : Option ((Int × List Int) ⊕ (List Int)):=
  cond (decide (a.1 < (b.length : Int))) ((idx b a.1).bind fun c=>(app 8 a.2 [c.X0,c.X1]).bind fun d=>some (.inl (w64 (a.1 + 1),d))) (some (.inr a.2))
noncomputable def q3d (c : List ql) (d : Int) (a : Int × List qm) : Option ((Int × List qm) ⊕ (List qm)):=
  cond (decide (a.1 < (c.length : Int))) (((idx c a.1).bind fun b=>(cond (decide (b.X0≤d)) (some (decide (d < b.X1))) (some false)).bind fun f=>cond f ((app 16 a.2 [({Lo:=b.Y0,Hi:=b.Y1} : qm)]).bind fun g=>some g) (some a.2)).bind fun h=>some (.inl (w64 (a.1 + 1),h))) (some (.inr a.2))
noncomputable def q23 (d : List Int) (g : List ql) (a : Int × List qm × Int × Int × List ql) : Option ((Int × List qm × Int × Int × List ql) ⊕ (List qm × Int × Int × List ql)):=
  cond (decide (a.1 < (d.length : Int))) ((idx d (w64 (a.1 - 1))).bind fun f=>(idx d a.1).bind fun h=>((idx [g] 0).bind fun j=>(loop (q3d j f) (0,[])).bind fun k=>some k).bind fun l=>((q69 l).bind fun m=>(q7h a.2.2.2.2 a.2.1 a.2.2.1 a.2.2.2.1 f h m.1).bind fun b=>some (b.1,b.2.1,b.2.2.1,b.2.2.2)).bind fun c=>some (.inl (w64 (a.1 + 1),c.1,c.2.1,c.2.2.1,c.2.2.2))) (some (.inr (a.2.1,a.2.2.1,a.2.2.2.1,a.2.2.2.2)))
noncomputable def q7i (d : List ql) : Option (List ql × Int):=
  (((idx [d] 0).bind fun j=>(loop (q22 j) (0,[])).bind fun b=>some b).bind fun f=>(Ub f).bind fun c=>(Qw c.length f.length).bind fun _=>(q26 c).bind fun a=>(Qw a.2.length c.length).bind fun _=>(q2f a.2.length a.1).bind fun _=>some ((a.2.drop a.1.1).take a.1.2)).bind fun k=>((loop (q23 k d) (1,[],0,0,[])).bind fun b=>some b).bind fun g=>(cond (decide ((g.2.2.2.length : Int) > 400)) (some (4,[])) (some (0,g.2.2.2))).bind fun h=>some (h.2,h.1)
noncomputable def q50 (a : List ql) : Option (List ql × Int):=
  cond (decide ((a.length : Int) > 400)) (some ([],4)) ((q7o a (fun c=>q20 c)).bind fun d=>cond d (some ([],8)) ((q7i a).bind fun b=>some (b.1,b.2)))
noncomputable def qaf (d : List ql) (f : List ql) (a : Int) : Option ((Int) ⊕ ((Unit) ⊕ (Bool))):=
  cond (decide (a < (d.length : Int))) ((idx d a).bind fun b=>(idx f a).bind fun c=>cond (!((b.X0 == c.X0) && ((b.Y0 == c.Y0) && ((b.X1 == c.X1) && ((b.Y1 == c.Y1) && true))))) (some (.inr (.inr false))) (some (.inl (w64 (a + 1))))) (some (.inr (.inl ())))
noncomputable def q7r (a : List ql) (b : List ql) : Option Bool:=
  cond ((a.length : Int) != (b.length : Int)) (some false) ((loop (qaf a b) 0 : Option ((Unit) ⊕ (Bool))).bind fun c=>(match c with | .inl _=>some true | .inr d=>some d))
noncomputable def q63 (c : Int) (a : Int × List qf) : Option ((Int × List qf) ⊕ (List qf)):=
  cond (decide (a.1 < (a.2.length : Int))) ((idx a.2 a.1).bind fun b=>some (.inl (w64 (a.1 + 1),a.2.set a.1.toNat ({Lo:=b.Lo,Hi:=({X:=b.Hi.X,Y:=b.Hi.Y,Z:=c} : Qe)} : qf)))) (some (.inr a.2))
noncomputable def q64 (c : List ql) (f : Int) (d : Int) (g : List qf) (a : Int × List qf) : Option ((Int × List qf) ⊕ (List ql × Int × Int × List qf)):=
  cond (decide (a.1 < (c.length : Int))) ((idx c a.1).bind fun b=>(app 48 a.2 [({Lo:=({X:=b.X0,Y:=b.Y0,Z:=f} : Qe),Hi:=({X:=b.X1,Y:=b.Y1,Z:=d} : Qe)} : qf)]).bind fun h=>some (.inl (w64 (a.1 + 1),h))) (some (.inr (c,(g.length : Int),d,a.2)))
noncomputable def q8o (a : List qf) (d : List ql) (f : Int) (h : Int) (g : Int) (b : Int) (c : List ql) : Option (List ql × Int × Int × List qf):=
  (cond (decide ((c.length : Int) > 0)) (some (h == g)) (some false)).bind fun j=>(cond j ((q7r d c).bind fun k=>some k) (some false)).bind fun l=>cond l ((loop (q63 b) (f,a)).bind fun m=>some (d,f,b,m)) ((loop (q64 c g b a) (0,a)).bind fun n=>some n)
noncomputable def q3r (b : List qf) (a : Int × List Int) : Option ((Int × List Int) ⊕ (List Int)):=
  cond (decide (a.1 < (b.length : Int))) ((idx b a.1).bind fun c=>(app 8 a.2 [c.Lo.Z,c.Hi.Z]).bind fun d=>some (.inl (w64 (a.1 + 1),d))) (some (.inr a.2))
noncomputable def q3t (c : List qf) (d : Int) (a : Int × List ql) : Option ((Int × List ql) ⊕ (List ql)):=
  cond (decide (a.1 < (c.length : Int))) (((idx c a.1).bind fun b=>(cond (decide (b.Lo.Z≤d)) (some (decide (d < b.Hi.Z))) (some false)).bind fun f=>cond f ((app 32 a.2 [({X0:=b.Lo.X,Y0:=b.Lo.Y,X1:=b.Hi.X,Y1:=b.Hi.Y} : ql)]).bind fun g=>some g) (some a.2)).bind fun h=>some (.inl (w64 (a.1 + 1),h))) (some (.inr a.2))
noncomputable def q3s (d : List Int) (h : List qf) (a : Int × List ql × Int × Int × List qf) : Option ((Int × List ql × Int × Int × List qf) ⊕ ((List ql × Int × Int × List qf) ⊕ (List qf × Int))):=
  cond (decide (a.1 < (d.length : Int))) ((idx d (w64 (a.1 - 1))).bind fun g=>(idx d a.1).bind fun j=>((idx [h] 0).bind fun k=>(loop (q3t k g) (0,[])).bind fun l=>some l).bind fun m=>((q50 m).bind fun f=>cond (f.2 != 0) (some (.inr ([],f.2))) ((q8o a.2.2.2.2 a.2.1 a.2.2.1 a.2.2.2.1 g j f.1).bind fun b=>some (.inl (b.1,b.2.1,b.2.2.1,b.2.2.2))) : Option ((List ql × Int × Int × List qf) ⊕ (List qf × Int))).bind fun n=>(match n with | .inl c=>some (.inl (w64 (a.1 + 1),c.1,c.2.1,c.2.2.1,c.2.2.2)) | .inr o=>some (.inr (.inr o)))) (some (.inr (.inl (a.2.1,a.2.2.1,a.2.2.2.1,a.2.2.2.2))))
noncomputable def q68 (f : List qf) : Option (List qf × Int):=
  (((idx [f] 0).bind fun j=>(loop (q3r j) (0,[])).bind fun b=>some b).bind fun g=>(Ub g).bind fun c=>(Qw c.length g.length).bind fun _=>(q26 c).bind fun a=>(Qw a.2.length c.length).bind fun _=>(q2f a.2.length a.1).bind fun _=>some ((a.2.drop a.1.1).take a.1.2)).bind fun k=>((loop (q3s k f) (1,[],0,0,[]) : Option ((List ql × Int × Int × List qf) ⊕ (List qf × Int))).bind fun l=>(match l with | .inl b=>some (.inl b) | .inr d=>some (.inr d)) : Option ((List ql × Int × Int × List qf) ⊕ (List qf × Int))).bind fun m=>(match m with | .inl h=>cond (decide ((h.2.2.2.length : Int) > 400)) (some ([],4)) (some (h.2.2.2,0)) | .inr d=>some d)
noncomputable def qdm (d : List qf) (f : List qf) (c : Int) : Option ((Int) ⊕ ((Unit) ⊕ (Bool))):=
  cond (decide (c < (d.length : Int))) ((idx d c).bind fun a=>(idx f c).bind fun b=>cond (!((a.Lo.X == b.Lo.X) && ((a.Lo.Y == b.Lo.Y) && ((a.Lo.Z == b.Lo.Z) && ((a.Hi.X == b.Hi.X) && ((a.Hi.Y == b.Hi.Y) && ((a.Hi.Z == b.Hi.Z) && true))))))) (some (.inr (.inr false))) (some (.inl (w64 (c + 1))))) (some (.inr (.inl ())))
noncomputable def qag (a : List qf) (b : List qf) : Option Bool:=
  cond ((a.length : Int) != (b.length : Int)) (some false) ((loop (qdm a b) 0 : Option ((Unit) ⊕ (Bool))).bind fun c=>(match c with | .inl _=>some true | .inr d=>some d))
noncomputable def q8l (a : List qf) : Option Int:=
  cond (decide ((a.length : Int) > 400)) (some 4) ((q7p a (fun c=>q2a c)).bind fun d=>cond d (some 8) ((q68 a).bind fun b=>(cond (b.2 != 0) (some true) ((qag b.1 a).bind fun f=>some (!f))).bind fun g=>cond g (some 8) (some 0)))
noncomputable def q65 (a : qf) (b : qf) : Option Int:=
  (cond ((w64 ((min a.Hi.X b.Hi.X) - (max a.Lo.X b.Lo.X))) == 0) (some (decide ((w64 ((min a.Hi.Y b.Hi.Y) - (max a.Lo.Y b.Lo.Y))) > 0))) (some false)).bind fun c=>(cond c (some (decide ((w64 ((min a.Hi.Z b.Hi.Z) - (max a.Lo.Z b.Lo.Z))) > 0))) (some false)).bind fun d=>cond d (some (w64 ((w64 ((min a.Hi.Y b.Hi.Y) - (max a.Lo.Y b.Lo.Y))) * (w64 ((min a.Hi.Z b.Hi.Z) - (max a.Lo.Z b.Lo.Z)))))) ((cond (decide ((w64 ((min a.Hi.X b.Hi.X) - (max a.Lo.X b.Lo.X))) > 0)) (some ((w64 ((min a.Hi.Y b.Hi.Y) - (max a.Lo.Y b.Lo.Y))) == 0)) (some false)).bind fun f=>(cond f (some (decide ((w64 ((min a.Hi.Z b.Hi.Z) - (max a.Lo.Z b.Lo.Z))) > 0))) (some false)).bind fun g=>cond g (some (w64 ((w64 ((min a.Hi.X b.Hi.X) - (max a.Lo.X b.Lo.X))) * (w64 ((min a.Hi.Z b.Hi.Z) - (max a.Lo.Z b.Lo.Z)))))) ((cond (decide ((w64 ((min a.Hi.X b.Hi.X) - (max a.Lo.X b.Lo.X))) > 0)) (some (decide ((w64 ((min a.Hi.Y b.Hi.Y) - (max a.Lo.Y b.Lo.Y))) > 0))) (some false)).bind fun h=>(cond h (some ((w64 ((min a.Hi.Z b.Hi.Z) - (max a.Lo.Z b.Lo.Z))) == 0)) (some false)).bind fun j=>cond j (some (w64 ((w64 ((min a.Hi.X b.Hi.X) - (max a.Lo.X b.Lo.X))) * (w64 ((min a.Hi.Y b.Hi.Y) - (max a.Lo.Y b.Lo.Y)))))) (some 0)))
noncomputable def q3f (b : List qf) (c : qf→Option Bool) (a : Int) : Option ((Int) ⊕ ((Unit) ⊕ (Int))):=
  cond (decide (a < (b.length : Int))) ((idx b a).bind fun d=>(c d).bind fun f=>cond f (some (.inr (.inr a))) (some (.inl (w64 (a + 1))))) (some (.inr (.inl ())))
noncomputable def qai (a : List qf) (b : qf→Option Bool) : Option Int:=
  (loop (q3f a b) 0 : Option ((Unit) ⊕ (Int))).bind fun c=>(match c with | .inl _=>some (-1) | .inr d=>some d)
noncomputable def q7n (a : List qf) (b : qf→Option Bool) : Option Bool:=
  (qai a b).bind fun c=>some (decide (c ≥ 0))
noncomputable def q2b (a : qf) : Option Bool:=
  (q67 a).bind fun b=>some (!b)
noncomputable def q8m (a : List qf) : Option (List qf × Int):=
  cond (decide ((a.length : Int) > 400)) (some ([],4)) ((q7n a (fun c=>q2b c)).bind fun d=>cond d (some ([],8)) ((q68 a).bind fun b=>some (b.1,b.2)))
noncomputable def q3q (b : List qf) (a : Int × (List (Int × Bool))) : Option ((Int × (List (Int × Bool))) ⊕ ((List (Int × Bool)))):=
  cond (decide (a.1 < (b.length : Int))) (some (.inl (w64 (a.1 + 1),Yy a.1 true a.2))) (some (.inr a.2))
noncomputable def q19 (b : List qf) (d : Int × (List (Int × Bool)) × List qf) (a : Int × (List (Int × Bool)) × List qf) : Option ((Int × (List (Int × Bool)) × List qf) ⊕ ((List (Int × Bool)) × List qf)):=
  cond (decide (a.1 < (b.length : Int))) (((cond (Y2 false a.1 a.2.1) ((idx a.2.2 d.1).bind fun f=>(idx b a.1).bind fun g=>(q65 f g).bind fun h=>some (decide (h > 0))) (some false)).bind fun j=>cond j ((idx b a.1).bind fun k=>(app 48 a.2.2 [k]).bind fun l=>some (Yg a.1 a.2.1,l)) (some (a.2.1,a.2.2))).bind fun c=>some (.inl (w64 (a.1 + 1),c.1,c.2))) (some (.inr (a.2.1,a.2.2)))
noncomputable def q2d (c : List qf) (a : Int × (List (Int × Bool)) × List qf) : Option ((Int × (List (Int × Bool)) × List qf) ⊕ ((List (Int × Bool)) × List qf)):=
  cond (decide (a.1 < (a.2.2.length : Int))) (((loop (q19 c a) (0,a.2.1,a.2.2)).bind fun d=>some d).bind fun b=>some (.inl (w64 (a.1 + 1),b.1,b.2))) (some (.inr (a.2.1,a.2.2)))
noncomputable def q2c (b : List qf) (a : Int × (List (Int × Bool)) × List (List qf)) : Option ((Int × (List (Int × Bool)) × List (List qf)) ⊕ (List (List qf))):=
  cond (decide (a.1 < (b.length : Int))) ((cond (!(Y2 false a.1 a.2.1)) (some (a.2.1,a.2.2)) ((idx b a.1).bind fun f=>(loop (q2d b) (0,Yg a.1 a.2.1,[f])).bind fun c=>(q8m c.2).bind fun g=>(app 24 a.2.2 [g.1]).bind fun h=>some (c.1,h))).bind fun d=>some (.inl (w64 (a.1 + 1),d.1,d.2))) (some (.inr a.2.2))
noncomputable def q8n (a : List qf) : Option (List (List qf) × Int):=
  (q8l a).bind fun b=>cond (b != 0) (some ([],b)) ((loop (q3q a) (0,[])).bind fun c=>(loop (q2c a) (0,c,[])).bind fun d=>some (d,0))
noncomputable def q4u (a : Qe) (b : Int) : Option Bool:=
  (cond (decide (a.X ≥ b)) (some (decide (a.Y ≥ b))) (some false)).bind fun c=>(cond c (some (decide (a.Z ≥ b))) (some false)).bind fun d=>(cond d (some (decide (a.X≤1000000))) (some false)).bind fun f=>(cond f (some (decide (a.Y≤1000000))) (some false)).bind fun g=>(cond g (some (decide (a.Z≤1000000))) (some false)).bind fun h=>some h
noncomputable def q7g (a : qf) : Option Bool:=
  (q4u a.Lo (-1000000)).bind fun b=>(cond b ((q4u a.Hi (-1000000)).bind fun c=>some c) (some false)).bind fun d=>(cond d (some (decide (a.Lo.X < a.Hi.X))) (some false)).bind fun f=>(cond f (some (decide (a.Lo.Y < a.Hi.Y))) (some false)).bind fun g=>(cond g (some (decide (a.Lo.Z < a.Hi.Z))) (some false)).bind fun h=>some h
noncomputable def q31 (b : Int × List Int) (c : List Int) (a : Int) : Option ((Int) ⊕ (Int)):=
  (cond (decide (a > 0)) ((idx b.2 (w64 (a - 1))).bind fun d=>(idx c b.1).bind fun f=>some (decide (d > f))) (some false)).bind fun g=>cond g (some (.inl (w64 (a - 1)))) (some (.inr a))
noncomputable def q30 (d : List Int) (a : Int × List Int) : Option ((Int × List Int) ⊕ (List Int)):=
  cond (decide (a.1 < (d.length : Int))) (((loop (q31 a d) (a.2.length : Int)).bind fun c=>(cond (decide (c > 0)) ((idx a.2 (w64 (c - 1))).bind fun h=>(idx d a.1).bind fun j=>some (h == j)) (some false)).bind fun k=>cond k (some a.2) ((app 8 a.2 [0]).bind fun b=>(sub2 b.length (w64 (c + 1)) b.length).bind fun g=>(sub2 b.length c b.length).bind fun f=>(idx d a.1).bind fun l=>(idx (cpyw b g ((b.drop f.1).take f.2)) c).bind fun _=>some ((cpyw b g ((b.drop f.1).take f.2)).set c.toNat l))).bind fun m=>some (.inl (w64 (a.1 + 1),m))) (some (.inr a.2))
noncomputable def J9 (a : List Int) : Option (List Int):=
  (loop (q30 a) (0,[])).bind fun b=>some b
noncomputable def q38 (b : List qf) (a : Int × List Int) : Option ((Int × List Int) ⊕ (List Int)):=
  cond (decide (a.1 < (b.length : Int))) ((idx b a.1).bind fun c=>(idx b a.1).bind fun d=>(app 8 a.2 [c.Lo.Z,d.Hi.Z]).bind fun f=>some (.inl (w64 (a.1 + 1),f))) (some (.inr a.2))
noncomputable def q39 (b : List qf) (a : Int × List Int) : Option ((Int × List Int) ⊕ (List Int)):=
  cond (decide (a.1 < (b.length : Int))) ((idx b a.1).bind fun c=>(idx b a.1).bind fun d=>(app 8 a.2 [c.Lo.Z,d.Hi.Z]).bind fun f=>some (.inl (w64 (a.1 + 1),f))) (some (.inr a.2))
noncomputable def q7c (a : List qf) (b : List qf) : Option (List Int):=
  (loop (q38 a) (0,[])).bind fun c=>(loop (q39 b) (0,c)).bind fun d=>(J9 d).bind fun f=>some f
noncomputable def q4v (b : List qf) (c : Int) (a : Int × List ql) : Option ((Int × List ql) ⊕ (List ql)):=
  cond (decide (a.1 < (b.length : Int))) (((idx b a.1).bind fun d=>(cond (decide (d.Lo.Z≤c)) ((idx b a.1).bind fun f=>some (decide (c < f.Hi.Z))) (some false)).bind fun g=>cond g ((idx b a.1).bind fun h=>(idx b a.1).bind fun j=>(idx b a.1).bind fun k=>(idx b a.1).bind fun l=>(app 32 a.2 [({X0:=h.Lo.X,Y0:=j.Lo.Y,X1:=k.Hi.X,Y1:=l.Hi.Y} : ql)]).bind fun m=>some m) (some a.2)).bind fun n=>some (.inl (w64 (a.1 + 1),n))) (some (.inr a.2))
noncomputable def Ja (a : List qf) (b : Int) : Option (List ql):=
  (loop (q4v a b) (0,[])).bind fun c=>some c
noncomputable def q34 (b : List ql) (a : Int × List Int) : Option ((Int × List Int) ⊕ (List Int)):=
  cond (decide (a.1 < (b.length : Int))) ((idx b a.1).bind fun c=>(idx b a.1).bind fun d=>(app 8 a.2 [c.X0,d.X1]).bind fun f=>some (.inl (w64 (a.1 + 1),f))) (some (.inr a.2))
noncomputable def q35 (b : List ql) (a : Int × List Int) : Option ((Int × List Int) ⊕ (List Int)):=
  cond (decide (a.1 < (b.length : Int))) ((idx b a.1).bind fun c=>(idx b a.1).bind fun d=>(app 8 a.2 [c.X0,d.X1]).bind fun f=>some (.inl (w64 (a.1 + 1),f))) (some (.inr a.2))
noncomputable def q79 (a : List ql) (b : List ql) : Option (List Int):=
  (loop (q34 a) (0,[])).bind fun c=>(loop (q35 b) (0,c)).bind fun d=>(J9 d).bind fun f=>some f
noncomputable def q36 (b : List ql) (a : Int × List Int) : Option ((Int × List Int) ⊕ (List Int)):=
  cond (decide (a.1 < (b.length : Int))) ((idx b a.1).bind fun c=>(idx b a.1).bind fun d=>(app 8 a.2 [c.Y0,d.Y1]).bind fun f=>some (.inl (w64 (a.1 + 1),f))) (some (.inr a.2))
noncomputable def q37 (b : List ql) (a : Int × List Int) : Option ((Int × List Int) ⊕ (List Int)):=
  cond (decide (a.1 < (b.length : Int))) ((idx b a.1).bind fun c=>(idx b a.1).bind fun d=>(app 8 a.2 [c.Y0,d.Y1]).bind fun f=>some (.inl (w64 (a.1 + 1),f))) (some (.inr a.2))
noncomputable def q7a (a : List ql) (b : List ql) : Option (List Int):=
  (loop (q36 a) (0,[])).bind fun c=>(loop (q37 b) (0,c)).bind fun d=>(J9 d).bind fun f=>some f
noncomputable def q1v (b : List ql) (c : Int) (d : Int) (a : Int) : Option ((Int) ⊕ ((Unit) ⊕ (Bool))):=
  cond (decide (a < (b.length : Int))) ((idx b a).bind fun f=>(cond (decide (f.X0≤c)) ((idx b a).bind fun g=>some (decide (c < g.X1))) (some false)).bind fun h=>(cond h ((idx b a).bind fun j=>some (decide (j.Y0≤d))) (some false)).bind fun k=>(cond k ((idx b a).bind fun l=>some (decide (d < l.Y1))) (some false)).bind fun m=>cond m (some (.inr (.inr true))) (some (.inl (w64 (a + 1))))) (some (.inr (.inl ())))
noncomputable def q4q (a : List ql) (b : Int) (c : Int) : Option Bool:=
  (loop (q1v a b c) 0 : Option ((Unit) ⊕ (Bool))).bind fun d=>(match d with | .inl _=>some false | .inr f=>some f)
noncomputable def q4o (c : Int) (a : Bool) (b : Bool) : Option Bool:=
  cond (c == 1) ((cond a (some b) (some false)).bind fun d=>some d) (cond (c == 2) ((cond a (some true) (some b)).bind fun f=>some f) ((cond a (some (!b)) (some false)).bind fun g=>some g))
noncomputable def q2z (b : List Int) (c : List Bool) (a : Int × List qm) : Option ((Int × List qm) ⊕ (List qm)):=
  cond (decide ((w64 (a.1 + 1)) < (b.length : Int))) (((idx c a.1).bind fun d=>cond (!d) (some a.2) ((cond (decide ((a.2.length : Int) > 0)) ((idx a.2 (w64 ((a.2.length : Int) - 1))).bind fun f=>(idx b a.1).bind fun g=>some (f.Hi == g)) (some false)).bind fun h=>cond h ((idx b (w64 (a.1 + 1))).bind fun j=>(idx a.2 (w64 ((a.2.length : Int) - 1))).bind fun k=>some (a.2.set (w64 ((a.2.length : Int) - 1)).toNat ({Lo:=k.Lo,Hi:=j} : qm))) ((idx b a.1).bind fun l=>(idx b (w64 (a.1 + 1))).bind fun m=>(app 16 a.2 [({Lo:=l,Hi:=m} : qm)]).bind fun n=>some n))).bind fun o=>some (.inl (w64 (a.1 + 1),o))) (some (.inr a.2))
noncomputable def q2y (a : List Int) (b : List Bool) : Option (List qm):=
  (loop (q2z a b) (0,[])).bind fun c=>some c
noncomputable def qa5 (b : List qm) (f : List qm) (a : Int) : Option ((Int) ⊕ ((Unit) ⊕ (Bool))):=
  cond (decide (a < (b.length : Int))) ((idx b a).bind fun c=>(idx f a).bind fun d=>cond (!((c.Lo == d.Lo) && ((c.Hi == d.Hi) && true))) (some (.inr (.inr false))) (some (.inl (w64 (a + 1))))) (some (.inr (.inl ())))
noncomputable def q4p (a : List qm) (b : List qm) : Option Bool:=
  cond ((a.length : Int) != (b.length : Int)) (some false) ((loop (qa5 a b) 0 : Option ((Unit) ⊕ (Bool))).bind fun c=>(match c with | .inl _=>some true | .inr d=>some d))
noncomputable def q32 (b : List Int) (c : List Int) (d : List qm × Int × Int × List ql) (f : List ql) (g : List ql) (h : Int) (a : Int × List Bool) : Option ((Int × List Bool) ⊕ (List Bool)):=
  cond (decide (a.1 < (b.length : Int))) ((idx c d.2.2.1).bind fun j=>(idx b a.1).bind fun k=>(q4q f j k).bind fun l=>(idx c d.2.2.1).bind fun m=>(idx b a.1).bind fun n=>(q4q g m n).bind fun o=>(q4o h l o).bind fun p=>(app 1 a.2 [p]).bind fun q=>some (.inl (w64 (a.1 + 1),q))) (some (.inr a.2))
noncomputable def q33 (c : List Int) (d : List qm × Int × Int × List ql) (a : Int × List ql) : Option ((Int × List ql) ⊕ (List ql)):=
  cond (decide (a.1 < (a.2.length : Int))) ((idx c (w64 (d.2.2.1 + 1))).bind fun f=>(idx a.2 a.1).bind fun b=>some (.inl (w64 (a.1 + 1),a.2.set a.1.toNat ({X0:=b.X0,Y0:=b.Y0,X1:=f,Y1:=b.Y1} : ql)))) (some (.inr a.2))
noncomputable def q4r (b : List qm) (d : List Int) (c : List qm × Int × Int × List ql) (a : Int × List ql) : Option ((Int × List ql) ⊕ (List qm × Int × List ql)):=
  cond (decide (a.1 < (b.length : Int))) ((idx d c.2.2.1).bind fun f=>(idx b a.1).bind fun g=>(idx d (w64 (c.2.2.1 + 1))).bind fun h=>(idx b a.1).bind fun j=>(app 32 a.2 [({X0:=f,Y0:=g.Lo,X1:=h,Y1:=j.Hi} : ql)]).bind fun k=>some (.inl (w64 (a.1 + 1),k))) (some (.inr (b,(c.2.2.2.length : Int),a.2)))
noncomputable def q1w (b : List Int) (d : List Int) (g : List ql) (h : List ql) (j : Int) (a : List qm × Int × Int × List ql) : Option ((List qm × Int × Int × List ql) ⊕ (List ql)):=
  cond (decide ((w64 (a.2.2.1 + 1)) < (b.length : Int))) (((loop (q32 d b a g h j) (0,[])).bind fun k=>(q2y d k).bind fun f=>(cond (decide (a.2.2.1 > 0)) ((q4p f a.1).bind fun l=>some l) (some false)).bind fun m=>cond m ((loop (q33 b a) (a.2.1,a.2.2.2)).bind fun n=>some (a.1,a.2.1,n)) ((loop (q4r f b a) (0,a.2.2.2)).bind fun o=>some o)).bind fun c=>some (.inl (c.1,c.2.1,w64 (a.2.2.1 + 1),c.2.2))) (some (.inr a.2.2.2))
noncomputable def Zs (c : Int) (a : List ql) (b : List ql) : Option (List ql):=
  (q79 a b).bind fun d=>(q7a a b).bind fun f=>(loop (q1w d f a b c) ([],0,0,[])).bind fun g=>some g
noncomputable def qa6 (d : List ql) (f : List ql) (a : Int) : Option ((Int) ⊕ ((Unit) ⊕ (Bool))):=
  cond (decide (a < (d.length : Int))) ((idx d a).bind fun b=>(idx f a).bind fun c=>cond (!((b.X0 == c.X0) && ((b.Y0 == c.Y0) && ((b.X1 == c.X1) && ((b.Y1 == c.Y1) && true))))) (some (.inr (.inr false))) (some (.inl (w64 (a + 1))))) (some (.inr (.inl ())))
noncomputable def q4t (a : List ql) (b : List ql) : Option Bool:=
  cond ((a.length : Int) != (b.length : Int)) (some false) ((loop (qa6 a b) 0 : Option ((Unit) ⊕ (Bool))).bind fun c=>(match c with | .inl _=>some true | .inr d=>some d))
noncomputable def q3a (c : List Int) (d : List ql × Int × Int × List qf) (a : Int × List qf) : Option ((Int × List qf) ⊕ (List qf)):=
  cond (decide (a.1 < (a.2.length : Int))) ((idx c (w64 (d.2.2.1 + 1))).bind fun f=>(idx a.2 a.1).bind fun b=>some (.inl (w64 (a.1 + 1),a.2.set a.1.toNat ({Lo:=b.Lo,Hi:=({X:=b.Hi.X,Y:=b.Hi.Y,Z:=f} : Qe)} : qf)))) (some (.inr a.2))
noncomputable def q4y (b : List ql) (d : List Int) (c : List ql × Int × Int × List qf) (a : Int × List qf) : Option ((Int × List qf) ⊕ (List ql × Int × List qf)):=
  cond (decide (a.1 < (b.length : Int))) ((idx b a.1).bind fun f=>(idx b a.1).bind fun g=>(idx d c.2.2.1).bind fun h=>(idx b a.1).bind fun j=>(idx b a.1).bind fun k=>(idx d (w64 (c.2.2.1 + 1))).bind fun l=>(app 48 a.2 [({Lo:=({X:=f.X0,Y:=g.Y0,Z:=h} : Qe),Hi:=({X:=j.X1,Y:=k.Y1,Z:=l} : Qe)} : qf)]).bind fun m=>some (.inl (w64 (a.1 + 1),m))) (some (.inr (b,(c.2.2.2.length : Int),a.2)))
noncomputable def q12 (b : List Int) (f : List qf) (g : List qf) (h : Int) (a : List ql × Int × Int × List qf) : Option ((List ql × Int × Int × List qf) ⊕ ((List qf) ⊕ (List qf × Bool))):=
  cond (decide ((w64 (a.2.2.1 + 1)) < (b.length : Int))) (((idx b a.2.2.1).bind fun j=>(Ja f j).bind fun k=>(idx b a.2.2.1).bind fun l=>(Ja g l).bind fun m=>(Zs h k m).bind fun c=>(cond (decide ((c.length : Int) > 400)) (some true) ((idx b a.2.2.1).bind fun n=>(Ja f n).bind fun o=>(Zs 2 o []).bind fun p=>some (decide ((p.length : Int) > 400)))).bind fun q=>(cond q (some true) ((idx b a.2.2.1).bind fun r=>(Ja g r).bind fun s=>(Zs 2 s []).bind fun t=>some (decide ((t.length : Int) > 400)))).bind fun u=>cond u (some (.inr ([],false))) ((cond (decide (a.2.2.1 > 0)) ((q4t c a.1).bind fun v=>some v) (some false)).bind fun w=>cond w ((loop (q3a b a) (a.2.1,a.2.2.2)).bind fun x=>some (.inl (a.1,a.2.1,x))) ((loop (q4y c b a) (0,a.2.2.2)).bind fun y=>some (.inl y))) : Option ((List ql × Int × List qf) ⊕ (List qf × Bool))).bind fun z=>(match z with | .inl d=>some (.inl (d.1,d.2.1,w64 (a.2.2.1 + 1),d.2.2)) | .inr x1=>some (.inr (.inr x1)))) (some (.inr (.inl a.2.2.2)))
noncomputable def q1x (d : Int) (a : List qf) (b : List qf) : Option (List qf × Bool):=
  (q7c a b).bind fun f=>(loop (q12 f a b d) ([],0,0,[]) : Option ((List qf) ⊕ (List qf × Bool))).bind fun g=>(match g with | .inl c=>some (c,decide ((c.length : Int)≤400)) | .inr h=>some h)
noncomputable def qa9 (d : List qf) (f : List qf) (c : Int) : Option ((Int) ⊕ ((Unit) ⊕ (Bool))):=
  cond (decide (c < (d.length : Int))) ((idx d c).bind fun a=>(idx f c).bind fun b=>cond (!((a.Lo.X == b.Lo.X) && ((a.Lo.Y == b.Lo.Y) && ((a.Lo.Z == b.Lo.Z) && ((a.Hi.X == b.Hi.X) && ((a.Hi.Y == b.Hi.Y) && ((a.Hi.Z == b.Hi.Z) && true))))))) (some (.inr (.inr false))) (some (.inl (w64 (c + 1))))) (some (.inr (.inl ())))
noncomputable def q7f (a : List qf) (b : List qf) : Option Bool:=
  cond ((a.length : Int) != (b.length : Int)) (some false) ((loop (qa9 a b) 0 : Option ((Unit) ⊕ (Bool))).bind fun c=>(match c with | .inl _=>some true | .inr d=>some d))
noncomputable def q4x (b : List qf) (a : Int) : Option ((Int) ⊕ ((Unit) ⊕ (Int))):=
  cond (decide (a < (b.length : Int))) ((idx b a).bind fun c=>(q7g c).bind fun d=>cond (!d) (some (.inr (.inr 8))) (some (.inl (w64 (a + 1))))) (some (.inr (.inl ())))
noncomputable def q4w (a : List qf) : Option Int:=
  cond (decide ((a.length : Int) > 400)) (some 4) ((loop (q4x a) 0 : Option ((Unit) ⊕ (Int))).bind fun c=>(match c with | .inl _=>(q1x 2 a []).bind fun b=>(cond (!b.2) (some true) ((q7f b.1 a).bind fun d=>some (!d))).bind fun f=>cond f (some 8) (some 0) | .inr g=>some g))
noncomputable def q11 (a : qf) (b : qf) : Option qf:=
  (cond (decide ((max a.Lo.X b.Lo.X) ≥ (min a.Hi.X b.Hi.X))) (some true) (some (decide ((max a.Lo.Y b.Lo.Y) ≥ (min a.Hi.Y b.Hi.Y))))).bind fun c=>(cond c (some true) (some (decide ((max a.Lo.Z b.Lo.Z) ≥ (min a.Hi.Z b.Hi.Z))))).bind fun d=>cond d (some ({Lo:=({X:=0,Y:=0,Z:=0} : Qe),Hi:=({X:=0,Y:=0,Z:=0} : Qe)} : qf)) (some ({Lo:=({X:=max a.Lo.X b.Lo.X,Y:=max a.Lo.Y b.Lo.Y,Z:=max a.Lo.Z b.Lo.Z} : Qe),Hi:=({X:=min a.Hi.X b.Hi.X,Y:=min a.Hi.Y b.Hi.Y,Z:=min a.Hi.Z b.Hi.Z} : Qe)} : qf))
noncomputable def U8 (a : qf) (f : qf) (d : Int) : Option ((Int) ⊕ ((Unit) ⊕ (Bool))):=
  cond (decide (d < 3)) ((cond (d == 0) (some (w64 (a.Lo.X - 1),a.Lo.Y,a.Lo.Z,w64 (a.Hi.X + 1),a.Hi.Y,a.Hi.Z)) (cond (d == 1) (some (a.Lo.X,w64 (a.Lo.Y - 1),a.Lo.Z,a.Hi.X,w64 (a.Hi.Y + 1),a.Hi.Z)) (some (a.Lo.X,a.Lo.Y,w64 (a.Lo.Z - 1),a.Hi.X,a.Hi.Y,w64 (a.Hi.Z + 1))))).bind fun b=>(q11 ({Lo:=({X:=b.1,Y:=b.2.1,Z:=b.2.2.1} : Qe),Hi:=({X:=b.2.2.2.1,Y:=b.2.2.2.2.1,Z:=b.2.2.2.2.2} : Qe)} : qf) f).bind fun c=>cond (!((c.Lo.X == 0) && ((c.Lo.Y == 0) && ((c.Lo.Z == 0) && ((c.Hi.X == 0) && ((c.Hi.Y == 0) && ((c.Hi.Z == 0) && true))))))) (some (.inr (.inr true))) (some (.inl (w64 (d + 1))))) (some (.inr (.inl ())))
noncomputable def q7b (a : qf) (b : qf) : Option Bool:=
  (loop (U8 a b) 0 : Option ((Unit) ⊕ (Bool))).bind fun c=>(match c with | .inl _=>some false | .inr d=>some d)
noncomputable def q3b (b : List qf) (a : Int × List Int) : Option ((Int × List Int) ⊕ (List Int)):=
  cond (decide (a.1 < (b.length : Int))) ((app 8 a.2 [a.1]).bind fun c=>some (.inl (w64 (a.1 + 1),c))) (some (.inr a.2))
noncomputable def q13 (c : List qf) (b : Bool × Int × List Int) (a : Bool × Int × List Int) : Option ((Bool × Int × List Int) ⊕ (Bool × List Int)):=
  cond (decide (a.2.1 < (c.length : Int))) (((idx a.2.2 a.2.1).bind fun f=>(idx a.2.2 b.2.1).bind fun g=>(cond (decide (f < g)) ((idx c b.2.1).bind fun h=>(idx c a.2.1).bind fun j=>(q7b h j).bind fun k=>some k) (some false)).bind fun l=>cond l ((idx a.2.2 a.2.1).bind fun m=>(idx a.2.2 b.2.1).bind fun _=>some (true,a.2.2.set b.2.1.toNat m)) (some (a.1,a.2.2))).bind fun d=>some (.inl (d.1,w64 (a.2.1 + 1),d.2))) (some (.inr (a.1,a.2.2)))
noncomputable def q3c (b : List qf) (a : Bool × Int × List Int) : Option ((Bool × Int × List Int) ⊕ (Bool × List Int)):=
  cond (decide (a.2.1 < (b.length : Int))) (((loop (q13 b a) (a.1,0,a.2.2)).bind fun d=>some d).bind fun c=>some (.inl (c.1,w64 (a.2.1 + 1),c.2))) (some (.inr (a.1,a.2.2)))
noncomputable def U9 (b : List qf) (a : Bool × List Int) : Option ((Bool × List Int) ⊕ (List Int)):=
  cond a.1 ((loop (q3c b) (false,0,a.2)).bind fun c=>some (.inl c)) (some (.inr a.2))
noncomputable def q1z (b : List qf) (c : List Int) (d : Int × List (List qf)) (a : Int × List qf) : Option ((Int × List qf) ⊕ (List qf)):=
  cond (decide (a.1 < (b.length : Int))) (((idx c a.1).bind fun f=>cond (f == d.1) ((idx b a.1).bind fun g=>(app 48 a.2 [g]).bind fun h=>some h) (some a.2)).bind fun j=>some (.inl (w64 (a.1 + 1),j))) (some (.inr a.2))
noncomputable def q1y (b : List qf) (c : List Int) (a : Int × List (List qf)) : Option ((Int × List (List qf)) ⊕ (List (List qf))):=
  cond (decide (a.1 < (b.length : Int))) (((idx c a.1).bind fun d=>cond (d != a.1) (some a.2) ((loop (q1z b c a) (0,[])).bind fun f=>(q1x 2 f []).bind fun g=>(app 24 a.2 [g.1]).bind fun h=>some h)).bind fun j=>some (.inl (w64 (a.1 + 1),j))) (some (.inr a.2))
noncomputable def q7e (a : List qf) : Option (List (List qf) × Int):=
  (q4w a).bind fun b=>cond (b != 0) ((q4w a).bind fun c=>some ([],c)) ((loop (q3b a) (0,[])).bind fun d=>(loop (U9 a) (true,d)).bind fun f=>(loop (q1y a f) (0,[])).bind fun g=>some (g,0))
noncomputable def q4h (b : List (List qf) × Int) (c : List (List qf) × Int) (a : Int) : Option ((Int) ⊕ ((Unit) ⊕ (Bool))):=
  cond (decide (a < (b.1.length : Int))) ((idx b.1 a).bind fun d=>(idx c.1 a).bind fun f=>(q7f d f).bind fun g=>cond (!g) (some (.inr (.inr false))) (some (.inl (w64 (a + 1))))) (some (.inr (.inl ())))
noncomputable def q9v (a : List qf) : Option Bool:=
  (q7d a).bind fun d=>cond d (some true) ((q8n a).bind fun b=>(q7e a).bind fun c=>(cond (b.2 != c.2) (some true) (some ((b.1.length : Int) != (c.1.length : Int)))).bind fun f=>cond f (some false) ((loop (q4h b c) 0 : Option ((Unit) ⊕ (Bool))).bind fun g=>(match g with | .inl _=>some true | .inr h=>some h)))
noncomputable def q3u (b : List qm) (a : Int) : Option ((Int) ⊕ ((Unit) ⊕ (Int))):=
  cond (decide (a < (b.length : Int))) ((idx b a).bind fun c=>(q2e c).bind fun d=>(cond (!d) (some true) ((cond (decide (a > 0)) ((idx b (w64 (a - 1))).bind fun f=>some (decide (f.Hi ≥ c.Lo))) (some false)).bind fun g=>some g)).bind fun h=>cond h (some (.inr (.inr 8))) (some (.inl (w64 (a + 1))))) (some (.inr (.inl ())))
noncomputable def qan (a : List qm) : Option Int:=
  cond (decide ((a.length : Int) > 400)) (some 4) ((loop (q3u a) 0 : Option ((Unit) ⊕ (Int))).bind fun b=>(match b with | .inl _=>some 0 | .inr c=>some c))
noncomputable def qid (a : qm) : Option Bool:=
  (cond (decide (a.Lo < a.Hi)) (some (decide (a.Lo ≥ (-1000000)))) (some false)).bind fun b=>(cond b (some (decide (a.Hi≤1000000))) (some false)).bind fun c=>some c
noncomputable def qd7 (b : List qm) (a : Int) : Option ((Int) ⊕ ((Unit) ⊕ (Int))):=
  cond (decide (a < (b.length : Int))) ((idx b a).bind fun c=>(qid c).bind fun d=>(cond (!d) (some true) ((cond (decide (a > 0)) ((idx b (w64 (a - 1))).bind fun f=>(idx b a).bind fun g=>some (decide (f.Hi ≥ g.Lo))) (some false)).bind fun h=>some h)).bind fun j=>cond j (some (.inr (.inr 8))) (some (.inl (w64 (a + 1))))) (some (.inr (.inl ())))
noncomputable def qa2 (a : List qm) : Option Int:=
  cond (decide ((a.length : Int) > 400)) (some 4) ((loop (qd7 a) 0 : Option ((Unit) ⊕ (Int))).bind fun b=>(match b with | .inl _=>some 0 | .inr c=>some c))
noncomputable def q75 (b : List qm) (a : Int × List Int) : Option ((Int × List Int) ⊕ (List Int)):=
  cond (decide (a.1 < (b.length : Int))) ((idx b a.1).bind fun c=>(idx b a.1).bind fun d=>(app 8 a.2 [c.Lo,d.Hi]).bind fun f=>some (.inl (w64 (a.1 + 1),f))) (some (.inr a.2))
noncomputable def qia (b : List qm) (a : Int × List Int) : Option ((Int × List Int) ⊕ (List Int)):=
  cond (decide (a.1 < (b.length : Int))) ((idx b a.1).bind fun c=>(idx b a.1).bind fun d=>(app 8 a.2 [c.Lo,d.Hi]).bind fun f=>some (.inl (w64 (a.1 + 1),f))) (some (.inr a.2))
noncomputable def qd8 (a : List qm) (b : List qm) : Option (List Int):=
  (loop (q75 a) (0,[])).bind fun c=>(loop (qia b) (0,c)).bind fun d=>(J9 d).bind fun f=>some f
noncomputable def q76 (b : List qm) (c : Int) (a : Int) : Option ((Int) ⊕ ((Unit) ⊕ (Bool))):=
  cond (decide (a < (b.length : Int))) ((idx b a).bind fun d=>(cond (decide (d.Lo≤c)) ((idx b a).bind fun f=>some (decide (c < f.Hi))) (some false)).bind fun g=>cond g (some (.inr (.inr true))) (some (.inl (w64 (a + 1))))) (some (.inr (.inl ())))
noncomputable def qa3 (a : List qm) (b : Int) : Option Bool:=
  (loop (q76 a b) 0 : Option ((Unit) ⊕ (Bool))).bind fun c=>(match c with | .inl _=>some false | .inr d=>some d)
noncomputable def q77 (b : List Int) (c : List qm) (d : List qm) (f : Int) (a : Int × List Bool) : Option ((Int × List Bool) ⊕ (List Bool)):=
  cond (decide (a.1 < (b.length : Int))) ((idx b a.1).bind fun g=>(qa3 c g).bind fun h=>(idx b a.1).bind fun j=>(qa3 d j).bind fun k=>(q4o f h k).bind fun l=>(app 1 a.2 [l]).bind fun m=>some (.inl (w64 (a.1 + 1),m))) (some (.inr a.2))
noncomputable def qa4 (d : Int) (a : List qm) (b : List qm) : Option (List qm):=
  (qd8 a b).bind fun c=>(loop (q77 c a b d) (0,[])).bind fun f=>(q2y c f).bind fun g=>some g
noncomputable def q8p (b : List qm) (a : Int × Int) : Option ((Int × Int) ⊕ (Int)):=
  cond (decide (a.2 < (b.length : Int))) ((idx b a.2).bind fun c=>some (.inl (w64 (a.1 + (w64 (c.Hi - c.Lo))),w64 (a.2 + 1)))) (some (.inr a.1))
noncomputable def qju (a : List qm) : Option (Int × Int):=
  (qan a).bind fun b=>cond (b != 0) (some (0,b)) ((loop (q8p a) (0,0)).bind fun c=>some (c,0))
noncomputable def q78 (b : List qm) (a : Int × Int) : Option ((Int × Int) ⊕ (Int)):=
  cond (decide (a.2 < (b.length : Int))) ((idx b a.2).bind fun c=>(idx b a.2).bind fun d=>some (.inl (w64 ((w64 (a.1 + c.Hi)) - d.Lo),w64 (a.2 + 1)))) (some (.inr a.1))
noncomputable def qic (a : List qm) : Option (Int × Int):=
  (qa2 a).bind fun b=>cond (b != 0) ((qa2 a).bind fun c=>some (0,c)) ((loop (q78 a) (0,0)).bind fun d=>some (d,0))
structure q9a where
  Turn : Int
  At : Qe
  deriving DecidableEq
structure qee where
  Frame : q9a
  Size : Qe
  deriving DecidableEq
noncomputable def qg7 (a : Int) : Option Qe:=
  cond ((IntKind.wrap .u8 (Int.tdiv a 2)) == 0) (some ({X:=w64 (1 - (w64 (2 * (w64 (Int.tmod a 2))))),Y:=0,Z:=0} : Qe)) (cond ((IntKind.wrap .u8 (Int.tdiv a 2)) == 1) (some ({X:=0,Y:=w64 (1 - (w64 (2 * (w64 (Int.tmod a 2))))),Z:=0} : Qe)) (some ({X:=0,Y:=0,Z:=w64 (1 - (w64 (2 * (w64 (Int.tmod a 2)))))} : Qe)))
noncomputable def qn5 (a : Qe) (b : Qe) : Option Qe:=
  some ({X:=w64 ((w64 (a.Y * b.Z)) - (w64 (a.Z * b.Y))),Y:=w64 ((w64 (a.Z * b.X)) - (w64 (a.X * b.Z))),Z:=w64 ((w64 (a.X * b.Y)) - (w64 (a.Y * b.X)))} : Qe)
noncomputable def qn4 (a : Int) : Option (Qe × Qe × Qe):=
  (cond (decide ((Int.tmod a 4) ≥ (IntKind.wrap .u8 ((IntKind.wrap .u8 (Int.tdiv (IntKind.wrap .u8 (Int.tdiv a 4)) 2)) * 2)))) (some (IntKind.wrap .u8 ((Int.tmod a 4) + 2))) (some (Int.tmod a 4))).bind fun d=>(qg7 (IntKind.wrap .u8 (Int.tdiv a 4))).bind fun b=>(qg7 d).bind fun c=>(qn5 b c).bind fun f=>some (b,c,f)
def qfl (x : Qe) : List DV:=[.int .i64 x.X,.int .i64 x.Y,.int .i64 x.Z]
structure qxp where
  t_ : Int
  at_ : Qe
  flat_ : Qe
  deriving DecidableEq
end Go.Sh
