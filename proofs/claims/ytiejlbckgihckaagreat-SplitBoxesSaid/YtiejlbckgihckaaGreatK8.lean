/- PX -/
import Derived.Test.YtiejlbckgihckaaGreatK7
namespace Go.Sh
open Go Go.Am
structure qm where
  X : Int
  Y : Int
  Z : Int
  deriving DecidableEq
structure qw where
  Lo : qm
  Hi : qm
  deriving DecidableEq
def Qw (x : qw) : List DV:=[.int .i64 x.Lo.X,.int .i64 x.Lo.Y,.int .i64 x.Lo.Z,.int .i64 x.Hi.X,.int .i64 x.Hi.Y,.int .i64 x.Hi.Z]
noncomputable def q44 (b : List qw) (c : qw→Option Bool) (a : Int) : Option ((Int) ⊕ ((Unit) ⊕ (Int))):=
  cond (decide (a < (b.length : Int))) ((idx b a).bind fun d=>(c d).bind fun f=>cond f (some (.inr (.inr a))) (some (.inl (w64 (a + 1))))) (some (.inr (.inl ())))
noncomputable def qc4 (a : List qw) (b : qw→Option Bool) : Option Int:=
  (loop (q44 a b) 0 : Option ((Unit) ⊕ (Int))).bind fun c=>(match c with | .inl _=>some (-1) | .inr d=>some d)
noncomputable def q8s (a : List qw) (b : qw→Option Bool) : Option Bool:=
  (qc4 a b).bind fun c=>some (decide (c ≥ 0))
noncomputable def q6z (a : qm) : Option Bool:=
  (cond (decide ((min (min a.X a.Y) a.Z) ≥ (-1000000))) (some (decide ((max (max a.X a.Y) a.Z)≤1000000))) (some false)).bind fun b=>some b
noncomputable def q9s (a : qw) : Option Bool:=
  (cond (decide (a.Lo.X < a.Hi.X)) (some (decide (a.Lo.Y < a.Hi.Y))) (some false)).bind fun b=>(cond b (some (decide (a.Lo.Z < a.Hi.Z))) (some false)).bind fun c=>(cond c ((q6z a.Lo).bind fun d=>some d) (some false)).bind fun f=>(cond f ((q6z a.Hi).bind fun g=>some g) (some false)).bind fun h=>some h
noncomputable def q2v (a : qw) : Option Bool:=
  (q9s a).bind fun b=>some (!b)
def Ka (x : List qw) : List DV:=[.sl 6 (x.map Qw)]
def qcg : ByteArray:=⟨#[0,1,2,2,3,3,3,3,4,4,4,4,4,4,4,4,5,5,5,5,5,5,5,5,5,5,5,5,5,5,5,5,6,6,6,6,6,6,6,6,6,6,6,6,6,6,6,6,6,6,6,6,6,6,6,6,6,6,6,6,6,6,6,6,7,7,7,7,7,7,7,7,7,7,7,7,7,7,7,7,7,7,7,7,7,7,7,7,7,7,7,7,7,7,7,7,7,7,7,7,7,7,7,7,7,7,7,7,7,7,7,7,7,7,7,7,7,7,7,7,7,7,7,7,7,7,7,7,8,8,8,8,8,8,8,8,8,8,8,8,8,8,8,8,8,8,8,8,8,8,8,8,8,8,8,8,8,8,8,8,8,8,8,8,8,8,8,8,8,8,8,8,8,8,8,8,8,8,8,8,8,8,8,8,8,8,8,8,8,8,8,8,8,8,8,8,8,8,8,8,8,8,8,8,8,8,8,8,8,8,8,8,8,8,8,8,8,8,8,8,8,8,8,8,8,8,8,8,8,8,8,8,8,8,8,8,8,8,8,8,8,8,8,8,8,8,8,8,8,8,8,8,8,8,8,8]⟩
noncomputable def q2k (c : Int) : Option Int:=
  (cond (decide (c ≥ 4294967296)) (some (Int.fdiv c (2 ^ 32),32)) (some (c,0))).bind fun a=>(cond (decide (a.1 ≥ 65536)) (some (Int.fdiv a.1 (2 ^ 16),w64 (a.2 + 16))) (some (a.1,a.2))).bind fun b=>(cond (decide (b.1 ≥ 256)) (some (Int.fdiv b.1 (2 ^ 8),w64 (b.2 + 8))) (some (b.1,b.2))).bind fun d=>(q4o qcg (IntKind.wrap .u8 d.1)).bind fun f=>some (w64 (d.2 + (w64 f)))
noncomputable def Ut (a : Int) : Option Int:=
  (q2k a).bind fun b=>some b
noncomputable def q4t (a : Int) : Option Bool:=
  some (a != a)
noncomputable def Yw (a : Int) (b : Int) : Option Bool:=
  (q4t a).bind fun c=>(cond c ((q4t b).bind fun d=>some (!d)) (some false)).bind fun f=>(cond f (some true) (some (decide (a < b)))).bind fun g=>some g
noncomputable def q68 (c : Int) (a : Int × List Int) : Option ((Int × List Int) ⊕ (List Int)):=
  (cond (decide (a.1 > c)) ((idx a.2 a.1).bind fun d=>(idx a.2 (w64 (a.1 - 1))).bind fun f=>(Yw d f).bind fun g=>some g) (some false)).bind fun h=>cond h ((idx a.2 (w64 (a.1 - 1))).bind fun b=>(idx a.2 a.1).bind fun j=>(idx a.2 a.1).bind fun _=>(idx (a.2.set a.1.toNat b) (w64 (a.1 - 1))).bind fun _=>some (.inl (w64 (a.1 - 1),(a.2.set a.1.toNat b).set (w64 (a.1 - 1)).toNat j))) (some (.inr a.2))
noncomputable def q67 (b : Int) (c : Int) (a : Int × List Int) : Option ((Int × List Int) ⊕ (List Int)):=
  cond (decide (a.1 < b)) (((loop (q68 c) (a.1,a.2)).bind fun d=>some d).bind fun f=>some (.inl (w64 (a.1 + 1),f))) (some (.inr a.2))
noncomputable def q66 (b : List Int) (a : Int) (c : Int) : Option (List Int):=
  (loop (q67 c a) (w64 (a + 1),b)).bind fun d=>some d
noncomputable def q6u (d : Int) (b : Int) (a : Int × List Int) : Option ((Int × List Int) ⊕ (List Int)):=
  cond (decide ((w64 ((w64 (2 * a.1)) + 1)) ≥ d)) (some (.inr a.2)) ((cond (decide ((w64 ((w64 ((w64 (2 * a.1)) + 1)) + 1)) < d)) ((idx a.2 (w64 (b + (w64 ((w64 (2 * a.1)) + 1))))).bind fun g=>(idx a.2 (w64 ((w64 (b + (w64 ((w64 (2 * a.1)) + 1)))) + 1))).bind fun h=>(Yw g h).bind fun j=>some j) (some false)).bind fun k=>(cond k (some (w64 ((w64 ((w64 (2 * a.1)) + 1)) + 1))) (some (w64 ((w64 (2 * a.1)) + 1)))).bind fun c=>(idx a.2 (w64 (b + a.1))).bind fun l=>(idx a.2 (w64 (b + c))).bind fun m=>(Yw l m).bind fun n=>cond (!n) (some (.inr a.2)) ((idx a.2 (w64 (b + c))).bind fun f=>(idx a.2 (w64 (b + a.1))).bind fun o=>(idx a.2 (w64 (b + a.1))).bind fun _=>(idx (a.2.set (w64 (b + a.1)).toNat f) (w64 (b + c))).bind fun _=>some (.inl (c,(a.2.set (w64 (b + a.1)).toNat f).set (w64 (b + c)).toNat o))))
noncomputable def q4d (a : List Int) (b : Int) (c : Int) (d : Int) : Option (List Int):=
  (loop (q6u c d) (b,a)).bind fun f=>some f
noncomputable def q64 (d : Int) (b : Int) (a : Int × List Int) : Option ((Int × List Int) ⊕ (List Int)):=
  cond (decide (a.1 ≥ 0)) ((q4d a.2 a.1 (w64 (d - b)) b).bind fun c=>(Qu c.length a.2.length).bind fun _=>some (.inl (w64 (a.1 - 1),c))) (some (.inr a.2))
noncomputable def q65 (b : Int) (a : Int × List Int) : Option ((Int × List Int) ⊕ (List Int)):=
  cond (decide (a.1 ≥ 0)) ((idx a.2 (w64 (b + a.1))).bind fun c=>(idx a.2 b).bind fun d=>(idx a.2 b).bind fun _=>(idx (a.2.set b.toNat c) (w64 (b + a.1))).bind fun _=>(q4d ((a.2.set b.toNat c).set (w64 (b + a.1)).toNat d) 0 a.1 b).bind fun f=>(Qu f.length ((a.2.set b.toNat c).set (w64 (b + a.1)).toNat d).length).bind fun _=>some (.inl (w64 (a.1 - 1),f))) (some (.inr a.2))
noncomputable def q63 (c : List Int) (a : Int) (b : Int) : Option (List Int):=
  (loop (q64 b a) (w64 (Int.tdiv (w64 ((w64 (b - a)) - 1)) 2),c)).bind fun d=>(loop (q65 a) (w64 ((w64 (b - a)) - 1),d)).bind fun f=>some f
noncomputable def q2u (c : List Int) (a : Int) (b : Int) (d : Int) : Option (Int × Int × Int):=
  (idx c b).bind fun f=>(idx c a).bind fun g=>(Yw f g).bind fun h=>cond h (some (b,a,w64 (d + 1))) (some (a,b,d))
noncomputable def q47 (a : List Int) (f : Int) (g : Int) (h : Int) (j : Int) : Option (Int × Int):=
  (q2u a f g j).bind fun b=>(q2u a b.2.1 h b.2.2).bind fun c=>(q2u a b.1 c.1 c.2.2).bind fun d=>some (d.2.1,d.2.2)
noncomputable def q2t (c : List Int) (a : Int) (d : Int) : Option (Int × Int):=
  (q47 c (w64 (a - 1)) a (w64 (a + 1)) d).bind fun b=>some (b.1,b.2)
noncomputable def q62 (d : List Int) (a : Int) (b : Int) : Option (Int × Int):=
  (cond (decide ((w64 (b - a)) ≥ 8)) ((cond (decide ((w64 (b - a)) ≥ 50)) ((q2t d (w64 (a + (w64 ((w64 (Int.tdiv (w64 (b - a)) 4)) * 1)))) 0).bind fun g=>(q2t d (w64 (a + (w64 ((w64 (Int.tdiv (w64 (b - a)) 4)) * 2)))) g.2).bind fun h=>(q2t d (w64 (a + (w64 ((w64 (Int.tdiv (w64 (b - a)) 4)) * 3)))) h.2).bind fun j=>some (g.1,h.1,j.1,j.2)) (some (w64 (a + (w64 ((w64 (Int.tdiv (w64 (b - a)) 4)) * 1))),w64 (a + (w64 ((w64 (Int.tdiv (w64 (b - a)) 4)) * 2))),w64 (a + (w64 ((w64 (Int.tdiv (w64 (b - a)) 4)) * 3))),0))).bind fun f=>(q47 d f.1 f.2.1 f.2.2.1 f.2.2.2).bind fun k=>some (k.1,k.2)) (some (w64 (a + (w64 ((w64 (Int.tdiv (w64 (b - a)) 4)) * 2))),0))).bind fun c=>cond (c.2 == 0) (some (c.1,1)) (cond (c.2 == 12) (some (c.1,2)) (some (c.1,0)))
noncomputable def q9o (a : Int × Int × List Int) : Option ((Int × Int × List Int) ⊕ (List Int)):=
  cond (decide (a.1 < a.2.1)) ((idx a.2.2 a.2.1).bind fun b=>(idx a.2.2 a.1).bind fun c=>(idx a.2.2 a.1).bind fun _=>(idx (a.2.2.set a.1.toNat b) a.2.1).bind fun _=>some (.inl (w64 (a.1 + 1),w64 (a.2.1 - 1),(a.2.2.set a.1.toNat b).set a.2.1.toNat c))) (some (.inr a.2.2))
noncomputable def q6s (a : List Int) (b : Int) (c : Int) : Option (List Int):=
  (loop q9o (b,w64 (c - 1),a)).bind fun d=>some d
noncomputable def q6c (c : Int) (b : Int × Int × List Int) (a : Int) : Option ((Int) ⊕ (Int)):=
  (cond (decide (a < c)) ((idx b.2.2 a).bind fun d=>(idx b.2.2 (w64 (a - 1))).bind fun f=>(Yw d f).bind fun g=>some (!g)) (some false)).bind fun h=>cond h (some (.inl (w64 (a + 1)))) (some (.inr a))
noncomputable def q9b (a : Int × List Int) : Option ((Int × List Int) ⊕ (List Int)):=
  cond (decide (a.1 ≥ 1)) ((idx a.2 a.1).bind fun c=>(idx a.2 (w64 (a.1 - 1))).bind fun d=>(Yw c d).bind fun f=>cond (!f) (some (.inr a.2)) ((idx a.2 (w64 (a.1 - 1))).bind fun b=>(idx a.2 a.1).bind fun g=>(idx a.2 a.1).bind fun _=>(idx (a.2.set a.1.toNat b) (w64 (a.1 - 1))).bind fun _=>some (.inl (w64 (a.1 - 1),(a.2.set a.1.toNat b).set (w64 (a.1 - 1)).toNat g)))) (some (.inr a.2))
noncomputable def q6d (d : Int) (b : Int) (a : Int × List Int) : Option ((Int × List Int) ⊕ (Int × List Int)):=
  cond (decide (a.1 < d)) ((idx a.2 a.1).bind fun f=>(idx a.2 (w64 (a.1 - 1))).bind fun g=>(Yw f g).bind fun h=>cond (!h) (some (.inr (b,a.2))) ((idx a.2 (w64 (a.1 - 1))).bind fun c=>(idx a.2 a.1).bind fun j=>(idx a.2 a.1).bind fun _=>(idx (a.2.set a.1.toNat c) (w64 (a.1 - 1))).bind fun _=>some (.inl (w64 (a.1 + 1),(a.2.set a.1.toNat c).set (w64 (a.1 - 1)).toNat j)))) (some (.inr (b,a.2)))
noncomputable def q4a (c : Int) (g : Int) (b : Int × Int × List Int) : Option ((Int × Int × List Int) ⊕ ((List Int) ⊕ (Bool × List Int))):=
  cond (decide (b.2.1 < 5)) (((loop (q6c c b) b.1).bind fun a=>cond (a == c) (some (.inr (true,b.2.2))) (cond (decide ((w64 (c - g)) < 50)) (some (.inr (false,b.2.2))) ((idx b.2.2 (w64 (a - 1))).bind fun d=>(idx b.2.2 a).bind fun h=>(idx b.2.2 a).bind fun _=>(idx (b.2.2.set a.toNat d) (w64 (a - 1))).bind fun _=>(cond (decide ((w64 (a - g)) ≥ 2)) ((loop q9b (w64 (a - 1),(b.2.2.set a.toNat d).set (w64 (a - 1)).toNat h)).bind fun f=>some f) (some ((b.2.2.set a.toNat d).set (w64 (a - 1)).toNat h))).bind fun j=>cond (decide ((w64 (c - a)) ≥ 2)) ((loop (q6d c a) (w64 (a + 1),j)).bind fun f=>some (.inl f)) (some (.inl (a,j))))) : Option ((Int × List Int) ⊕ (Bool × List Int))).bind fun l=>(match l with | .inl k=>some (.inl (k.1,w64 (b.2.1 + 1),k.2)) | .inr m=>some (.inr (.inr m)))) (some (.inr (.inl b.2.2)))
noncomputable def q49 (b : List Int) (a : Int) (c : Int) : Option (Bool × List Int):=
  (loop (q4a c a) (w64 (a + 1),0,b) : Option ((List Int) ⊕ (Bool × List Int))).bind fun d=>(match d with | .inl f=>some (false,f) | .inr g=>some g)
noncomputable def q6g (b : Int × Int × List Int) (c : Int) (a : Int) : Option ((Int) ⊕ (Int)):=
  (cond (decide (a≤b.2.1)) ((idx b.2.2 c).bind fun d=>(idx b.2.2 a).bind fun f=>(Yw d f).bind fun g=>some (!g)) (some false)).bind fun h=>cond h (some (.inl (w64 (a + 1)))) (some (.inr a))
noncomputable def q6h (c : Int) (b : Int × Int × List Int) (d : Int) (a : Int) : Option ((Int) ⊕ (Int)):=
  (cond (decide (c≤a)) ((idx b.2.2 d).bind fun f=>(idx b.2.2 a).bind fun g=>(Yw f g).bind fun h=>some h) (some false)).bind fun j=>cond j (some (.inl (w64 (a - 1)))) (some (.inr a))
noncomputable def q6f (d : Int) (a : Int × Int × List Int) : Option ((Int × Int × List Int) ⊕ (Int × List Int)):=
  (loop (q6g a d) a.1).bind fun b=>(loop (q6h b a d) a.2.1).bind fun c=>cond (decide (b > c)) (some (.inr (b,a.2.2))) ((idx a.2.2 c).bind fun f=>(idx a.2.2 b).bind fun g=>(idx a.2.2 b).bind fun _=>(idx (a.2.2.set b.toNat f) c).bind fun _=>some (.inl (w64 (b + 1),w64 (c - 1),(a.2.2.set b.toNat f).set c.toNat g)))
noncomputable def q6e (b : List Int) (a : Int) (g : Int) (c : Int) : Option (Int × List Int):=
  (idx b c).bind fun d=>(idx b a).bind fun h=>(idx b a).bind fun _=>(idx (b.set a.toNat d) c).bind fun _=>(loop (q6f a) (w64 (a + 1),w64 (g - 1),(b.set a.toNat d).set c.toNat h)).bind fun f=>some (f.1,f.2)
noncomputable def q6j (h : Int) (c : List Int) (b : Int) (d : Int) (f : Int) (g : Int) (a : Int) : Option ((Int) ⊕ (Int)):=
  (cond (decide (a≤(w64 (h - 1)))) ((idx ((c.set b.toNat d).set f.toNat g) a).bind fun j=>(idx ((c.set b.toNat d).set f.toNat g) b).bind fun k=>(Yw j k).bind fun l=>some l) (some false)).bind fun m=>cond m (some (.inl (w64 (a + 1)))) (some (.inr a))
noncomputable def q6k (h : Int) (c : List Int) (b : Int) (d : Int) (f : Int) (g : Int) (a : Int) : Option ((Int) ⊕ (Int)):=
  (cond (decide (h≤a)) ((idx ((c.set b.toNat d).set f.toNat g) a).bind fun j=>(idx ((c.set b.toNat d).set f.toNat g) b).bind fun k=>(Yw j k).bind fun l=>some (!l)) (some false)).bind fun m=>cond m (some (.inl (w64 (a - 1)))) (some (.inr a))
noncomputable def q6m (b : Int × Int × List Int) (c : Int) (a : Int) : Option ((Int) ⊕ (Int)):=
  (cond (decide (a≤b.2.1)) ((idx b.2.2 a).bind fun d=>(idx b.2.2 c).bind fun f=>(Yw d f).bind fun g=>some g) (some false)).bind fun h=>cond h (some (.inl (w64 (a + 1)))) (some (.inr a))
noncomputable def q6n (c : Int) (b : Int × Int × List Int) (d : Int) (a : Int) : Option ((Int) ⊕ (Int)):=
  (cond (decide (c≤a)) ((idx b.2.2 a).bind fun f=>(idx b.2.2 d).bind fun g=>(Yw f g).bind fun h=>some (!h)) (some false)).bind fun j=>cond j (some (.inl (w64 (a - 1)))) (some (.inr a))
noncomputable def q6l (d : Int) (a : Int × Int × List Int) : Option ((Int × Int × List Int) ⊕ (Int × List Int)):=
  (loop (q6m a d) a.1).bind fun b=>(loop (q6n b a d) a.2.1).bind fun c=>cond (decide (b > c)) (some (.inr (c,a.2.2))) ((idx a.2.2 c).bind fun f=>(idx a.2.2 b).bind fun g=>(idx a.2.2 b).bind fun _=>(idx (a.2.2.set b.toNat f) c).bind fun _=>some (.inl (w64 (b + 1),w64 (c - 1),(a.2.2.set b.toNat f).set c.toNat g)))
noncomputable def q6i (b : List Int) (a : Int) (k : Int) (c : Int) : Option (Int × Bool × List Int):=
  (idx b c).bind fun d=>(idx b a).bind fun f=>(idx b a).bind fun _=>(idx (b.set a.toNat d) c).bind fun _=>(loop (q6j k b a d c f) (w64 (a + 1))).bind fun j=>(loop (q6k j b a d c f) (w64 (k - 1))).bind fun g=>cond (decide (j > g)) ((idx ((b.set a.toNat d).set c.toNat f) a).bind fun l=>(idx ((b.set a.toNat d).set c.toNat f) g).bind fun o=>(idx ((b.set a.toNat d).set c.toNat f) g).bind fun _=>(idx (((b.set a.toNat d).set c.toNat f).set g.toNat l) a).bind fun _=>some (g,true,(((b.set a.toNat d).set c.toNat f).set g.toNat l).set a.toNat o)) ((idx ((b.set a.toNat d).set c.toNat f) g).bind fun m=>(idx ((b.set a.toNat d).set c.toNat f) j).bind fun p=>(idx ((b.set a.toNat d).set c.toNat f) j).bind fun _=>(idx (((b.set a.toNat d).set c.toNat f).set j.toNat m) g).bind fun _=>(loop (q6l a) (w64 (j + 1),w64 (g - 1),(((b.set a.toNat d).set c.toNat f).set j.toNat m).set g.toNat p)).bind fun h=>(idx h.2 a).bind fun n=>(idx h.2 h.1).bind fun q=>(idx h.2 h.1).bind fun _=>(idx (h.2.set h.1.toNat n) a).bind fun _=>some (h.1,false,(h.2.set h.1.toNat n).set a.toNat q))
noncomputable def q1o (a : Int) : Option Int:=
  (Ut (IntKind.wrap .u64 a)).bind fun b=>(shlK .u64 1 b).bind fun c=>some c
noncomputable def q1p (a : Int) : Option Int:=
  some (xorI .u64 (xorI .u64 (xorI .u64 a (IntKind.wrap .u64 (a * (2 ^ 13)))) (Int.fdiv (xorI .u64 a (IntKind.wrap .u64 (a * (2 ^ 13)))) (2 ^ 7))) (IntKind.wrap .u64 ((xorI .u64 (xorI .u64 a (IntKind.wrap .u64 (a * (2 ^ 13)))) (Int.fdiv (xorI .u64 a (IntKind.wrap .u64 (a * (2 ^ 13)))) (2 ^ 7))) * (2 ^ 17))))
noncomputable def q61 (b : Int) (d : Int) (f : Int) (a : Int × List Int × Int) : Option ((Int × List Int × Int) ⊕ (List Int)):=
  cond (decide (a.1≤(w64 ((w64 (b + (w64 ((w64 (Int.tdiv (w64 (d - b)) 4)) * 2)))) + 1)))) ((q1p a.2.2).bind fun c=>(cond (decide ((w64 (andI .u64 c (IntKind.wrap .u64 (f - 1)))) ≥ (w64 (d - b)))) (some (w64 ((w64 (andI .u64 c (IntKind.wrap .u64 (f - 1)))) - (w64 (d - b))))) (some (w64 (andI .u64 c (IntKind.wrap .u64 (f - 1)))))).bind fun g=>(idx a.2.1 (w64 (b + g))).bind fun h=>(idx a.2.1 a.1).bind fun j=>(idx a.2.1 a.1).bind fun _=>(idx (a.2.1.set a.1.toNat h) (w64 (b + g))).bind fun _=>some (.inl (w64 (a.1 + 1),(a.2.1.set a.1.toNat h).set (w64 (b + g)).toNat j,c))) (some (.inr a.2.1))
noncomputable def q60 (c : List Int) (a : Int) (b : Int) : Option (List Int):=
  cond (decide ((w64 (b - a)) ≥ 8)) ((q1o (w64 (b - a))).bind fun d=>(loop (q61 a b d) (w64 ((w64 (a + (w64 ((w64 (Int.tdiv (w64 (b - a)) 4)) * 2)))) - 1),c,IntKind.wrap .u64 (w64 (b - a)))).bind fun f=>some f) (some c)
noncomputable def q4b (rec : List Int→Int→Int→Int→Option (List Int)) (a : Int × Int × Int × Bool × Bool × List Int) : Option ((Int × Int × Int × Bool × Bool × List Int) ⊕ (List Int)):=
  cond (decide ((w64 (a.2.1 - a.1))≤12)) ((q66 a.2.2.2.2.2 a.1 a.2.1).bind fun k=>(Qu k.length a.2.2.2.2.2.length).bind fun _=>some (.inr k)) (cond (a.2.2.1 == 0) ((q63 a.2.2.2.2.2 a.1 a.2.1).bind fun l=>(Qu l.length a.2.2.2.2.2.length).bind fun _=>some (.inr l)) ((cond (!a.2.2.2.1) ((q60 a.2.2.2.2.2 a.1 a.2.1).bind fun m=>(Qu m.length a.2.2.2.2.2.length).bind fun _=>some (w64 (a.2.2.1 - 1),m)) (some (a.2.2.1,a.2.2.2.2.2))).bind fun c=>(q62 c.2 a.1 a.2.1).bind fun g=>(cond (g.2 == 2) ((q6s c.2 a.1 a.2.1).bind fun n=>(Qu n.length c.2.length).bind fun _=>some (w64 ((w64 (a.2.1 - 1)) - (w64 (g.1 - a.1))),1,n)) (some (g.1,g.2,c.2))).bind fun d=>(cond a.2.2.2.1 (some a.2.2.2.2.1) (some false)).bind fun q=>(cond q (some (d.2.1 == 1)) (some false)).bind fun r=>(cond r ((q49 d.2.2 a.1 a.2.1).bind fun h=>(Qu h.2.length d.2.2.length).bind fun _=>cond h.1 (some (.inr h.2)) (some (.inl h.2))) (some (.inl d.2.2)) : Option ((List Int) ⊕ (List Int))).bind fun s=>(match s with | .inl f=>(cond (decide (a.1 > 0)) ((idx f (w64 (a.1 - 1))).bind fun t=>(idx f d.1).bind fun u=>(Yw t u).bind fun v=>some (!v)) (some false)).bind fun w=>cond w ((q6e f a.1 a.2.1 d.1).bind fun j=>(Qu j.2.length f.length).bind fun _=>some (.inl (j.1,a.2.1,c.1,a.2.2.2.1,a.2.2.2.2.1,j.2))) ((q6i f a.1 a.2.1 d.1).bind fun b=>(Qu b.2.2.length f.length).bind fun _=>cond (decide ((w64 (b.1 - a.1)) < (w64 (a.2.1 - b.1)))) ((rec b.2.2 a.1 b.1 c.1).bind fun o=>(Qu o.length b.2.2.length).bind fun _=>some (.inl (w64 (b.1 + 1),a.2.1,c.1,decide ((w64 (b.1 - a.1)) ≥ (w64 (Int.tdiv (w64 (a.2.1 - a.1)) 8))),b.2.1,o))) ((rec b.2.2 (w64 (b.1 + 1)) a.2.1 c.1).bind fun p=>(Qu p.length b.2.2.length).bind fun _=>some (.inl (a.1,b.1,c.1,decide ((w64 (a.2.1 - b.1)) ≥ (w64 (Int.tdiv (w64 (a.2.1 - a.1)) 8))),b.2.1,p)))) | .inr x=>some (.inr x))))
noncomputable def q4c (rec : List Int→Int→Int→Int→Option (List Int)) (a : List Int) (b : Int) (c : Int) (d : Int) : Option (List Int):=
  (loop (q4b rec) (b,c,d,true,true,a)).bind fun f=>some f
noncomputable def q6r : Nat→List Int→Int→Int→Int→Option (List Int)
  | 0,_,_,_,_=>none
  | n + 1,a,b,c,d=>q4c (q6r n)  a b c d
noncomputable def U2 (a : List Int) : Option (List Int):=
  (Ut (IntKind.wrap .u64 (a.length : Int))).bind fun c=>(lim (fun n=>q6r n a 0 (a.length : Int) c)).bind fun b=>(Qu b.length a.length).bind fun _=>some b
noncomputable def q1n (a : Int × (Nat × Nat) × Int × List Int) : Option ((Int × (Nat × Nat) × Int × List Int) ⊕ (Int × List Int)):=
  cond (decide (a.2.2.1 < (a.2.1.2 : Int))) (((idxW a.2.2.2 a.2.1 a.2.2.1).bind fun c=>(idxW a.2.2.2 a.2.1 (w64 (a.2.2.1 - 1))).bind fun d=>cond (c != d) ((idxW a.2.2.2 a.2.1 a.2.2.1).bind fun f=>(idx a.2.2.2 a.1).bind fun _=>some (w64 (a.1 + 1),a.2.1,a.2.2.2.set a.1.toNat f)) (some (a.1,a.2.1,a.2.2.2))).bind fun b=>some (.inl (b.1,b.2.1,w64 (a.2.2.1 + 1),b.2.2))) (some (.inr (a.1,a.2.2.2)))
noncomputable def Jl (a : List Int) (b : Int) : Option ((Int) ⊕ ((Unit) ⊕ ((Nat × Nat) × List Int))):=
  cond (decide (b < (a.length : Int))) ((idx a b).bind fun d=>(idx a (w64 (b - 1))).bind fun f=>cond (d == f) ((sub2 a.length b a.length).bind fun g=>(loop q1n (b,g,1,a)).bind fun c=>(sub2 c.2.length c.1 c.2.length).bind fun h=>(sub2 c.2.length 0 c.1).bind fun j=>some (.inr (.inr (j,clrw c.2 h 0)))) (some (.inl (w64 (b + 1))))) (some (.inr (.inl ())))
noncomputable def Uv (a : List Int) : Option ((Nat × Nat) × List Int):=
  cond (decide ((a.length : Int) < 2)) (some ((0,a.length),a)) ((loop (Jl a) 1 : Option ((Unit) ⊕ ((Nat × Nat) × List Int))).bind fun b=>(match b with | .inl _=>some ((0,a.length),a) | .inr c=>some c))
structure qk where
  X0 : Int
  Y0 : Int
  X1 : Int
  Y1 : Int
  deriving DecidableEq
def Q8 (x : qk) : List DV:=[.int .i64 x.X0,.int .i64 x.Y0,.int .i64 x.X1,.int .i64 x.Y1]
noncomputable def q42 (b : List qk) (c : qk→Option Bool) (a : Int) : Option ((Int) ⊕ ((Unit) ⊕ (Int))):=
  cond (decide (a < (b.length : Int))) ((idx b a).bind fun d=>(c d).bind fun f=>cond f (some (.inr (.inr a))) (some (.inl (w64 (a + 1))))) (some (.inr (.inl ())))
noncomputable def qc2 (a : List qk) (b : qk→Option Bool) : Option Int:=
  (loop (q42 a b) 0 : Option ((Unit) ⊕ (Int))).bind fun c=>(match c with | .inl _=>some (-1) | .inr d=>some d)
noncomputable def q8q (a : List qk) (b : qk→Option Bool) : Option Bool:=
  (qc2 a b).bind fun c=>some (decide (c ≥ 0))
noncomputable def q2o (a : Int) : Option Bool:=
  (cond (decide (a ≥ (-1000000))) (some (decide (a≤1000000))) (some false)).bind fun b=>some b
noncomputable def q5r (a : qk) : Option Bool:=
  (cond (decide (a.X0 < a.X1)) (some (decide (a.Y0 < a.Y1))) (some false)).bind fun b=>(cond b ((q2o a.X0).bind fun c=>some c) (some false)).bind fun d=>(cond d ((q2o a.X1).bind fun f=>some f) (some false)).bind fun g=>(cond g ((q2o a.Y0).bind fun h=>some h) (some false)).bind fun j=>(cond j ((q2o a.Y1).bind fun k=>some k) (some false)).bind fun l=>some l
noncomputable def q2n (a : qk) : Option Bool:=
  (q5r a).bind fun b=>some (!b)
def Ks (x : List qk) : List DV:=[.sl 4 (x.map Q8)]
structure qi where
  Lo : Int
  Hi : Int
  deriving DecidableEq
def Qi (x : qi) : List DV:=[.int .i64 x.Lo,.int .i64 x.Hi]
noncomputable def q2s (b : List qi) (c : qi→Option Bool) (a : Int) : Option ((Int) ⊕ ((Unit) ⊕ (Int))):=
  cond (decide (a < (b.length : Int))) ((idx b a).bind fun d=>(c d).bind fun f=>cond f (some (.inr (.inr a))) (some (.inl (w64 (a + 1))))) (some (.inr (.inl ())))
noncomputable def q8v (a : List qi) (b : qi→Option Bool) : Option Int:=
  (loop (q2s a b) 0 : Option ((Unit) ⊕ (Int))).bind fun c=>(match c with | .inl _=>some (-1) | .inr d=>some d)
noncomputable def q8t (a : List qi) (b : qi→Option Bool) : Option Bool:=
  (q8v a b).bind fun c=>some (decide (c ≥ 0))
noncomputable def q2y (a : qi) : Option Bool:=
  (cond (decide (a.Lo < a.Hi)) (some (decide (a.Lo ≥ (-1000000)))) (some false)).bind fun b=>(cond b (some (decide (a.Hi≤1000000))) (some false)).bind fun c=>some c
noncomputable def qcc (a : qi) : Option Bool:=
  (q2y a).bind fun b=>some (!b)
def q12 (x : List qi) : List DV:=[.sl 2 (x.map Qi)]
structure qj where
  at_ : Int
  list_ : Int
  by_ : Int
  deriving DecidableEq
def Qa (x : qj) : List DV:=[.int .i64 x.at_,.int .i64 x.list_,.int .i64 x.by_]
noncomputable def q9y (a : qj) (b : qj) : Option Int:=
  some (w64 (a.at_ - b.at_))
noncomputable def q97 (c : Int) (d : qj→qj→Option Int) (a : Int × List qj) : Option ((Int × List qj) ⊕ (List qj)):=
  (cond (decide (a.1 > c)) ((idx a.2 a.1).bind fun f=>(idx a.2 (w64 (a.1 - 1))).bind fun g=>(d f g).bind fun h=>some (decide (h < 0))) (some false)).bind fun j=>cond j ((idx a.2 (w64 (a.1 - 1))).bind fun b=>(idx a.2 a.1).bind fun k=>(idx a.2 a.1).bind fun _=>(idx (a.2.set a.1.toNat b) (w64 (a.1 - 1))).bind fun _=>some (.inl (w64 (a.1 - 1),(a.2.set a.1.toNat b).set (w64 (a.1 - 1)).toNat k))) (some (.inr a.2))
noncomputable def q96 (b : Int) (c : Int) (d : qj→qj→Option Int) (a : Int × List qj) : Option ((Int × List qj) ⊕ (List qj)):=
  cond (decide (a.1 < b)) (((loop (q97 c d) (a.1,a.2)).bind fun f=>some f).bind fun g=>some (.inl (w64 (a.1 + 1),g))) (some (.inr a.2))
noncomputable def q95 (b : qj→qj→Option Int) (c : List qj) (a : Int) (d : Int) : Option (List qj):=
  (loop (q96 d a b) (w64 (a + 1),c)).bind fun f=>some f
noncomputable def q9p (d : Int) (b : Int) (f : qj→qj→Option Int) (a : Int × List qj) : Option ((Int × List qj) ⊕ (List qj)):=
  cond (decide ((w64 ((w64 (2 * a.1)) + 1)) ≥ d)) (some (.inr a.2)) ((cond (decide ((w64 ((w64 ((w64 (2 * a.1)) + 1)) + 1)) < d)) ((idx a.2 (w64 (b + (w64 ((w64 (2 * a.1)) + 1))))).bind fun h=>(idx a.2 (w64 ((w64 (b + (w64 ((w64 (2 * a.1)) + 1)))) + 1))).bind fun j=>(f h j).bind fun k=>some (decide (k < 0))) (some false)).bind fun l=>(cond l (some (w64 ((w64 ((w64 (2 * a.1)) + 1)) + 1))) (some (w64 ((w64 (2 * a.1)) + 1)))).bind fun c=>(idx a.2 (w64 (b + a.1))).bind fun m=>(idx a.2 (w64 (b + c))).bind fun n=>(f m n).bind fun o=>cond (!(decide (o < 0))) (some (.inr a.2)) ((idx a.2 (w64 (b + c))).bind fun g=>(idx a.2 (w64 (b + a.1))).bind fun p=>(idx a.2 (w64 (b + a.1))).bind fun _=>(idx (a.2.set (w64 (b + a.1)).toNat g) (w64 (b + c))).bind fun _=>some (.inl (c,(a.2.set (w64 (b + a.1)).toNat g).set (w64 (b + c)).toNat p))))
noncomputable def q6t (a : qj→qj→Option Int) (b : List qj) (c : Int) (d : Int) (f : Int) : Option (List qj):=
  (loop (q9p d f a) (c,b)).bind fun g=>some g
noncomputable def q93 (d : qj→qj→Option Int) (f : Int) (b : Int) (a : Int × List qj) : Option ((Int × List qj) ⊕ (List qj)):=
  cond (decide (a.1 ≥ 0)) ((q6t d a.2 a.1 (w64 (f - b)) b).bind fun c=>(Qu c.length a.2.length).bind fun _=>some (.inl (w64 (a.1 - 1),c))) (some (.inr a.2))
noncomputable def q94 (b : Int) (g : qj→qj→Option Int) (a : Int × List qj) : Option ((Int × List qj) ⊕ (List qj)):=
  cond (decide (a.1 ≥ 0)) ((idx a.2 (w64 (b + a.1))).bind fun c=>(idx a.2 b).bind fun d=>(idx a.2 b).bind fun _=>(idx (a.2.set b.toNat c) (w64 (b + a.1))).bind fun _=>(q6t g ((a.2.set b.toNat c).set (w64 (b + a.1)).toNat d) 0 a.1 b).bind fun f=>(Qu f.length ((a.2.set b.toNat c).set (w64 (b + a.1)).toNat d).length).bind fun _=>some (.inl (w64 (a.1 - 1),f))) (some (.inr a.2))
noncomputable def q92 (c : qj→qj→Option Int) (d : List qj) (a : Int) (b : Int) : Option (List qj):=
  (loop (q93 c b a) (w64 (Int.tdiv (w64 ((w64 (b - a)) - 1)) 2),d)).bind fun f=>(loop (q94 a c) (w64 ((w64 (b - a)) - 1),f)).bind fun g=>some g
noncomputable def q48 (f : qj→qj→Option Int) (c : List qj) (a : Int) (b : Int) (d : Int) : Option (Int × Int × Int):=
  (idx c b).bind fun g=>(idx c a).bind fun h=>(f g h).bind fun j=>cond (decide (j < 0)) (some (b,a,w64 (d + 1))) (some (a,b,d))
noncomputable def q69 (a : qj→qj→Option Int) (b : List qj) (g : Int) (h : Int) (j : Int) (k : Int) : Option (Int × Int):=
  (q48 a b g h k).bind fun c=>(q48 a b c.2.1 j c.2.2).bind fun d=>(q48 a b c.1 d.1 d.2.2).bind fun f=>some (f.2.1,f.2.2)
noncomputable def q46 (c : qj→qj→Option Int) (d : List qj) (a : Int) (f : Int) : Option (Int × Int):=
  (q69 c d (w64 (a - 1)) a (w64 (a + 1)) f).bind fun b=>some (b.1,b.2)
noncomputable def q91 (d : List qj) (a : Int) (b : Int) (f : qj→qj→Option Int) : Option (Int × Int):=
  (cond (decide ((w64 (b - a)) ≥ 8)) ((cond (decide ((w64 (b - a)) ≥ 50)) ((q46 f d (w64 (a + (w64 ((w64 (Int.tdiv (w64 (b - a)) 4)) * 1)))) 0).bind fun h=>(q46 f d (w64 (a + (w64 ((w64 (Int.tdiv (w64 (b - a)) 4)) * 2)))) h.2).bind fun j=>(q46 f d (w64 (a + (w64 ((w64 (Int.tdiv (w64 (b - a)) 4)) * 3)))) j.2).bind fun k=>some (h.1,j.1,k.1,k.2)) (some (w64 (a + (w64 ((w64 (Int.tdiv (w64 (b - a)) 4)) * 1))),w64 (a + (w64 ((w64 (Int.tdiv (w64 (b - a)) 4)) * 2))),w64 (a + (w64 ((w64 (Int.tdiv (w64 (b - a)) 4)) * 3))),0))).bind fun g=>(q69 f d g.1 g.2.1 g.2.2.1 g.2.2.2).bind fun l=>some (l.1,l.2)) (some (w64 (a + (w64 ((w64 (Int.tdiv (w64 (b - a)) 4)) * 2))),0))).bind fun c=>cond (c.2 == 0) (some (c.1,1)) (cond (c.2 == 12) (some (c.1,2)) (some (c.1,0)))
noncomputable def q9n (a : Int × Int × List qj) : Option ((Int × Int × List qj) ⊕ (List qj)):=
  cond (decide (a.1 < a.2.1)) ((idx a.2.2 a.2.1).bind fun b=>(idx a.2.2 a.1).bind fun c=>(idx a.2.2 a.1).bind fun _=>(idx (a.2.2.set a.1.toNat b) a.2.1).bind fun _=>some (.inl (w64 (a.1 + 1),w64 (a.2.1 - 1),(a.2.2.set a.1.toNat b).set a.2.1.toNat c))) (some (.inr a.2.2))
noncomputable def q9m (f : qj→qj→Option Int) (a : List qj) (b : Int) (c : Int) : Option (List qj):=
  (loop q9n (b,w64 (c - 1),a)).bind fun d=>some d
noncomputable def q98 (c : Int) (b : Int × Int × List qj) (d : qj→qj→Option Int) (a : Int) : Option ((Int) ⊕ (Int)):=
  (cond (decide (a < c)) ((idx b.2.2 a).bind fun f=>(idx b.2.2 (w64 (a - 1))).bind fun g=>(d f g).bind fun h=>some (!(decide (h < 0)))) (some false)).bind fun j=>cond j (some (.inl (w64 (a + 1)))) (some (.inr a))
noncomputable def q99 (c : qj→qj→Option Int) (a : Int × List qj) : Option ((Int × List qj) ⊕ (List qj)):=
  cond (decide (a.1 ≥ 1)) ((idx a.2 a.1).bind fun d=>(idx a.2 (w64 (a.1 - 1))).bind fun f=>(c d f).bind fun g=>cond (!(decide (g < 0))) (some (.inr a.2)) ((idx a.2 (w64 (a.1 - 1))).bind fun b=>(idx a.2 a.1).bind fun h=>(idx a.2 a.1).bind fun _=>(idx (a.2.set a.1.toNat b) (w64 (a.1 - 1))).bind fun _=>some (.inl (w64 (a.1 - 1),(a.2.set a.1.toNat b).set (w64 (a.1 - 1)).toNat h)))) (some (.inr a.2))
noncomputable def q9a (d : Int) (f : qj→qj→Option Int) (b : Int) (a : Int × List qj) : Option ((Int × List qj) ⊕ (Int × List qj)):=
  cond (decide (a.1 < d)) ((idx a.2 a.1).bind fun g=>(idx a.2 (w64 (a.1 - 1))).bind fun h=>(f g h).bind fun j=>cond (!(decide (j < 0))) (some (.inr (b,a.2))) ((idx a.2 (w64 (a.1 - 1))).bind fun c=>(idx a.2 a.1).bind fun k=>(idx a.2 a.1).bind fun _=>(idx (a.2.set a.1.toNat c) (w64 (a.1 - 1))).bind fun _=>some (.inl (w64 (a.1 + 1),(a.2.set a.1.toNat c).set (w64 (a.1 - 1)).toNat k)))) (some (.inr (b,a.2)))
noncomputable def q6b (c : Int) (d : qj→qj→Option Int) (h : Int) (b : Int × Int × List qj) : Option ((Int × Int × List qj) ⊕ ((List qj) ⊕ (Bool × List qj))):=
  cond (decide (b.2.1 < 5)) (((loop (q98 c b d) b.1).bind fun a=>cond (a == c) (some (.inr (true,b.2.2))) (cond (decide ((w64 (c - h)) < 50)) (some (.inr (false,b.2.2))) ((idx b.2.2 (w64 (a - 1))).bind fun f=>(idx b.2.2 a).bind fun j=>(idx b.2.2 a).bind fun _=>(idx (b.2.2.set a.toNat f) (w64 (a - 1))).bind fun _=>(cond (decide ((w64 (a - h)) ≥ 2)) ((loop (q99 d) (w64 (a - 1),(b.2.2.set a.toNat f).set (w64 (a - 1)).toNat j)).bind fun g=>some g) (some ((b.2.2.set a.toNat f).set (w64 (a - 1)).toNat j))).bind fun k=>cond (decide ((w64 (c - a)) ≥ 2)) ((loop (q9a c d a) (w64 (a + 1),k)).bind fun g=>some (.inl g)) (some (.inl (a,k))))) : Option ((Int × List qj) ⊕ (Bool × List qj))).bind fun m=>(match m with | .inl l=>some (.inl (l.1,w64 (b.2.1 + 1),l.2)) | .inr n=>some (.inr (.inr n)))) (some (.inr (.inl b.2.2)))
noncomputable def q6a (b : qj→qj→Option Int) (c : List qj) (a : Int) (d : Int) : Option (Bool × List qj):=
  (loop (q6b d b a) (w64 (a + 1),0,c) : Option ((List qj) ⊕ (Bool × List qj))).bind fun f=>(match f with | .inl g=>some (false,g) | .inr h=>some h)
noncomputable def q9k (b : Int × Int × List qj) (c : Int) (d : qj→qj→Option Int) (a : Int) : Option ((Int) ⊕ (Int)):=
  (cond (decide (a≤b.2.1)) ((idx b.2.2 c).bind fun f=>(idx b.2.2 a).bind fun g=>(d f g).bind fun h=>some (!(decide (h < 0)))) (some false)).bind fun j=>cond j (some (.inl (w64 (a + 1)))) (some (.inr a))
noncomputable def q9l (c : Int) (b : Int × Int × List qj) (d : Int) (f : qj→qj→Option Int) (a : Int) : Option ((Int) ⊕ (Int)):=
  (cond (decide (c≤a)) ((idx b.2.2 d).bind fun g=>(idx b.2.2 a).bind fun h=>(f g h).bind fun j=>some (decide (j < 0))) (some false)).bind fun k=>cond k (some (.inl (w64 (a - 1)))) (some (.inr a))
noncomputable def q9j (d : Int) (f : qj→qj→Option Int) (a : Int × Int × List qj) : Option ((Int × Int × List qj) ⊕ (Int × List qj)):=
  (loop (q9k a d f) a.1).bind fun b=>(loop (q9l b a d f) a.2.1).bind fun c=>cond (decide (b > c)) (some (.inr (b,a.2.2))) ((idx a.2.2 c).bind fun g=>(idx a.2.2 b).bind fun h=>(idx a.2.2 b).bind fun _=>(idx (a.2.2.set b.toNat g) c).bind fun _=>some (.inl (w64 (b + 1),w64 (c - 1),(a.2.2.set b.toNat g).set c.toNat h)))
noncomputable def q9i (g : qj→qj→Option Int) (b : List qj) (a : Int) (h : Int) (c : Int) : Option (Int × List qj):=
  (idx b c).bind fun d=>(idx b a).bind fun j=>(idx b a).bind fun _=>(idx (b.set a.toNat d) c).bind fun _=>(loop (q9j a g) (w64 (a + 1),w64 (h - 1),(b.set a.toNat d).set c.toNat j)).bind fun f=>some (f.1,f.2)
noncomputable def q9d (h : Int) (c : List qj) (b : Int) (d : qj) (f : Int) (g : qj) (j : qj→qj→Option Int) (a : Int) : Option ((Int) ⊕ (Int)):=
  (cond (decide (a≤(w64 (h - 1)))) ((idx ((c.set b.toNat d).set f.toNat g) a).bind fun k=>(idx ((c.set b.toNat d).set f.toNat g) b).bind fun l=>(j k l).bind fun m=>some (decide (m < 0))) (some false)).bind fun n=>cond n (some (.inl (w64 (a + 1)))) (some (.inr a))
noncomputable def q9e (h : Int) (c : List qj) (b : Int) (d : qj) (f : Int) (g : qj) (j : qj→qj→Option Int) (a : Int) : Option ((Int) ⊕ (Int)):=
  (cond (decide (h≤a)) ((idx ((c.set b.toNat d).set f.toNat g) a).bind fun k=>(idx ((c.set b.toNat d).set f.toNat g) b).bind fun l=>(j k l).bind fun m=>some (!(decide (m < 0)))) (some false)).bind fun n=>cond n (some (.inl (w64 (a - 1)))) (some (.inr a))
noncomputable def q9g (b : Int × Int × List qj) (c : Int) (d : qj→qj→Option Int) (a : Int) : Option ((Int) ⊕ (Int)):=
  (cond (decide (a≤b.2.1)) ((idx b.2.2 a).bind fun f=>(idx b.2.2 c).bind fun g=>(d f g).bind fun h=>some (decide (h < 0))) (some false)).bind fun j=>cond j (some (.inl (w64 (a + 1)))) (some (.inr a))
noncomputable def q9h (c : Int) (b : Int × Int × List qj) (d : Int) (f : qj→qj→Option Int) (a : Int) : Option ((Int) ⊕ (Int)):=
  (cond (decide (c≤a)) ((idx b.2.2 a).bind fun g=>(idx b.2.2 d).bind fun h=>(f g h).bind fun j=>some (!(decide (j < 0)))) (some false)).bind fun k=>cond k (some (.inl (w64 (a - 1)))) (some (.inr a))
noncomputable def q9f (d : Int) (f : qj→qj→Option Int) (a : Int × Int × List qj) : Option ((Int × Int × List qj) ⊕ (Int × List qj)):=
  (loop (q9g a d f) a.1).bind fun b=>(loop (q9h b a d f) a.2.1).bind fun c=>cond (decide (b > c)) (some (.inr (c,a.2.2))) ((idx a.2.2 c).bind fun g=>(idx a.2.2 b).bind fun h=>(idx a.2.2 b).bind fun _=>(idx (a.2.2.set b.toNat g) c).bind fun _=>some (.inl (w64 (b + 1),w64 (c - 1),(a.2.2.set b.toNat g).set c.toNat h)))
noncomputable def q9c (k : qj→qj→Option Int) (b : List qj) (a : Int) (l : Int) (c : Int) : Option (Int × Bool × List qj):=
  (idx b c).bind fun d=>(idx b a).bind fun f=>(idx b a).bind fun _=>(idx (b.set a.toNat d) c).bind fun _=>(loop (q9d l b a d c f k) (w64 (a + 1))).bind fun j=>(loop (q9e j b a d c f k) (w64 (l - 1))).bind fun g=>cond (decide (j > g)) ((idx ((b.set a.toNat d).set c.toNat f) a).bind fun m=>(idx ((b.set a.toNat d).set c.toNat f) g).bind fun p=>(idx ((b.set a.toNat d).set c.toNat f) g).bind fun _=>(idx (((b.set a.toNat d).set c.toNat f).set g.toNat m) a).bind fun _=>some (g,true,(((b.set a.toNat d).set c.toNat f).set g.toNat m).set a.toNat p)) ((idx ((b.set a.toNat d).set c.toNat f) g).bind fun n=>(idx ((b.set a.toNat d).set c.toNat f) j).bind fun q=>(idx ((b.set a.toNat d).set c.toNat f) j).bind fun _=>(idx (((b.set a.toNat d).set c.toNat f).set j.toNat n) g).bind fun _=>(loop (q9f a k) (w64 (j + 1),w64 (g - 1),(((b.set a.toNat d).set c.toNat f).set j.toNat n).set g.toNat q)).bind fun h=>(idx h.2 a).bind fun o=>(idx h.2 h.1).bind fun r=>(idx h.2 h.1).bind fun _=>(idx (h.2.set h.1.toNat o) a).bind fun _=>some (h.1,false,(h.2.set h.1.toNat o).set a.toNat r))
noncomputable def q90 (b : Int) (d : Int) (f : Int) (a : Int × List qj × Int) : Option ((Int × List qj × Int) ⊕ (List qj)):=
  cond (decide (a.1≤(w64 ((w64 (b + (w64 ((w64 (Int.tdiv (w64 (d - b)) 4)) * 2)))) + 1)))) ((q1p a.2.2).bind fun c=>(cond (decide ((w64 (andI .u64 c (IntKind.wrap .u64 (f - 1)))) ≥ (w64 (d - b)))) (some (w64 ((w64 (andI .u64 c (IntKind.wrap .u64 (f - 1)))) - (w64 (d - b))))) (some (w64 (andI .u64 c (IntKind.wrap .u64 (f - 1)))))).bind fun g=>(idx a.2.1 (w64 (b + g))).bind fun h=>(idx a.2.1 a.1).bind fun j=>(idx a.2.1 a.1).bind fun _=>(idx (a.2.1.set a.1.toNat h) (w64 (b + g))).bind fun _=>some (.inl (w64 (a.1 + 1),(a.2.1.set a.1.toNat h).set (w64 (b + g)).toNat j,c))) (some (.inr a.2.1))
noncomputable def q8z (g : qj→qj→Option Int) (c : List qj) (a : Int) (b : Int) : Option (List qj):=
  cond (decide ((w64 (b - a)) ≥ 8)) ((q1o (w64 (b - a))).bind fun d=>(loop (q90 a b d) (w64 ((w64 (a + (w64 ((w64 (Int.tdiv (w64 (b - a)) 4)) * 2)))) - 1),c,IntKind.wrap .u64 (w64 (b - a)))).bind fun f=>some f) (some c)
noncomputable def q6p (c : qj→qj→Option Int) (rec : List qj→Int→Int→Int→Option (List qj)) (a : Int × Int × Int × Bool × Bool × List qj) : Option ((Int × Int × Int × Bool × Bool × List qj) ⊕ (List qj)):=
  cond (decide ((w64 (a.2.1 - a.1))≤12)) ((q95 c a.2.2.2.2.2 a.1 a.2.1).bind fun l=>(Qu l.length a.2.2.2.2.2.length).bind fun _=>some (.inr l)) (cond (a.2.2.1 == 0) ((q92 c a.2.2.2.2.2 a.1 a.2.1).bind fun m=>(Qu m.length a.2.2.2.2.2.length).bind fun _=>some (.inr m)) ((cond (!a.2.2.2.1) ((q8z c a.2.2.2.2.2 a.1 a.2.1).bind fun n=>(Qu n.length a.2.2.2.2.2.length).bind fun _=>some (w64 (a.2.2.1 - 1),n)) (some (a.2.2.1,a.2.2.2.2.2))).bind fun d=>(q91 d.2 a.1 a.2.1 c).bind fun h=>(cond (h.2 == 2) ((q9m c d.2 a.1 a.2.1).bind fun o=>(Qu o.length d.2.length).bind fun _=>some (w64 ((w64 (a.2.1 - 1)) - (w64 (h.1 - a.1))),1,o)) (some (h.1,h.2,d.2))).bind fun f=>(cond a.2.2.2.1 (some a.2.2.2.2.1) (some false)).bind fun r=>(cond r (some (f.2.1 == 1)) (some false)).bind fun s=>(cond s ((q6a c f.2.2 a.1 a.2.1).bind fun j=>(Qu j.2.length f.2.2.length).bind fun _=>cond j.1 (some (.inr j.2)) (some (.inl j.2))) (some (.inl f.2.2)) : Option ((List qj) ⊕ (List qj))).bind fun t=>(match t with | .inl g=>(cond (decide (a.1 > 0)) ((idx g (w64 (a.1 - 1))).bind fun u=>(idx g f.1).bind fun v=>(c u v).bind fun w=>some (!(decide (w < 0)))) (some false)).bind fun x=>cond x ((q9i c g a.1 a.2.1 f.1).bind fun k=>(Qu k.2.length g.length).bind fun _=>some (.inl (k.1,a.2.1,d.1,a.2.2.2.1,a.2.2.2.2.1,k.2))) ((q9c c g a.1 a.2.1 f.1).bind fun b=>(Qu b.2.2.length g.length).bind fun _=>cond (decide ((w64 (b.1 - a.1)) < (w64 (a.2.1 - b.1)))) ((rec b.2.2 a.1 b.1 d.1).bind fun p=>(Qu p.length b.2.2.length).bind fun _=>some (.inl (w64 (b.1 + 1),a.2.1,d.1,decide ((w64 (b.1 - a.1)) ≥ (w64 (Int.tdiv (w64 (a.2.1 - a.1)) 8))),b.2.1,p))) ((rec b.2.2 (w64 (b.1 + 1)) a.2.1 d.1).bind fun q=>(Qu q.length b.2.2.length).bind fun _=>some (.inl (a.1,b.1,d.1,decide ((w64 (a.2.1 - b.1)) ≥ (w64 (Int.tdiv (w64 (a.2.1 - a.1)) 8))),b.2.1,q)))) | .inr y=>some (.inr y))))
noncomputable def q6q (rec : List qj→Int→Int→Int→Option (List qj)) (a : qj→qj→Option Int) (b : List qj) (c : Int) (d : Int) (f : Int) : Option (List qj):=
  (loop (q6p a rec) (c,d,f,true,true,b)).bind fun g=>some g
noncomputable def q6o : Nat→(qj→qj→Option Int)→List qj→Int→Int→Int→Option (List qj)
  | 0,_,_,_,_,_=>none
  | n + 1,a,b,c,d,f=>q6q (q6o n a) a b c d f
noncomputable def q5z (c : qj→qj→Option Int) (a : List qj) : Option (List qj):=
  (Ut (IntKind.wrap .u64 (a.length : Int))).bind fun d=>(lim (fun n=>q6o n c a 0 (a.length : Int) d)).bind fun b=>(Qu b.length a.length).bind fun _=>some b
noncomputable def qc6 (a : List qj) : Option (List qj):=
  some a
noncomputable def q4g (b : List qi) (c : Int × List qj) (a : Int × List qj) : Option ((Int × List qj) ⊕ (List qj)):=
  cond (decide (a.1 < (b.length : Int))) ((idx b a.1).bind fun d=>(app 24 a.2 [({at_:=d.Lo,list_:=c.1,by_:=1} : qj),({at_:=d.Hi,list_:=c.1,by_:=(-1)} : qj)]).bind fun f=>some (.inl (w64 (a.1 + 1),f))) (some (.inr a.2))
noncomputable def Uw (b : List (List qi)) (a : Int × List qj) : Option ((Int × List qj) ⊕ (List qj)):=
  cond (decide (a.1 < (b.length : Int))) (((idx b a.1).bind fun c=>(loop (q4g c a) (0,a.2)).bind fun d=>some d).bind fun f=>some (.inl (w64 (a.1 + 1),f))) (some (.inr a.2))
noncomputable def q9z (b : List (List qi)) : Option (List (List qi) × List qj):=
  (loop (Uw b) (0,[])).bind fun c=>(q5z (fun f g=>q9y f g) c).bind fun a=>(Qu a.length c.length).bind fun _=>(qc6 a).bind fun d=>(Qu d.length a.length).bind fun _=>some (b,d)
noncomputable def qa0 (d : Int) (c : Bool) (b : Int) (a : List qi) : Option (Bool × Int × List qi):=
  (cond (!c) (some true) (some (b == d))).bind fun f=>cond f (some (c,b,a)) ((cond (decide ((a.length : Int) > 0)) ((idx a (w64 ((a.length : Int) - 1))).bind fun g=>some (g.Hi == b)) (some false)).bind fun h=>cond h ((idx a (w64 ((a.length : Int) - 1))).bind fun j=>some (c,b,a.set (w64 ((a.length : Int) - 1)).toNat ({Lo:=j.Lo,Hi:=d} : qi))) ((app 16 a [({Lo:=b,Hi:=d} : qi)]).bind fun k=>some (c,b,k)))
noncomputable def q4h (f : List (List qi) × List qj) (g : Bool→Bool→Option Bool) (a : Int × List Int × Int × Bool × List qi) : Option ((Int × List Int × Int × Bool × List qi) ⊕ (List qi)):=
  cond (decide (a.1 < (f.2.length : Int))) ((idx f.2 a.1).bind fun b=>((qa0 b.at_ a.2.2.2.1 a.2.2.1 a.2.2.2.2).bind fun h=>(idxA 2 a.2.1 b.list_).bind fun c=>(idxA 2 a.2.1 b.list_).bind fun _=>(idxA 2 (a.2.1.set b.list_.toNat (w64 (c + b.by_))) 0).bind fun j=>(idxA 2 (a.2.1.set b.list_.toNat (w64 (c + b.by_))) 1).bind fun k=>(g (decide (j > 0)) (decide (k > 0))).bind fun l=>some (a.2.1.set b.list_.toNat (w64 (c + b.by_)),l,h.2.2)).bind fun d=>some (.inl (w64 (a.1 + 1),d.1,b.at_,d.2.1,d.2.2))) (some (.inr a.2.2.2.2))
noncomputable def q2x (a : List qi) (b : List qi) (d : Bool→Bool→Option Bool) : Option (List qi):=
  (q9z [a,b]).bind fun c=>(Qu c.1.length [a,b].length).bind fun _=>((loop (q4h c d) (0,[0,0],0,false,[])).bind fun f=>some f).bind fun g=>some g
noncomputable def q9x (a : Bool) (b : Bool) : Option Bool:=
  some a
noncomputable def q71 (a : List qi) : Option (List qi × Int):=
  cond (decide ((a.length : Int) > 400)) (some ([],4)) ((q8t a (fun b=>qcc b)).bind fun c=>cond c (some ([],8)) ((q2x a [] (fun b d=>q9x b d)).bind fun f=>some (f,0)))
noncomputable def qc0 (b : List qi) (f : List qi) (a : Int) : Option ((Int) ⊕ ((Unit) ⊕ (Bool))):=
  cond (decide (a < (b.length : Int))) ((idx b a).bind fun c=>(idx f a).bind fun d=>cond (!((c.Lo == d.Lo) && ((c.Hi == d.Hi) && true))) (some (.inr (.inr false))) (some (.inl (w64 (a + 1))))) (some (.inr (.inl ())))
noncomputable def q8u (a : List qi) (b : List qi) : Option Bool:=
  cond ((a.length : Int) != (b.length : Int)) (some false) ((loop (qc0 a b) 0 : Option ((Unit) ⊕ (Bool))).bind fun c=>(match c with | .inl _=>some true | .inr d=>some d))
noncomputable def q5n (c : Int) (a : Int × List qk) : Option ((Int × List qk) ⊕ (List qk)):=
  cond (decide (a.1 < (a.2.length : Int))) ((idx a.2 a.1).bind fun b=>some (.inl (w64 (a.1 + 1),a.2.set a.1.toNat ({X0:=b.X0,Y0:=b.Y0,X1:=c,Y1:=b.Y1} : qk)))) (some (.inr a.2))
noncomputable def q5o (b : List qi) (f : Int) (c : Int) (g : List qk) (a : Int × List qk) : Option ((Int × List qk) ⊕ (List qi × Int × Int × List qk)):=
  cond (decide (a.1 < (b.length : Int))) ((idx b a.1).bind fun d=>(app 32 a.2 [({X0:=f,Y0:=d.Lo,X1:=c,Y1:=d.Hi} : qk)]).bind fun h=>some (.inl (w64 (a.1 + 1),h))) (some (.inr (b,(g.length : Int),c,a.2)))
noncomputable def q5m (a : List qk) (d : List qi) (f : Int) (h : Int) (g : Int) (b : Int) (c : List qi) : Option (List qi × Int × Int × List qk):=
  (cond (decide ((c.length : Int) > 0)) (some (h == g)) (some false)).bind fun j=>(cond j ((q8u d c).bind fun k=>some k) (some false)).bind fun l=>cond l ((loop (q5n b) (f,a)).bind fun m=>some (d,f,b,m)) ((loop (q5o c g b a) (0,a)).bind fun n=>some n)
noncomputable def J8 (b : List qk) (a : Int × List Int) : Option ((Int × List Int) ⊕ (List Int)):=
  cond (decide (a.1 < (b.length : Int))) ((idx b a.1).bind fun c=>(app 8 a.2 [c.X0,c.X1]).bind fun d=>some (.inl (w64 (a.1 + 1),d))) (some (.inr a.2))
noncomputable def Ub (c : List qk) (d : Int) (a : Int × List qi) : Option ((Int × List qi) ⊕ (List qi)):=
  cond (decide (a.1 < (c.length : Int))) (((idx c a.1).bind fun b=>(cond (decide (b.X0≤d)) (some (decide (d < b.X1))) (some false)).bind fun f=>cond f ((app 16 a.2 [({Lo:=b.Y0,Hi:=b.Y1} : qi)]).bind fun g=>some g) (some a.2)).bind fun h=>some (.inl (w64 (a.1 + 1),h))) (some (.inr a.2))
noncomputable def q2p (d : List Int) (g : List qk) (a : Int × List qi × Int × Int × List qk) : Option ((Int × List qi × Int × Int × List qk) ⊕ (List qi × Int × Int × List qk)):=
  cond (decide (a.1 < (d.length : Int))) ((idx d (w64 (a.1 - 1))).bind fun f=>(idx d a.1).bind fun h=>((idx [g] 0).bind fun j=>(loop (Ub j f) (0,[])).bind fun k=>some k).bind fun l=>((q71 l).bind fun m=>(q5m a.2.2.2.2 a.2.1 a.2.2.1 a.2.2.2.1 f h m.1).bind fun b=>some (b.1,b.2.1,b.2.2.1,b.2.2.2)).bind fun c=>some (.inl (w64 (a.1 + 1),c.1,c.2.1,c.2.2.1,c.2.2.2))) (some (.inr (a.2.1,a.2.2.1,a.2.2.2.1,a.2.2.2.2)))
noncomputable def q5q (d : List qk) : Option (List qk × Int):=
  (((idx [d] 0).bind fun j=>(loop (J8 j) (0,[])).bind fun b=>some b).bind fun f=>(U2 f).bind fun c=>(Qu c.length f.length).bind fun _=>(Uv c).bind fun a=>(Qu a.2.length c.length).bind fun _=>(Ux a.2.length a.1).bind fun _=>some ((a.2.drop a.1.1).take a.1.2)).bind fun k=>((loop (q2p k d) (1,[],0,0,[])).bind fun b=>some b).bind fun g=>(cond (decide ((g.2.2.2.length : Int) > 400)) (some (4,[])) (some (0,g.2.2.2))).bind fun h=>some (h.2,h.1)
noncomputable def q1k (a : List qk) : Option (List qk × Int):=
  cond (decide ((a.length : Int) > 400)) (some ([],4)) ((q8q a (fun c=>q2n c)).bind fun d=>cond d (some ([],8)) ((q5q a).bind fun b=>some (b.1,b.2)))
noncomputable def qby (d : List qk) (f : List qk) (a : Int) : Option ((Int) ⊕ ((Unit) ⊕ (Bool))):=
  cond (decide (a < (d.length : Int))) ((idx d a).bind fun b=>(idx f a).bind fun c=>cond (!((b.X0 == c.X0) && ((b.Y0 == c.Y0) && ((b.X1 == c.X1) && ((b.Y1 == c.Y1) && true))))) (some (.inr (.inr false))) (some (.inl (w64 (a + 1))))) (some (.inr (.inl ())))
noncomputable def q5w (a : List qk) (b : List qk) : Option Bool:=
  cond ((a.length : Int) != (b.length : Int)) (some false) ((loop (qby a b) 0 : Option ((Unit) ⊕ (Bool))).bind fun c=>(match c with | .inl _=>some true | .inr d=>some d))
noncomputable def q6x (c : Int) (a : Int × List qw) : Option ((Int × List qw) ⊕ (List qw)):=
  cond (decide (a.1 < (a.2.length : Int))) ((idx a.2 a.1).bind fun b=>some (.inl (w64 (a.1 + 1),a.2.set a.1.toNat ({Lo:=b.Lo,Hi:=({X:=b.Hi.X,Y:=b.Hi.Y,Z:=c} : qm)} : qw)))) (some (.inr a.2))
noncomputable def q6y (c : List qk) (f : Int) (d : Int) (g : List qw) (a : Int × List qw) : Option ((Int × List qw) ⊕ (List qk × Int × Int × List qw)):=
  cond (decide (a.1 < (c.length : Int))) ((idx c a.1).bind fun b=>(app 48 a.2 [({Lo:=({X:=b.X0,Y:=b.Y0,Z:=f} : qm),Hi:=({X:=b.X1,Y:=b.Y1,Z:=d} : qm)} : qw)]).bind fun h=>some (.inl (w64 (a.1 + 1),h))) (some (.inr (c,(g.length : Int),d,a.2)))
noncomputable def q6w (a : List qw) (d : List qk) (f : Int) (h : Int) (g : Int) (b : Int) (c : List qk) : Option (List qk × Int × Int × List qw):=
  (cond (decide ((c.length : Int) > 0)) (some (h == g)) (some false)).bind fun j=>(cond j ((q5w d c).bind fun k=>some k) (some false)).bind fun l=>cond l ((loop (q6x b) (f,a)).bind fun m=>some (d,f,b,m)) ((loop (q6y c g b a) (0,a)).bind fun n=>some n)
noncomputable def q1q (b : List qw) (a : Int × List Int) : Option ((Int × List Int) ⊕ (List Int)):=
  cond (decide (a.1 < (b.length : Int))) ((idx b a.1).bind fun c=>(app 8 a.2 [c.Lo.Z,c.Hi.Z]).bind fun d=>some (.inl (w64 (a.1 + 1),d))) (some (.inr a.2))
noncomputable def q1r (c : List qw) (d : Int) (a : Int × List qk) : Option ((Int × List qk) ⊕ (List qk)):=
  cond (decide (a.1 < (c.length : Int))) (((idx c a.1).bind fun b=>(cond (decide (b.Lo.Z≤d)) (some (decide (d < b.Hi.Z))) (some false)).bind fun f=>cond f ((app 32 a.2 [({X0:=b.Lo.X,Y0:=b.Lo.Y,X1:=b.Hi.X,Y1:=b.Hi.Y} : qk)]).bind fun g=>some g) (some a.2)).bind fun h=>some (.inl (w64 (a.1 + 1),h))) (some (.inr a.2))
noncomputable def q4f (d : List Int) (h : List qw) (a : Int × List qk × Int × Int × List qw) : Option ((Int × List qk × Int × Int × List qw) ⊕ ((List qk × Int × Int × List qw) ⊕ (List qw × Int))):=
  cond (decide (a.1 < (d.length : Int))) ((idx d (w64 (a.1 - 1))).bind fun g=>(idx d a.1).bind fun j=>((idx [h] 0).bind fun k=>(loop (q1r k g) (0,[])).bind fun l=>some l).bind fun m=>((q1k m).bind fun f=>cond (f.2 != 0) (some (.inr ([],f.2))) ((q6w a.2.2.2.2 a.2.1 a.2.2.1 a.2.2.2.1 g j f.1).bind fun b=>some (.inl (b.1,b.2.1,b.2.2.1,b.2.2.2))) : Option ((List qk × Int × Int × List qw) ⊕ (List qw × Int))).bind fun n=>(match n with | .inl c=>some (.inl (w64 (a.1 + 1),c.1,c.2.1,c.2.2.1,c.2.2.2)) | .inr o=>some (.inr (.inr o)))) (some (.inr (.inl (a.2.1,a.2.2.1,a.2.2.2.1,a.2.2.2.2))))
noncomputable def q9u (f : List qw) : Option (List qw × Int):=
  (((idx [f] 0).bind fun j=>(loop (q1q j) (0,[])).bind fun b=>some b).bind fun g=>(U2 g).bind fun c=>(Qu c.length g.length).bind fun _=>(Uv c).bind fun a=>(Qu a.2.length c.length).bind fun _=>(Ux a.2.length a.1).bind fun _=>some ((a.2.drop a.1.1).take a.1.2)).bind fun k=>((loop (q4f k f) (1,[],0,0,[]) : Option ((List qk × Int × Int × List qw) ⊕ (List qw × Int))).bind fun l=>(match l with | .inl b=>some (.inl b) | .inr d=>some (.inr d)) : Option ((List qk × Int × Int × List qw) ⊕ (List qw × Int))).bind fun m=>(match m with | .inl h=>cond (decide ((h.2.2.2.length : Int) > 400)) (some ([],4)) (some (h.2.2.2,0)) | .inr d=>some d)
noncomputable def qft (d : List qw) (f : List qw) (c : Int) : Option ((Int) ⊕ ((Unit) ⊕ (Bool))):=
  cond (decide (c < (d.length : Int))) ((idx d c).bind fun a=>(idx f c).bind fun b=>cond (!((a.Lo.X == b.Lo.X) && ((a.Lo.Y == b.Lo.Y) && ((a.Lo.Z == b.Lo.Z) && ((a.Hi.X == b.Hi.X) && ((a.Hi.Y == b.Hi.Y) && ((a.Hi.Z == b.Hi.Z) && true))))))) (some (.inr (.inr false))) (some (.inl (w64 (c + 1))))) (some (.inr (.inl ())))
noncomputable def qbz (a : List qw) (b : List qw) : Option Bool:=
  cond ((a.length : Int) != (b.length : Int)) (some false) ((loop (qft a b) 0 : Option ((Unit) ⊕ (Bool))).bind fun c=>(match c with | .inl _=>some true | .inr d=>some d))
noncomputable def q6v (a : List qw) : Option Int:=
  cond (decide ((a.length : Int) > 400)) (some 4) ((q8s a (fun c=>q2v c)).bind fun d=>cond d (some 8) ((q9u a).bind fun b=>(cond (b.2 != 0) (some true) ((qbz b.1 a).bind fun f=>some (!f))).bind fun g=>cond g (some 8) (some 0)))
structure Ki where
  Turn : Int
  At : qm
  deriving DecidableEq
noncomputable def q25 (a : qm) (b : Int) : Option Bool:=
  (cond (decide ((min (min a.X a.Y) a.Z) ≥ b)) (some (decide ((max (max a.X a.Y) a.Z)≤1000000))) (some false)).bind fun c=>some c
noncomputable def q15 (a : Ki) : Option Int:=
  (cond (decide (a.Turn ≥ 24)) (some true) ((q25 a.At (-1000000)).bind fun b=>some (!b))).bind fun c=>cond c (some 8) (some 0)
noncomputable def qay (a : Int) : Option qm:=
  cond ((IntKind.wrap .u8 (Int.tdiv a 2)) == 0) (some ({X:=w64 (1 - (w64 (2 * (w64 (Int.tmod a 2))))),Y:=0,Z:=0} : qm)) (cond ((IntKind.wrap .u8 (Int.tdiv a 2)) == 1) (some ({X:=0,Y:=w64 (1 - (w64 (2 * (w64 (Int.tmod a 2))))),Z:=0} : qm)) (some ({X:=0,Y:=0,Z:=w64 (1 - (w64 (2 * (w64 (Int.tmod a 2)))))} : qm)))
noncomputable def qe4 (a : qm) (b : qm) : Option qm:=
  some ({X:=w64 ((w64 (a.Y * b.Z)) - (w64 (a.Z * b.Y))),Y:=w64 ((w64 (a.Z * b.X)) - (w64 (a.X * b.Z))),Z:=w64 ((w64 (a.X * b.Y)) - (w64 (a.Y * b.X)))} : qm)
noncomputable def q24 (a : Int) : Option (qm × qm × qm):=
  (cond (decide ((Int.tmod a 4) ≥ (IntKind.wrap .u8 ((IntKind.wrap .u8 (Int.tdiv (IntKind.wrap .u8 (Int.tdiv a 4)) 2)) * 2)))) (some (IntKind.wrap .u8 ((Int.tmod a 4) + 2))) (some (Int.tmod a 4))).bind fun d=>(qay (IntKind.wrap .u8 (Int.tdiv a 4))).bind fun b=>(qay d).bind fun c=>(qe4 b c).bind fun f=>some (b,c,f)
noncomputable def q51 (a : qm × qm × qm) (b : qm) : Option qm:=
  some ({X:=w64 ((w64 ((w64 (b.X * a.1.X)) + (w64 (b.Y * a.2.1.X)))) + (w64 (b.Z * a.2.2.X))),Y:=w64 ((w64 ((w64 (b.X * a.1.Y)) + (w64 (b.Y * a.2.1.Y)))) + (w64 (b.Z * a.2.2.Y))),Z:=w64 ((w64 ((w64 (b.X * a.1.Z)) + (w64 (b.Y * a.2.1.Z)))) + (w64 (b.Z * a.2.2.Z)))} : qm)
noncomputable def q3i (a : Ki) (c : qm) : Option qm:=
  (q24 a.Turn).bind fun d=>(q51 d c).bind fun b=>some ({X:=w64 (b.X + a.At.X),Y:=w64 (b.Y + a.At.Y),Z:=w64 (b.Z + a.At.Z)} : qm)
noncomputable def qbm (d : List qw) (f : List qw) (c : Int) : Option ((Int) ⊕ ((Unit) ⊕ (Bool))):=
  cond (decide (c < (d.length : Int))) ((idx d c).bind fun a=>(idx f c).bind fun b=>cond (!((a.Lo.X == b.Lo.X) && ((a.Lo.Y == b.Lo.Y) && ((a.Lo.Z == b.Lo.Z) && ((a.Hi.X == b.Hi.X) && ((a.Hi.Y == b.Hi.Y) && ((a.Hi.Z == b.Hi.Z) && true))))))) (some (.inr (.inr false))) (some (.inl (w64 (c + 1))))) (some (.inr (.inl ())))
noncomputable def qbl (a : List qw) (b : List qw) : Option Bool:=
  cond ((a.length : Int) != (b.length : Int)) (some false) ((loop (qbm a b) 0 : Option ((Unit) ⊕ (Bool))).bind fun c=>(match c with | .inl _=>some true | .inr d=>some d))
noncomputable def q5g (a : qm) (b : Int) : Option Bool:=
  (cond (decide (a.X ≥ b)) (some (decide (a.Y ≥ b))) (some false)).bind fun c=>(cond c (some (decide (a.Z ≥ b))) (some false)).bind fun d=>(cond d (some (decide (a.X≤1000000))) (some false)).bind fun f=>(cond f (some (decide (a.Y≤1000000))) (some false)).bind fun g=>(cond g (some (decide (a.Z≤1000000))) (some false)).bind fun h=>some h
noncomputable def q8e (b : Int × List Int) (c : List Int) (a : Int) : Option ((Int) ⊕ (Int)):=
  (cond (decide (a > 0)) ((idx b.2 (w64 (a - 1))).bind fun d=>(idx c b.1).bind fun f=>some (decide (d > f))) (some false)).bind fun g=>cond g (some (.inl (w64 (a - 1)))) (some (.inr a))
noncomputable def q8d (d : List Int) (a : Int × List Int) : Option ((Int × List Int) ⊕ (List Int)):=
  cond (decide (a.1 < (d.length : Int))) (((loop (q8e a d) (a.2.length : Int)).bind fun c=>(cond (decide (c > 0)) ((idx a.2 (w64 (c - 1))).bind fun h=>(idx d a.1).bind fun j=>some (h == j)) (some false)).bind fun k=>cond k (some a.2) ((app 8 a.2 [0]).bind fun b=>(sub2 b.length (w64 (c + 1)) b.length).bind fun g=>(sub2 b.length c b.length).bind fun f=>(idx d a.1).bind fun l=>(idx (cpyw b g ((b.drop f.1).take f.2)) c).bind fun _=>some ((cpyw b g ((b.drop f.1).take f.2)).set c.toNat l))).bind fun m=>some (.inl (w64 (a.1 + 1),m))) (some (.inr a.2))
noncomputable def q5f (a : List Int) : Option (List Int):=
  (loop (q8d a) (0,[])).bind fun b=>some b
noncomputable def qff (c : Int) (a : Bool) (b : Bool) : Option Bool:=
  cond (c == 1) ((cond a (some b) (some false)).bind fun d=>some d) (cond (c == 2) ((cond a (some true) (some b)).bind fun f=>some f) ((cond a (some (!b)) (some false)).bind fun g=>some g))
noncomputable def q88 (b : List Int) (c : List Bool) (a : Int × List qi) : Option ((Int × List qi) ⊕ (List qi)):=
  cond (decide ((w64 (a.1 + 1)) < (b.length : Int))) (((idx c a.1).bind fun d=>cond (!d) (some a.2) ((cond (decide ((a.2.length : Int) > 0)) ((idx a.2 (w64 ((a.2.length : Int) - 1))).bind fun f=>(idx b a.1).bind fun g=>some (f.Hi == g)) (some false)).bind fun h=>cond h ((idx b (w64 (a.1 + 1))).bind fun j=>(idx a.2 (w64 ((a.2.length : Int) - 1))).bind fun k=>some (a.2.set (w64 ((a.2.length : Int) - 1)).toNat ({Lo:=k.Lo,Hi:=j} : qi))) ((idx b a.1).bind fun l=>(idx b (w64 (a.1 + 1))).bind fun m=>(app 16 a.2 [({Lo:=l,Hi:=m} : qi)]).bind fun n=>some n))).bind fun o=>some (.inl (w64 (a.1 + 1),o))) (some (.inr a.2))
noncomputable def qfc (a : List Int) (b : List Bool) : Option (List qi):=
  (loop (q88 a b) (0,[])).bind fun c=>some c
noncomputable def qc8 (b : List qw) (a : Int × List Int) : Option ((Int × List Int) ⊕ (List Int)):=
  cond (decide (a.1 < (b.length : Int))) ((idx b a.1).bind fun c=>(app 8 a.2 [c.Lo.Z,c.Hi.Z]).bind fun d=>some (.inl (w64 (a.1 + 1),d))) (some (.inr a.2))
noncomputable def qc9 (b : List qw) (a : Int × List Int) : Option ((Int × List Int) ⊕ (List Int)):=
  cond (decide (a.1 < (b.length : Int))) ((idx b a.1).bind fun c=>(app 8 a.2 [c.Lo.Z,c.Hi.Z]).bind fun d=>some (.inl (w64 (a.1 + 1),d))) (some (.inr a.2))
noncomputable def qca (c : List qw) (d : Int) (a : Int × List qk) : Option ((Int × List qk) ⊕ (List qk)):=
  cond (decide (a.1 < (c.length : Int))) (((idx c a.1).bind fun b=>(cond (decide (b.Lo.Z≤d)) (some (decide (d < b.Hi.Z))) (some false)).bind fun f=>cond f ((app 32 a.2 [({X0:=b.Lo.X,Y0:=b.Lo.Y,X1:=b.Hi.X,Y1:=b.Hi.Y} : qk)]).bind fun g=>some g) (some a.2)).bind fun h=>some (.inl (w64 (a.1 + 1),h))) (some (.inr a.2))
noncomputable def qcb (c : List qw) (d : Int) (a : Int × List qk) : Option ((Int × List qk) ⊕ (List qk)):=
  cond (decide (a.1 < (c.length : Int))) (((idx c a.1).bind fun b=>(cond (decide (b.Lo.Z≤d)) (some (decide (d < b.Hi.Z))) (some false)).bind fun f=>cond f ((app 32 a.2 [({X0:=b.Lo.X,Y0:=b.Lo.Y,X1:=b.Hi.X,Y1:=b.Hi.Y} : qk)]).bind fun g=>some g) (some a.2)).bind fun h=>some (.inl (w64 (a.1 + 1),h))) (some (.inr a.2))
noncomputable def q4e (f : List Int) (l : List qw) (m : List qw) (o : List qk→List qk→Option (List qk × Int)) (a : Int × List qk × Int × Int × List qw) : Option ((Int × List qk × Int × Int × List qw) ⊕ ((List qk × Int × Int × List qw) ⊕ (List qw × Int))):=
  cond (decide (a.1 < (f.length : Int))) ((idx f (w64 (a.1 - 1))).bind fun g=>(idx f a.1).bind fun p=>((idx [l,m] 0).bind fun q=>(loop (qca q g) (0,[])).bind fun h=>some h).bind fun r=>((idx [l,m] 1).bind fun s=>(loop (qcb s g) (0,[])).bind fun h=>some h).bind fun t=>((q1k r).bind fun b=>(cond (b.2 == 0) ((q1k t).bind fun j=>cond (j.2 == 0) ((o b.1 j.1).bind fun n=>some (n.1,n.2)) (some (b.1,j.2))) (some (b.1,b.2))).bind fun k=>cond (k.2 != 0) (some (.inr ([],k.2))) ((q6w a.2.2.2.2 a.2.1 a.2.2.1 a.2.2.2.1 g p k.1).bind fun c=>some (.inl (c.1,c.2.1,c.2.2.1,c.2.2.2))) : Option ((List qk × Int × Int × List qw) ⊕ (List qw × Int))).bind fun u=>(match u with | .inl d=>some (.inl (w64 (a.1 + 1),d.1,d.2.1,d.2.2.1,d.2.2.2)) | .inr v=>some (.inr (.inr v)))) (some (.inr (.inl (a.2.1,a.2.2.1,a.2.2.2.1,a.2.2.2.2))))
noncomputable def q9t (k : List qk→List qk→Option (List qk × Int)) (c : List qw) (d : List qw) : Option (List qw × Int):=
  (((idx [c,d] 0).bind fun l=>(loop (qc8 l) (0,[])).bind fun b=>some b).bind fun m=>((idx [c,d] 1).bind fun n=>(loop (qc9 n) (0,m)).bind fun b=>some b).bind fun h=>(U2 h).bind fun f=>(Qu f.length h.length).bind fun _=>(Uv f).bind fun a=>(Qu a.2.length f.length).bind fun _=>(Ux a.2.length a.1).bind fun _=>some ((a.2.drop a.1.1).take a.1.2)).bind fun o=>((loop (q4e o c d k) (1,[],0,0,[]) : Option ((List qk × Int × Int × List qw) ⊕ (List qw × Int))).bind fun p=>(match p with | .inl b=>some (.inl b) | .inr g=>some (.inr g)) : Option ((List qk × Int × Int × List qw) ⊕ (List qw × Int))).bind fun q=>(match q with | .inl j=>cond (decide ((j.2.2.2.length : Int) > 400)) (some ([],4)) (some (j.2.2.2,0)) | .inr g=>some g)
noncomputable def q70 (a : List qw) (b : List qw) (g : List qk→List qk→Option (List qk × Int)) : Option (List qw × Int):=
  (q6v a).bind fun c=>cond (c != 0) (some ([],c)) ((q6v b).bind fun d=>cond (d != 0) (some ([],d)) ((q9t g a b).bind fun f=>some (f.1,f.2)))
noncomputable def q43 (b : List qk) (c : qk→Option Bool) (a : Int) : Option ((Int) ⊕ ((Unit) ⊕ (Int))):=
  cond (decide (a < (b.length : Int))) ((idx b a).bind fun d=>(c d).bind fun f=>cond f (some (.inr (.inr a))) (some (.inl (w64 (a + 1))))) (some (.inr (.inl ())))
noncomputable def qc3 (a : List qk) (b : qk→Option Bool) : Option Int:=
  (loop (q43 a b) 0 : Option ((Unit) ⊕ (Int))).bind fun c=>(match c with | .inl _=>some (-1) | .inr d=>some d)
noncomputable def q8r (a : List qk) (b : qk→Option Bool) : Option Bool:=
  (qc3 a b).bind fun c=>some (decide (c ≥ 0))
noncomputable def q2m (a : qk) : Option Bool:=
  (q5r a).bind fun b=>some (!b)
noncomputable def q5j (a : List qk) : Option Int:=
  cond (decide ((a.length : Int) > 400)) (some 4) ((q8r a (fun c=>q2m c)).bind fun d=>cond d (some 8) ((q5q a).bind fun b=>(cond (b.2 != 0) (some true) ((q5w b.1 a).bind fun f=>some (!f))).bind fun g=>cond g (some 8) (some 0)))
noncomputable def q8j (b : List qk) (c : List qk) : Option Int:=
  (q5j b).bind fun a=>cond (a != 0) (some a) ((q5j c).bind fun d=>some d)
noncomputable def qbo (b : List qk) (a : Int × List Int) : Option ((Int × List Int) ⊕ (List Int)):=
  cond (decide (a.1 < (b.length : Int))) ((idx b a.1).bind fun c=>(app 8 a.2 [c.X0,c.X1]).bind fun d=>some (.inl (w64 (a.1 + 1),d))) (some (.inr a.2))
noncomputable def qbp (b : List qk) (a : Int × List Int) : Option ((Int × List Int) ⊕ (List Int)):=
  cond (decide (a.1 < (b.length : Int))) ((idx b a.1).bind fun c=>(app 8 a.2 [c.X0,c.X1]).bind fun d=>some (.inl (w64 (a.1 + 1),d))) (some (.inr a.2))
noncomputable def qbq (c : List qk) (d : Int) (a : Int × List qi) : Option ((Int × List qi) ⊕ (List qi)):=
  cond (decide (a.1 < (c.length : Int))) (((idx c a.1).bind fun b=>(cond (decide (b.X0≤d)) (some (decide (d < b.X1))) (some false)).bind fun f=>cond f ((app 16 a.2 [({Lo:=b.Y0,Hi:=b.Y1} : qi)]).bind fun g=>some g) (some a.2)).bind fun h=>some (.inl (w64 (a.1 + 1),h))) (some (.inr a.2))
noncomputable def qbr (c : List qk) (d : Int) (a : Int × List qi) : Option ((Int × List qi) ⊕ (List qi)):=
  cond (decide (a.1 < (c.length : Int))) (((idx c a.1).bind fun b=>(cond (decide (b.X0≤d)) (some (decide (d < b.X1))) (some false)).bind fun f=>cond f ((app 16 a.2 [({Lo:=b.Y0,Hi:=b.Y1} : qi)]).bind fun g=>some g) (some a.2)).bind fun h=>some (.inl (w64 (a.1 + 1),h))) (some (.inr a.2))
noncomputable def q3x (d : List Int) (j : List qk) (k : List qk) (l : List qi→List qi→Option (List qi × Int)) (a : Int × List qi × Int × Int × List qk) : Option ((Int × List qi × Int × Int × List qk) ⊕ ((List qi × Int × Int × List qk) ⊕ (List qk × Int))):=
  cond (decide (a.1 < (d.length : Int))) ((idx d (w64 (a.1 - 1))).bind fun f=>(idx d a.1).bind fun m=>((idx [j,k] 0).bind fun n=>(loop (qbq n f) (0,[])).bind fun g=>some g).bind fun o=>((idx [j,k] 1).bind fun p=>(loop (qbr p f) (0,[])).bind fun g=>some g).bind fun q=>((l o q).bind fun h=>cond (h.2 != 0) (some (.inr ([],h.2))) ((q5m a.2.2.2.2 a.2.1 a.2.2.1 a.2.2.2.1 f m h.1).bind fun b=>some (.inl (b.1,b.2.1,b.2.2.1,b.2.2.2))) : Option ((List qi × Int × Int × List qk) ⊕ (List qk × Int))).bind fun r=>(match r with | .inl c=>some (.inl (w64 (a.1 + 1),c.1,c.2.1,c.2.2.1,c.2.2.2)) | .inr s=>some (.inr (.inr s)))) (some (.inr (.inl (a.2.1,a.2.2.1,a.2.2.2.1,a.2.2.2.2))))
noncomputable def q5p (c : List qk) (d : List qk) (m : List qi→List qi→Option (List qi × Int)) : Option (List qk × Int):=
  (q8j c d).bind fun h=>cond (h != 0) (some ([],h)) ((((idx [c,d] 0).bind fun n=>(loop (qbo n) (0,[])).bind fun b=>some b).bind fun o=>((idx [c,d] 1).bind fun p=>(loop (qbp p) (0,o)).bind fun b=>some b).bind fun j=>(U2 j).bind fun f=>(Qu f.length j.length).bind fun _=>(Uv f).bind fun a=>(Qu a.2.length f.length).bind fun _=>(Ux a.2.length a.1).bind fun _=>some ((a.2.drop a.1.1).take a.1.2)).bind fun q=>((loop (q3x q c d m) (1,[],0,0,[]) : Option ((List qi × Int × Int × List qk) ⊕ (List qk × Int))).bind fun r=>(match r with | .inl b=>some (.inl b) | .inr g=>some (.inr g)) : Option ((List qi × Int × Int × List qk) ⊕ (List qk × Int))).bind fun s=>(match s with | .inl k=>(cond (decide ((k.2.2.2.length : Int) > 400)) (some (4,[])) (some (0,k.2.2.2))).bind fun l=>some (l.2,l.1) | .inr g=>some g))
noncomputable def q1s (b : List qi) (a : Int) : Option ((Int) ⊕ ((Unit) ⊕ (Int))):=
  cond (decide (a < (b.length : Int))) ((idx b a).bind fun c=>(q2y c).bind fun d=>(cond (!d) (some true) ((cond (decide (a > 0)) ((idx b (w64 (a - 1))).bind fun f=>some (decide (f.Hi ≥ c.Lo))) (some false)).bind fun g=>some g)).bind fun h=>cond h (some (.inr (.inr 8))) (some (.inl (w64 (a + 1))))) (some (.inr (.inl ())))
noncomputable def q2w (a : List qi) : Option Int:=
  cond (decide ((a.length : Int) > 400)) (some 4) ((loop (q1s a) 0 : Option ((Unit) ⊕ (Int))).bind fun b=>(match b with | .inl _=>some 0 | .inr c=>some c))
noncomputable def q74 (a : List qi) (b : List qi) (g : Bool→Bool→Option Bool) : Option (List qi × Int):=
  (q2w a).bind fun c=>cond (c != 0) (some ([],c)) ((q2w b).bind fun d=>cond (d != 0) (some ([],d)) ((q2x a b g).bind fun f=>cond (decide ((f.length : Int) > 400)) (some ([],4)) (some (f,0))))
noncomputable def qcd (a : Bool) (b : Bool) : Option Bool:=
  (cond a (some b) (some false)).bind fun c=>some c
noncomputable def q72 (b : List qi) (c : List qi) : Option (List qi × Int):=
  (q74 b c (fun d f=>qcd d f)).bind fun a=>some (a.1,a.2)
noncomputable def q5k (b : List qk) (c : List qk) : Option (List qk × Int):=
  (q5p b c (fun d f=>q72 d f)).bind fun a=>some (a.1,a.2)
noncomputable def q9q (b : List qw) (c : List qw) : Option (List qw × Int):=
  (q70 b c (fun d f=>q5k d f)).bind fun a=>some (a.1,a.2)
noncomputable def qce (a : Bool) (b : Bool) : Option Bool:=
  (cond a (some true) (some b)).bind fun c=>some c
noncomputable def q73 (b : List qi) (c : List qi) : Option (List qi × Int):=
  (q74 b c (fun d f=>qce d f)).bind fun a=>some (a.1,a.2)
noncomputable def q5l (b : List qk) (c : List qk) : Option (List qk × Int):=
  (q5p b c (fun d f=>q73 d f)).bind fun a=>some (a.1,a.2)
noncomputable def q9r (b : List qw) (c : List qw) : Option (List qw × Int):=
  (q70 b c (fun d f=>q5l d f)).bind fun a=>some (a.1,a.2)
structure Kb where
  Frame : Ki
  Size : qm
  deriving DecidableEq
structure U4 where
  Num : Int
  Den : Int
  deriving DecidableEq
structure Qx where
  Kind : Int
  Size : Int
  Share : U4
  deriving DecidableEq
def J2 (x : Qx) : List DV:=[.int .u8 x.Kind,.int .i64 x.Size,.int .i64 x.Share.Num,.int .i64 x.Share.Den]
noncomputable def qb7 : Option (List Qx):=
  some [({Kind:=1,Size:=3,Share:=({Num:=0,Den:=0} : U4)} : Qx),({Kind:=2,Size:=0,Share:=({Num:=1,Den:=4} : U4)} : Qx),({Kind:=3,Size:=1,Share:=({Num:=0,Den:=0} : U4)} : Qx),({Kind:=3,Size:=2,Share:=({Num:=0,Den:=0} : U4)} : Qx)]
noncomputable def q41 (b : List Qx) (c : Qx→Option Bool) (a : Int) : Option ((Int) ⊕ ((Unit) ⊕ (Int))):=
  cond (decide (a < (b.length : Int))) ((idx b a).bind fun d=>(c d).bind fun f=>cond f (some (.inr (.inr a))) (some (.inl (w64 (a + 1))))) (some (.inr (.inl ())))
noncomputable def qc1 (a : List Qx) (b : Qx→Option Bool) : Option Int:=
  (loop (q41 a b) 0 : Option ((Unit) ⊕ (Int))).bind fun c=>(match c with | .inl _=>some (-1) | .inr d=>some d)
noncomputable def qbx (a : List Qx) (b : Qx→Option Bool) : Option Bool:=
  (qc1 a b).bind fun c=>some (decide (c ≥ 0))
noncomputable def q5h (a : Int) : Option Int:=
  cond (decide (a < 0)) (some (IntKind.wrap .u64 (0 - (IntKind.wrap .u64 a)))) (some (IntKind.wrap .u64 a))
noncomputable def q3w (a : Int × Int) : Option ((Int × Int) ⊕ (Int)):=
  cond (a.2 != 0) ((remK a.1 a.2).bind fun b=>some (.inl (a.2,b))) (some (.inr a.1))
noncomputable def q8i (a : Int) (b : Int) : Option Int:=
  (loop q3w (a,b)).bind fun c=>some c
noncomputable def q8h (a : U4) : Option Int:=
  (cond (decide (a.Den < 1)) (some true) (some (decide (a.Den > 1000000000)))).bind fun b=>(cond b (some true) ((q5h a.Num).bind fun c=>some (decide (c > 1000000000)))).bind fun d=>(cond d (some true) ((q5h a.Num).bind fun f=>(q8i f (IntKind.wrap .u64 a.Den)).bind fun g=>some (g != 1))).bind fun h=>cond h (some 8) (some 0)
noncomputable def qa2 (a : Qx) : Option Bool:=
  cond (a.Kind == 1) ((cond (decide (a.Size ≥ 0)) (some (decide (a.Size≤1000000))) (some false)).bind fun b=>(cond b (some ((a.Share.Num == 0) && ((a.Share.Den == 0) && true))) (some false)).bind fun c=>some c) (cond (a.Kind == 3) ((cond (decide (a.Size ≥ 1)) (some (decide (a.Size≤1000000))) (some false)).bind fun d=>(cond d (some ((a.Share.Num == 0) && ((a.Share.Den == 0) && true))) (some false)).bind fun f=>some f) (cond (a.Kind == 2) ((cond (a.Size == 0) ((q8h a.Share).bind fun g=>some (g == 0)) (some false)).bind fun h=>(cond h (some (decide (a.Share.Num ≥ 0))) (some false)).bind fun j=>(cond j (some (decide (a.Share.Num≤a.Share.Den))) (some false)).bind fun k=>some k) (some false)))
noncomputable def q4j (a : Qx) : Option Bool:=
  (qa2 a).bind fun b=>some (!b)
noncomputable def qa1 (a : List Qx) : Option Int:=
  cond (decide ((a.length : Int) > 200)) (some 4) ((qbx a (fun b=>q4j b)).bind fun c=>cond c (some 8) (some 0))
noncomputable def q77 (a : Int) (b : Int) (c : List Int) (d : Int) : Option (List Int × Int):=
  (idx c a).bind fun _=>some (c.set a.toNat b,w64 (d - b))
noncomputable def q4n (b : List Int) (a : Int × Int) : Option ((Int × Int) ⊕ (Int)):=
  cond (decide (a.1 < (b.length : Int))) ((idx b a.1).bind fun c=>some (.inl (w64 (a.1 + 1),w64 (a.2 + c)))) (some (.inr a.2))
noncomputable def q79 (b : Int) (a : List Int) : Option (List Int × Int × Int):=
  (loop (q4n a) (0,0)).bind fun c=>some (a,b,c)
noncomputable def q1u (g : List Qx) (h : Int) (a : Int × Int × List Int × List Int × List Int) : Option ((Int × Int × List Int × List Int × List Int) ⊕ (Int × List Int × List Int × List Int)):=
  cond (decide (a.1 < (g.length : Int))) (((idx g a.1).bind fun b=>cond (b.Kind == 1) ((q77 a.1 b.Size a.2.2.2.1 a.2.1).bind fun d=>(Qu d.1.length a.2.2.2.1.length).bind fun _=>some (d.2,a.2.2.1,d.1,a.2.2.2.2)) (cond (b.Kind == 2) ((J7 (w64 (h * b.Share.Num)) b.Share.Den).bind fun j=>(q77 a.1 j a.2.2.2.1 a.2.1).bind fun f=>(Qu f.1.length a.2.2.2.1.length).bind fun _=>some (f.2,a.2.2.1,f.1,a.2.2.2.2)) ((app 8 a.2.2.1 [b.Size]).bind fun k=>(app 8 a.2.2.2.2 [a.1]).bind fun l=>some (a.2.1,k,a.2.2.2.1,l)))).bind fun c=>some (.inl (w64 (a.1 + 1),c.1,c.2.1,c.2.2.1,c.2.2.2))) (some (.inr (a.2.1,a.2.2.1,a.2.2.2.1,a.2.2.2.2)))
noncomputable def q1v (b : List Int × Int × Int) (a : Int × Int × Int × List Int × List Int) : Option ((Int × Int × Int × List Int × List Int) ⊕ (List Int)):=
  cond (decide (a.2.2.1 < (b.1.length : Int))) ((idx b.1 a.2.2.1).bind fun c=>(J7 (w64 (b.2.1 * (w64 (a.1 + c)))) b.2.2).bind fun d=>((idx a.2.2.2.1 0).bind fun f=>(idx a.2.2.2.2 f).bind fun _=>(slc a.2.2.2.1 1 a.2.2.2.1.length).bind fun h=>some (h,a.2.2.2.2.set f.toNat (w64 (d - a.2.1)))).bind fun g=>some (.inl (w64 (a.1 + c),d,w64 (a.2.2.1 + 1),g.1,g.2))) (some (.inr a.2.2.2.2))
noncomputable def q76 (b : Int) (c : List Qx) : Option (List Int × Int):=
  (qa1 c).bind fun d=>cond (d != 0) (some ([],d)) ((cond (decide (b < 0)) (some true) (some (decide (b > 1000000)))).bind fun g=>cond g (some ([],2)) ((mks 8 (c.length : Int) 0).bind fun h=>(loop (q1u c b) (0,b,[],h,[])).bind fun a=>cond (decide (a.1 < 0)) (some ([],16)) ((cond (decide (a.1 > 0)) (some ((a.2.2.2.length : Int) == 0)) (some false)).bind fun j=>cond j (some ([],28)) ((q79 a.1 a.2.1).bind fun f=>(Qu f.1.length a.2.1.length).bind fun _=>((loop (q1v f) (0,0,0,a.2.2.2,a.2.2.1)).bind fun k=>some k).bind fun l=>some (l,0)))))
noncomputable def qer (a : Int) (b : Int) : Option (Int × Int):=
  some (IntKind.wrap .u64 ((IntKind.wrap .u64 ((IntKind.wrap .u64 ((Int.fdiv a (2 ^ 32)) * (Int.fdiv b (2 ^ 32)))) + (Int.fdiv (IntKind.wrap .u64 ((IntKind.wrap .u64 ((Int.fdiv a (2 ^ 32)) * (andI .u64 b 4294967295))) + (Int.fdiv (IntKind.wrap .u64 ((andI .u64 a 4294967295) * (andI .u64 b 4294967295))) (2 ^ 32)))) (2 ^ 32)))) + (Int.fdiv (IntKind.wrap .u64 ((andI .u64 (IntKind.wrap .u64 ((IntKind.wrap .u64 ((Int.fdiv a (2 ^ 32)) * (andI .u64 b 4294967295))) + (Int.fdiv (IntKind.wrap .u64 ((andI .u64 a 4294967295) * (andI .u64 b 4294967295))) (2 ^ 32)))) 4294967295) + (IntKind.wrap .u64 ((andI .u64 a 4294967295) * (Int.fdiv b (2 ^ 32)))))) (2 ^ 32))),IntKind.wrap .u64 (a * b))
noncomputable def qb8 (b : Int) (c : Int) : Option (Int × Int):=
  (qer b c).bind fun a=>some (a.1,a.2)
noncomputable def q5y (a : Int × List Int) : Option ((Int × List Int) ⊕ (List Int)):=
  cond (decide (a.1 < (a.2.length : Int))) ((sub2 a.2.length a.1 a.2.length).bind fun c=>(sub2 a.2.length 0 a.1).bind fun b=>some (.inl (w64 (a.1 + ((min ((a.2.drop b.1).take b.2).length c.2 : Nat) : Int)),cpyw a.2 c ((a.2.drop b.1).take b.2)))) (some (.inr a.2))
noncomputable def q8y (a : List Int) (d : Int) : Option (List Int):=
  cond (decide (d < 0)) none ((qb8 (IntKind.wrap .u64 (a.length : Int)) (IntKind.wrap .u64 d)).bind fun b=>(cond (decide (b.1 > 0)) (some true) (some (decide (b.2 > 9223372036854775807)))).bind fun f=>cond f none ((mks 8 (w64 b.2) 0).bind fun c=>(loop q5y (((min a.length (0,c.length).2 : Nat) : Int),cpyw c (0,c.length) a)).bind fun g=>some g))
noncomputable def q4k (b : List Int) (a : Int × Int) : Option ((Int × Int) ⊕ (Int)):=
  cond (decide (a.1 < (b.length : Int))) ((idx b a.1).bind fun c=>some (.inl (w64 (a.1 + 1),w64 (a.2 + c)))) (some (.inr a.2))
noncomputable def q4l (b : List Int) (f : Int) (g : Int) (a : Int × Int × Int × List Int) : Option ((Int × Int × Int × List Int) ⊕ (List Int)):=
  cond (decide (a.2.2.1 < (b.length : Int))) ((idx b a.2.2.1).bind fun c=>(J7 (w64 (f * (w64 (a.1 + c)))) g).bind fun d=>((app 8 a.2.2.2 [w64 (d - a.2.1)]).bind fun h=>some h).bind fun j=>some (.inl (w64 (a.1 + c),d,w64 (a.2.2.1 + 1),j))) (some (.inr a.2.2.2))
noncomputable def q75 (a : Int) (b : Int) : Option (List Int × Int):=
  (cond (decide (a < 0)) (some true) (some (decide (a > 1000000)))).bind fun f=>(cond f (some true) (some (decide (b < 1)))).bind fun g=>(cond g (some true) (some (decide (b > 1000000)))).bind fun h=>cond h (some ([],2)) ((J7 (w64 ((w64 (2 * a)) + b)) (w64 (2 * b))).bind fun c=>cond (decide ((max 1 c) > 200)) (some ([],4)) ((q8y [1] (max 1 c)).bind fun d=>((loop (q4k d) (0,0)).bind fun j=>some j).bind fun k=>((((loop (q4l d a k) (0,0,0,[])).bind fun l=>some l).bind fun m=>some m).bind fun n=>some n).bind fun o=>some (o,0)))
noncomputable def q45 (b : List Int) (c : Int→Option Bool) (a : Int) : Option ((Int) ⊕ ((Unit) ⊕ (Int))):=
  cond (decide (a < (b.length : Int))) ((idx b a).bind fun d=>(c d).bind fun f=>cond f (some (.inr (.inr a))) (some (.inl (w64 (a + 1))))) (some (.inr (.inl ())))
noncomputable def q8w (a : List Int) (b : Int→Option Bool) : Option Int:=
  (loop (q45 a b) 0 : Option ((Unit) ⊕ (Int))).bind fun c=>(match c with | .inl _=>some (-1) | .inr d=>some d)
noncomputable def q5v (a : List Int) (b : Int→Option Bool) : Option Bool:=
  (q8w a b).bind fun c=>some (decide (c ≥ 0))
noncomputable def q30 (a : Int) : Option Bool:=
  some (decide (a < 0))
noncomputable def Uc (b : List Int) (a : Int × List Int) : Option ((Int × List Int) ⊕ ((List Int) ⊕ (List Int × Int))):=
  cond (decide (a.1 < (b.length : Int))) ((idx b a.1).bind fun c=>(idx a.2 a.1).bind fun d=>cond (decide (c > (w64 (1000000 - d)))) (some (.inr (.inr ([],16)))) ((idx a.2 a.1).bind fun f=>(app 8 a.2 [w64 (f + c)]).bind fun g=>some (.inl (w64 (a.1 + 1),g)))) (some (.inr (.inl a.2)))
noncomputable def Jm (a : List Int) : Option (List Int × Int):=
  cond (decide ((a.length : Int) > 200)) (some ([],4)) ((q5v a (fun b=>q30 b)).bind fun c=>cond c (some ([],8)) ((loop (Uc a) (0,[0]) : Option ((List Int) ⊕ (List Int × Int))).bind fun d=>(match d with | .inl f=>some (f,0) | .inr g=>some g)))
noncomputable def q5x (b : List Int) (a : Int) : Option ((Int) ⊕ ((Unit) ⊕ (Bool))):=
  cond (decide (a > 0)) ((idx b a).bind fun c=>(idx b (w64 (a - 1))).bind fun d=>(Yw c d).bind fun f=>cond f (some (.inr (.inr false))) (some (.inl (w64 (a - 1))))) (some (.inr (.inl ())))
noncomputable def q8x (a : List Int) : Option Bool:=
  (loop (q5x a) (w64 ((a.length : Int) - 1)) : Option ((Unit) ⊕ (Bool))).bind fun b=>(match b with | .inl _=>some true | .inr c=>some c)
noncomputable def q4i (d : List Int) (b : List Int) (c : Int) (a : Int) : Option ((Int) ⊕ ((Unit) ⊕ (Int × Int))):=
  cond (decide (a < (d.length : Int))) ((idx b a).bind fun f=>(cond (decide (f≤c)) ((idx b (w64 (a + 1))).bind fun g=>some (decide (c < g))) (some false)).bind fun h=>cond h (some (.inr (.inr (a,0)))) (some (.inl (w64 (a + 1))))) (some (.inr (.inl ())))
noncomputable def q2z (a : List Int) (b : Int) : Option (Int × Int):=
  (cond ((a.length : Int) == 0) (some true) ((idx a 0).bind fun c=>some (c != 0))).bind fun d=>(cond d (some true) ((q8x a).bind fun f=>some (!f))).bind fun g=>cond g (some (0,8)) ((slc a 1 a.length).bind fun h=>(loop (q4i h a b) 0 : Option ((Unit) ⊕ (Int × Int))).bind fun j=>(match j with | .inl _=>some (0,2) | .inr k=>some k))
noncomputable def q3v (b : List Int) (c : List Int) (a : Int) : Option ((Int) ⊕ ((Unit) ⊕ (Bool))):=
  cond (decide (a < (b.length : Int))) ((idx b a).bind fun d=>(idx c a).bind fun f=>cond (d != f) (some (.inr (.inr false))) (some (.inl (w64 (a + 1))))) (some (.inr (.inl ())))
noncomputable def q3u (a : List Int) (b : List Int) : Option Bool:=
  cond ((a.length : Int) != (b.length : Int)) (some false) ((loop (q3v a b) 0 : Option ((Unit) ⊕ (Bool))).bind fun c=>(match c with | .inl _=>some true | .inr d=>some d))
noncomputable def q82 : Option Bool:=
  qb7.bind fun f=>(q76 10 f).bind fun b=>(q75 10 4).bind fun c=>(Jm [3,2,0,5]).bind fun a=>(q2z a.1 5).bind fun d=>cond (b.2 == 0) ((q3u b.1 [3,2,1,4]).bind fun g=>(cond g (some (c.2 == 0)) (some false)).bind fun h=>cond h ((q3u c.1 [3,3,4]).bind fun j=>(cond j (some (a.2 == 0)) (some false)).bind fun k=>cond k ((q3u a.1 [0,3,5,5,10]).bind fun l=>(cond l (some (d.2 == 0)) (some false)).bind fun m=>(cond m (some (d.1 == 3)) (some false)).bind fun n=>some n) (some false)) (some false)) (some false)
noncomputable def q8f (a : Ki) : Option Int:=
  (cond (decide (a.Turn ≥ 24)) (some true) ((q5g a.At (-1000000)).bind fun b=>some (!b))).bind fun c=>cond c (some 8) (some 0)
noncomputable def q8g (a : Kb) : Option Int:=
  (q8f a.Frame).bind fun b=>(cond (b != 0) (some true) ((q5g a.Size 0).bind fun c=>some (!c))).bind fun d=>cond d (some 8) (some 0)
noncomputable def q4z (a : Kb) : Option Int:=
  (q15 a.Frame).bind fun b=>(cond (b != 0) (some true) ((q25 a.Size 0).bind fun c=>some (!c))).bind fun d=>cond d (some 8) (some 0)
def Y6 (x : qm) : List DV:=[.int .i64 x.X,.int .i64 x.Y,.int .i64 x.Z]
noncomputable def Je (b : Kb) (a : Int × List qm) : Option ((Int × List qm) ⊕ ((List qm) ⊕ ((qm × qm × qm × qm × qm × qm × qm × qm) × Int))):=
  cond (decide (a.1 < 8)) ((q3i b.Frame ({X:=w64 ((Int.tmod a.1 2) * b.Size.X),Y:=w64 ((Int.tmod (w64 (Int.tdiv a.1 2)) 2) * b.Size.Y),Z:=w64 ((w64 (Int.tdiv a.1 4)) * b.Size.Z)} : qm)).bind fun c=>(idxA 8 a.2 a.1).bind fun _=>(idxA 8 (a.2.set a.1.toNat c) a.1).bind fun d=>(q25 d (-1000000)).bind fun f=>cond (!f) (some (.inr (.inr ((({X:=0,Y:=0,Z:=0} : qm),({X:=0,Y:=0,Z:=0} : qm),({X:=0,Y:=0,Z:=0} : qm),({X:=0,Y:=0,Z:=0} : qm),({X:=0,Y:=0,Z:=0} : qm),({X:=0,Y:=0,Z:=0} : qm),({X:=0,Y:=0,Z:=0} : qm),({X:=0,Y:=0,Z:=0} : qm)),16)))) (some (.inl (w64 (a.1 + 1),a.2.set a.1.toNat c)))) (some (.inr (.inl a.2)))
noncomputable def q3h (a : Kb) : Option ((qm × qm × qm × qm × qm × qm × qm × qm) × Int):=
  (q4z a).bind fun b=>cond (b != 0) (some ((({X:=0,Y:=0,Z:=0} : qm),({X:=0,Y:=0,Z:=0} : qm),({X:=0,Y:=0,Z:=0} : qm),({X:=0,Y:=0,Z:=0} : qm),({X:=0,Y:=0,Z:=0} : qm),({X:=0,Y:=0,Z:=0} : qm),({X:=0,Y:=0,Z:=0} : qm),({X:=0,Y:=0,Z:=0} : qm)),b)) ((loop (Je a) (0,[({X:=0,Y:=0,Z:=0} : qm),({X:=0,Y:=0,Z:=0} : qm),({X:=0,Y:=0,Z:=0} : qm),({X:=0,Y:=0,Z:=0} : qm),({X:=0,Y:=0,Z:=0} : qm),({X:=0,Y:=0,Z:=0} : qm),({X:=0,Y:=0,Z:=0} : qm),({X:=0,Y:=0,Z:=0} : qm)]) : Option ((List qm) ⊕ ((qm × qm × qm × qm × qm × qm × qm × qm) × Int))).bind fun c=>(match c with | .inl d=>(arr8 d).bind fun f=>some (f,0) | .inr g=>some g))
noncomputable def q3g (b : (qm × qm × qm × qm × qm × qm × qm × qm) × Int) (a : Int × Int × Int × Int × Int × Int × Int) : Option ((Int × Int × Int × Int × Int × Int × Int) ⊕ (Int × Int × Int × Int × Int × Int)):=
  cond (decide (a.1 < 8)) ((idxA 8 [b.1.1,b.1.2.1,b.1.2.2.1,b.1.2.2.2.1,b.1.2.2.2.2.1,b.1.2.2.2.2.2.1,b.1.2.2.2.2.2.2.1,b.1.2.2.2.2.2.2.2] a.1).bind fun c=>some (.inl (w64 (a.1 + 1),min a.2.1 c.X,min a.2.2.1 c.Y,min a.2.2.2.1 c.Z,max a.2.2.2.2.1 c.X,max a.2.2.2.2.2.1 c.Y,max a.2.2.2.2.2.2 c.Z))) (some (.inr (a.2.1,a.2.2.1,a.2.2.2.1,a.2.2.2.2.1,a.2.2.2.2.2.1,a.2.2.2.2.2.2)))
noncomputable def Ug (c : Kb) : Option (qw × Int):=
  (q3h c).bind fun a=>cond (a.2 != 0) (some (({Lo:=({X:=0,Y:=0,Z:=0} : qm),Hi:=({X:=0,Y:=0,Z:=0} : qm)} : qw),a.2)) ((cond (c.Size.X == 0) (some true) (some (c.Size.Y == 0))).bind fun d=>(cond d (some true) (some (c.Size.Z == 0))).bind fun f=>cond f (some (({Lo:=({X:=0,Y:=0,Z:=0} : qm),Hi:=({X:=0,Y:=0,Z:=0} : qm)} : qw),6)) ((loop (q3g a) (0,a.1.1.X,a.1.1.Y,a.1.1.Z,a.1.1.X,a.1.1.Y,a.1.1.Z)).bind fun b=>some (({Lo:=({X:=b.1,Y:=b.2.1,Z:=b.2.2.1} : qm),Hi:=({X:=b.2.2.2.1,Y:=b.2.2.2.2.1,Z:=b.2.2.2.2.2} : qm)} : qw),0)))
noncomputable def q50 (a : qm × qm × qm) (c : Int) : Option ((Int) ⊕ ((Unit) ⊕ (Int))):=
  cond (decide (c < 24)) ((q24 c).bind fun b=>cond ((b.1.X == a.1.X) && ((b.1.Y == a.1.Y) && ((b.1.Z == a.1.Z) && ((b.2.1.X == a.2.1.X) && ((b.2.1.Y == a.2.1.Y) && ((b.2.1.Z == a.2.1.Z) && ((b.2.2.X == a.2.2.X) && ((b.2.2.Y == a.2.2.Y) && ((b.2.2.Z == a.2.2.Z) && true))))))))) (some (.inr (.inr c))) (some (.inl (IntKind.wrap .u8 (c + 1))))) (some (.inr (.inl ())))
noncomputable def q7v (a : qm × qm × qm) : Option Int:=
  (loop (q50 a) 0 : Option ((Unit) ⊕ (Int))).bind fun b=>(match b with | .inl _=>some 0 | .inr c=>some c)
noncomputable def q26 (b : (qm × qm × qm)) (a : Int × List qm) : Option ((Int × List qm) ⊕ (List qm)):=
  cond (decide (a.1 < 3)) ((idxA 3 a.2 a.1).bind fun c=>(q51 b c).bind fun d=>(idxA 3 a.2 a.1).bind fun _=>some (.inl (w64 (a.1 + 1),a.2.set a.1.toNat d))) (some (.inr a.2))
noncomputable def q7w (b : Ki) (c : Ki) : Option Ki:=
  (q24 b.Turn).bind fun a=>(q24 c.Turn).bind fun d=>(loop (q26 d) (0,[a.1,a.2.1,a.2.2])).bind fun f=>(arr3 f).bind fun g=>(q7v g).bind fun h=>(q3i c b.At).bind fun j=>some ({Turn:=h,At:=j} : Ki)
noncomputable def q7u (a : Ki) (b : Ki) : Option (Ki × Int):=
  (q15 a).bind fun c=>cond (c != 0) (some (({Turn:=0,At:=({X:=0,Y:=0,Z:=0} : qm)} : Ki),c)) ((q15 b).bind fun d=>cond (d != 0) (some (({Turn:=0,At:=({X:=0,Y:=0,Z:=0} : qm)} : Ki),d)) ((q7w a b).bind fun f=>(q15 f).bind fun g=>cond (g != 0) (some (({Turn:=0,At:=({X:=0,Y:=0,Z:=0} : qm)} : Ki),16)) (some (f,0))))
noncomputable def q23 (b : Kb) (c : qm) (d : qm) (f : Int) : Option (Kb × Int):=
  (q4z b).bind fun g=>cond (g != 0) (some (({Frame:=({Turn:=0,At:=({X:=0,Y:=0,Z:=0} : qm)} : Ki),Size:=({X:=0,Y:=0,Z:=0} : qm)} : Kb),g)) ((q15 ({Turn:=f,At:=c} : Ki)).bind fun h=>(cond (h != 0) (some true) ((q25 d 0).bind fun j=>some (!j))).bind fun k=>cond k (some (({Frame:=({Turn:=0,At:=({X:=0,Y:=0,Z:=0} : qm)} : Ki),Size:=({X:=0,Y:=0,Z:=0} : qm)} : Kb),2)) ((q7u ({Turn:=f,At:=c} : Ki) b.Frame).bind fun a=>cond (a.2 != 0) (some (({Frame:=({Turn:=0,At:=({X:=0,Y:=0,Z:=0} : qm)} : Ki),Size:=({X:=0,Y:=0,Z:=0} : qm)} : Kb),a.2)) (some (({Frame:=a.1,Size:=d} : Kb),0))))
noncomputable def q78 (a : qm) (d : Int) (b : Int) : Option qm:=
  (cond (d == 0) (some (b,a.Y,a.Z)) (cond (d == 1) (some (a.X,b,a.Z)) (some (a.X,a.Y,b)))).bind fun c=>some ({X:=c.1,Y:=c.2.1,Z:=c.2.2} : qm)
def J3 (x : Kb) : List DV:=[.int .u8 x.Frame.Turn,.int .i64 x.Frame.At.X,.int .i64 x.Frame.At.Y,.int .i64 x.Frame.At.Z,.int .i64 x.Size.X,.int .i64 x.Size.Y,.int .i64 x.Size.Z]
noncomputable def Ud (d : List Int) (g : List Int × Int) (f : Int) (b : Kb) (h : Kb × Int) (a : Int × Int × Int × Int × List Kb) : Option ((Int × Int × Int × Int × List Kb) ⊕ ((List Kb) ⊕ (List Kb × Int))):=
  cond (decide (a.1 < (d.length : Int))) ((idx d a.1).bind fun j=>(idx g.1 a.1).bind fun k=>(q78 ({X:=0,Y:=0,Z:=0} : qm) f k).bind fun l=>(q78 b.Size f j).bind fun m=>(q23 ({Frame:=h.1.Frame,Size:=b.Size} : Kb) l m 0).bind fun c=>cond (c.2 != 0) (some (.inr (.inr ([],c.2)))) ((app 56 a.2.2.2.2 [c.1]).bind fun n=>some (.inl (w64 (a.1 + 1),b.Size.X,b.Size.Y,b.Size.Z,n)))) (some (.inr (.inl a.2.2.2.2)))
noncomputable def q4m (a : Kb) (c : Int) (f : List Int) : Option (List Kb × Int):=
  (q23 a ({X:=0,Y:=0,Z:=0} : qm) ({X:=0,Y:=0,Z:=0} : qm) 0).bind fun b=>(cond (b.2 != 0) (some true) (some (decide ((min (min a.Size.X a.Size.Y) a.Size.Z) < 0)))).bind fun g=>(cond g (some true) (some (decide ((max (max a.Size.X a.Size.Y) a.Size.Z) > 1000000)))).bind fun h=>cond h (some ([],8)) ((cond (decide (c < 0)) (some true) (some (decide (c > 2)))).bind fun j=>cond j (some ([],2)) ((Jm f).bind fun d=>cond (d.2 != 0) (some ([],d.2)) ((idx d.1 (f.length : Int)).bind fun k=>(idxA 3 [a.Size.X,a.Size.Y,a.Size.Z] c).bind fun l=>cond (k != l) (some ([],2)) ((loop (Ud f d c a b) (0,b.1.Size.X,b.1.Size.Y,b.1.Size.Z,[]) : Option ((List Kb) ⊕ (List Kb × Int))).bind fun m=>(match m with | .inl n=>some (n,0) | .inr o=>some o)))))
noncomputable def q2j (c : List Kb × Int) (a : List qw × Int × Int) : Option ((List qw × Int × Int) ⊕ ((List qw × Int) ⊕ (Bool))):=
  cond (decide (a.2.2 < (c.1.length : Int))) (((idx c.1 a.2.2).bind fun h=>(Ug h).bind fun b=>cond (b.2 == 6) (some (.inl (a.1,a.2.1))) (cond (b.2 != 0) (some (.inr false)) ((q9q a.1 [b.1]).bind fun d=>(cond (d.2 != 0) (some true) (some (decide ((d.1.length : Int) > 0)))).bind fun j=>cond j (some (.inr false)) ((q9r a.1 [b.1]).bind fun f=>cond (f.2 != 0) (some (.inr false)) (some (.inl (f.1,w64 (a.2.1 + 1))))))) : Option ((List qw × Int) ⊕ (Bool))).bind fun k=>(match k with | .inl g=>some (.inl (g.1,g.2,w64 (a.2.2 + 1))) | .inr l=>some (.inr (.inr l)))) (some (.inr (.inl (a.1,a.2.1))))
noncomputable def qb6 (c : Kb) (d : Int) (f : List Int) : Option Bool:=
  q82.bind fun b=>(q8g c).bind fun j=>(cond (j != 0) (some true) (some (decide (d < 0)))).bind fun k=>(cond k (some true) (some (decide (d > 2)))).bind fun l=>(cond l (some true) (some (decide ((f.length : Int) > 30)))).bind fun m=>(cond m (some true) (some (!b))).bind fun n=>cond n (some b) ((Ug c).bind fun g=>(q4m c d f).bind fun a=>(cond (g.2 != 0) (some true) (some (a.2 != 0))).bind fun o=>cond o ((cond b ((cond (g.2 != 0) (some true) (some (a.2 == 2))).bind fun p=>(cond p (some true) (some (a.2 == 8))).bind fun q=>(cond q (some true) (some (a.2 == 16))).bind fun r=>some r) (some false)).bind fun s=>some s) ((loop (q2j a) ([],0,0) : Option ((List qw × Int) ⊕ (Bool))).bind fun t=>(match t with | .inl h=>cond b ((qbl h.1 [g.1]).bind fun u=>(cond u (some (decide (h.2≤(f.length : Int)))) (some false)).bind fun v=>some v) (some false) | .inr w=>some w)))
noncomputable def qkv (a : qi) : Option Bool:=
  (cond (decide (a.Lo < a.Hi)) (some (decide (a.Lo ≥ (-1000000)))) (some false)).bind fun b=>(cond b (some (decide (a.Hi≤1000000))) (some false)).bind fun c=>some c
noncomputable def qfd (b : List qi) (a : Int) : Option ((Int) ⊕ ((Unit) ⊕ (Int))):=
  cond (decide (a < (b.length : Int))) ((idx b a).bind fun c=>(qkv c).bind fun d=>(cond (!d) (some true) ((cond (decide (a > 0)) ((idx b (w64 (a - 1))).bind fun f=>(idx b a).bind fun g=>some (decide (f.Hi ≥ g.Lo))) (some false)).bind fun h=>some h)).bind fun j=>cond j (some (.inr (.inr 8))) (some (.inl (w64 (a + 1))))) (some (.inr (.inl ())))
noncomputable def qbi (a : List qi) : Option Int:=
  cond (decide ((a.length : Int) > 400)) (some 4) ((loop (qfd a) 0 : Option ((Unit) ⊕ (Int))).bind fun b=>(match b with | .inl _=>some 0 | .inr c=>some c))
noncomputable def q89 (b : List qi) (a : Int × List Int) : Option ((Int × List Int) ⊕ (List Int)):=
  cond (decide (a.1 < (b.length : Int))) ((idx b a.1).bind fun c=>(idx b a.1).bind fun d=>(app 8 a.2 [c.Lo,d.Hi]).bind fun f=>some (.inl (w64 (a.1 + 1),f))) (some (.inr a.2))
noncomputable def qks (b : List qi) (a : Int × List Int) : Option ((Int × List Int) ⊕ (List Int)):=
  cond (decide (a.1 < (b.length : Int))) ((idx b a.1).bind fun c=>(idx b a.1).bind fun d=>(app 8 a.2 [c.Lo,d.Hi]).bind fun f=>some (.inl (w64 (a.1 + 1),f))) (some (.inr a.2))
noncomputable def qfe (a : List qi) (b : List qi) : Option (List Int):=
  (loop (q89 a) (0,[])).bind fun c=>(loop (qks b) (0,c)).bind fun d=>(q5f d).bind fun f=>some f
noncomputable def q8a (b : List qi) (c : Int) (a : Int) : Option ((Int) ⊕ ((Unit) ⊕ (Bool))):=
  cond (decide (a < (b.length : Int))) ((idx b a).bind fun d=>(cond (decide (d.Lo≤c)) ((idx b a).bind fun f=>some (decide (c < f.Hi))) (some false)).bind fun g=>cond g (some (.inr (.inr true))) (some (.inl (w64 (a + 1))))) (some (.inr (.inl ())))
noncomputable def qbj (a : List qi) (b : Int) : Option Bool:=
  (loop (q8a a b) 0 : Option ((Unit) ⊕ (Bool))).bind fun c=>(match c with | .inl _=>some false | .inr d=>some d)
noncomputable def q8b (b : List Int) (c : List qi) (d : List qi) (f : Int) (a : Int × List Bool) : Option ((Int × List Bool) ⊕ (List Bool)):=
  cond (decide (a.1 < (b.length : Int))) ((idx b a.1).bind fun g=>(qbj c g).bind fun h=>(idx b a.1).bind fun j=>(qbj d j).bind fun k=>(qff f h k).bind fun l=>(app 1 a.2 [l]).bind fun m=>some (.inl (w64 (a.1 + 1),m))) (some (.inr a.2))
noncomputable def qbk (d : Int) (a : List qi) (b : List qi) : Option (List qi):=
  (qfe a b).bind fun c=>(loop (q8b c a b d) (0,[])).bind fun f=>(qfc c f).bind fun g=>some g
noncomputable def q9w (b : List qi) (a : Int × Int) : Option ((Int × Int) ⊕ (Int)):=
  cond (decide (a.2 < (b.length : Int))) ((idx b a.2).bind fun c=>some (.inl (w64 (a.1 + (w64 (c.Hi - c.Lo))),w64 (a.2 + 1)))) (some (.inr a.1))
noncomputable def qmf (a : List qi) : Option (Int × Int):=
  (q2w a).bind fun b=>cond (b != 0) (some (0,b)) ((loop (q9w a) (0,0)).bind fun c=>some (c,0))
noncomputable def q8c (b : List qi) (a : Int × Int) : Option ((Int × Int) ⊕ (Int)):=
  cond (decide (a.2 < (b.length : Int))) ((idx b a.2).bind fun c=>(idx b a.2).bind fun d=>some (.inl (w64 ((w64 (a.1 + c.Hi)) - d.Lo),w64 (a.2 + 1)))) (some (.inr a.1))
noncomputable def qku (a : List qi) : Option (Int × Int):=
  (qbi a).bind fun b=>cond (b != 0) ((qbi a).bind fun c=>some (0,c)) ((loop (q8c a) (0,0)).bind fun d=>some (d,0))
structure q11v where
  t_ : Int
  at_ : qm
  flat_ : qm
  deriving DecidableEq
end Go.Sh
