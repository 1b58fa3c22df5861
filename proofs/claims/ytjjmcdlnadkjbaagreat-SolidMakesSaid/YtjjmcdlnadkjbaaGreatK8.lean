/- PX Pl1 -/
import Derived.Test.YtjjmcdlnadkjbaaGreatK7
namespace Go.Sh
open Go Go.Am
structure qz where
  X : Int
  Y : Int
  Z : Int
  deriving DecidableEq
structure api_Box where
  Lo : qz
  Hi : qz
  deriving DecidableEq
def qa (x : api_Box) : List DV:=[.int .i64 x.Lo.X,.int .i64 x.Lo.Y,.int .i64 x.Lo.Z,.int .i64 x.Hi.X,.int .i64 x.Hi.Y,.int .i64 x.Hi.Z]
noncomputable def q9o (a : List api_Box) : Option Bool:=
  (cond (decide ((a.length : Int) > 30)) (some (decide ((a.length : Int)≤400))) (some false)).bind fun b=>(cond b (some true) (some (decide ((a.length : Int) > 420)))).bind fun c=>some c
noncomputable def qbt (a : List api_Box) : Option (List api_Box):=
  (app 48 [] a).bind fun b=>some b
noncomputable def q1o (b : List api_Box) (c : api_Box→Option Bool) (a : Int) : Option ((Int) ⊕ ((Unit) ⊕ (Int))):=
  cond (decide (a < (b.length : Int))) ((idx b a).bind fun d=>(c d).bind fun f=>cond f (some (.inr (.inr a))) (some (.inl (w64 (a + 1))))) (some (.inr (.inl ())))
noncomputable def q4l (a : List api_Box) (b : api_Box→Option Bool) : Option Int:=
  (loop (q1o a b) 0 : Option ((Unit) ⊕ (Int))).bind fun c=>(match c with | .inl _=>some (-1) | .inr d=>some d)
noncomputable def q3h (a : List api_Box) (b : api_Box→Option Bool) : Option Bool:=
  (q4l a b).bind fun c=>some (decide (c ≥ 0))
noncomputable def q8w (a : qz) : Option Bool:=
  (cond (decide ((min (min a.X a.Y) a.Z) ≥ (-1000000))) (some (decide ((max (max a.X a.Y) a.Z)≤1000000))) (some false)).bind fun b=>some b
noncomputable def q7t (a : api_Box) : Option Bool:=
  (cond (decide (a.Lo.X < a.Hi.X)) (some (decide (a.Lo.Y < a.Hi.Y))) (some false)).bind fun b=>(cond b (some (decide (a.Lo.Z < a.Hi.Z))) (some false)).bind fun c=>(cond c ((q8w a.Lo).bind fun d=>some d) (some false)).bind fun f=>(cond f ((q8w a.Hi).bind fun g=>some g) (some false)).bind fun h=>some h
noncomputable def q5o (a : api_Box) : Option Bool:=
  (q7t a).bind fun b=>some (!b)
def qq (x : List api_Box) : List DV:=[.sl 6 (x.map qa)]
def q6h : ByteArray:=⟨#[0,1,2,2,3,3,3,3,4,4,4,4,4,4,4,4,5,5,5,5,5,5,5,5,5,5,5,5,5,5,5,5,6,6,6,6,6,6,6,6,6,6,6,6,6,6,6,6,6,6,6,6,6,6,6,6,6,6,6,6,6,6,6,6,7,7,7,7,7,7,7,7,7,7,7,7,7,7,7,7,7,7,7,7,7,7,7,7,7,7,7,7,7,7,7,7,7,7,7,7,7,7,7,7,7,7,7,7,7,7,7,7,7,7,7,7,7,7,7,7,7,7,7,7,7,7,7,7,8,8,8,8,8,8,8,8,8,8,8,8,8,8,8,8,8,8,8,8,8,8,8,8,8,8,8,8,8,8,8,8,8,8,8,8,8,8,8,8,8,8,8,8,8,8,8,8,8,8,8,8,8,8,8,8,8,8,8,8,8,8,8,8,8,8,8,8,8,8,8,8,8,8,8,8,8,8,8,8,8,8,8,8,8,8,8,8,8,8,8,8,8,8,8,8,8,8,8,8,8,8,8,8,8,8,8,8,8,8,8,8,8,8,8,8,8,8,8,8,8,8,8,8,8,8,8,8]⟩
noncomputable def q4u (c : Int) : Option Int:=
  (cond (decide (c ≥ 4294967296)) (some (Int.fdiv c (2 ^ 32),32)) (some (c,0))).bind fun a=>(cond (decide (a.1 ≥ 65536)) (some (Int.fdiv a.1 (2 ^ 16),w64 (a.2 + 16))) (some (a.1,a.2))).bind fun b=>(cond (decide (b.1 ≥ 256)) (some (Int.fdiv b.1 (2 ^ 8),w64 (b.2 + 8))) (some (b.1,b.2))).bind fun d=>(strIdx q6h (IntKind.wrap .u8 d.1)).bind fun f=>some (w64 (d.2 + (w64 f)))
noncomputable def q4q (a : Int) : Option Int:=
  (q4u a).bind fun b=>some b
noncomputable def q7k (a : Int) : Option Bool:=
  some (a != a)
noncomputable def q2w (a : Int) (b : Int) : Option Bool:=
  (q7k a).bind fun c=>(cond c ((q7k b).bind fun d=>some (!d)) (some false)).bind fun f=>(cond f (some true) (some (decide (a < b)))).bind fun g=>some g
noncomputable def q1u (c : Int) (a : Int × List Int) : Option ((Int × List Int) ⊕ (List Int)):=
  (cond (decide (a.1 > c)) ((idx a.2 a.1).bind fun d=>(idx a.2 (w64 (a.1 - 1))).bind fun f=>(q2w d f).bind fun g=>some g) (some false)).bind fun h=>cond h ((idx a.2 (w64 (a.1 - 1))).bind fun b=>(idx a.2 a.1).bind fun j=>(idx a.2 a.1).bind fun _=>(idx (a.2.set a.1.toNat b) (w64 (a.1 - 1))).bind fun _=>some (.inl (w64 (a.1 - 1),(a.2.set a.1.toNat b).set (w64 (a.1 - 1)).toNat j))) (some (.inr a.2))
noncomputable def q1v (b : Int) (c : Int) (a : Int × List Int) : Option ((Int × List Int) ⊕ (List Int)):=
  cond (decide (a.1 < b)) (((loop (q1u c) (a.1,a.2)).bind fun d=>some d).bind fun f=>some (.inl (w64 (a.1 + 1),f))) (some (.inr a.2))
noncomputable def q2g (b : List Int) (a : Int) (c : Int) : Option (List Int):=
  (loop (q1v c a) (w64 (a + 1),b)).bind fun d=>some d
noncomputable def q35 (d : Int) (b : Int) (a : Int × List Int) : Option ((Int × List Int) ⊕ (List Int)):=
  cond (decide ((w64 ((w64 (2 * a.1)) + 1)) ≥ d)) (some (.inr a.2)) ((cond (decide ((w64 ((w64 ((w64 (2 * a.1)) + 1)) + 1)) < d)) ((idx a.2 (w64 (b + (w64 ((w64 (2 * a.1)) + 1))))).bind fun g=>(idx a.2 (w64 ((w64 (b + (w64 ((w64 (2 * a.1)) + 1)))) + 1))).bind fun h=>(q2w g h).bind fun j=>some j) (some false)).bind fun k=>(cond k (some (w64 ((w64 ((w64 (2 * a.1)) + 1)) + 1))) (some (w64 ((w64 (2 * a.1)) + 1)))).bind fun c=>(idx a.2 (w64 (b + a.1))).bind fun l=>(idx a.2 (w64 (b + c))).bind fun m=>(q2w l m).bind fun n=>cond (!n) (some (.inr a.2)) ((idx a.2 (w64 (b + c))).bind fun f=>(idx a.2 (w64 (b + a.1))).bind fun o=>(idx a.2 (w64 (b + a.1))).bind fun _=>(idx (a.2.set (w64 (b + a.1)).toNat f) (w64 (b + c))).bind fun _=>some (.inl (c,(a.2.set (w64 (b + a.1)).toNat f).set (w64 (b + c)).toNat o))))
noncomputable def q2n (a : List Int) (b : Int) (c : Int) (d : Int) : Option (List Int):=
  (loop (q35 c d) (b,a)).bind fun f=>some f
noncomputable def q36 (d : Int) (b : Int) (a : Int × List Int) : Option ((Int × List Int) ⊕ (List Int)):=
  cond (decide (a.1 ≥ 0)) ((q2n a.2 a.1 (w64 (d - b)) b).bind fun c=>(lenEq c.length a.2.length).bind fun _=>some (.inl (w64 (a.1 - 1),c))) (some (.inr a.2))
noncomputable def q37 (b : Int) (a : Int × List Int) : Option ((Int × List Int) ⊕ (List Int)):=
  cond (decide (a.1 ≥ 0)) ((idx a.2 (w64 (b + a.1))).bind fun c=>(idx a.2 b).bind fun d=>(idx a.2 b).bind fun _=>(idx (a.2.set b.toNat c) (w64 (b + a.1))).bind fun _=>(q2n ((a.2.set b.toNat c).set (w64 (b + a.1)).toNat d) 0 a.1 b).bind fun f=>(lenEq f.length ((a.2.set b.toNat c).set (w64 (b + a.1)).toNat d).length).bind fun _=>some (.inl (w64 (a.1 - 1),f))) (some (.inr a.2))
noncomputable def q3p (c : List Int) (a : Int) (b : Int) : Option (List Int):=
  (loop (q36 b a) (w64 (Int.tdiv (w64 ((w64 (b - a)) - 1)) 2),c)).bind fun d=>(loop (q37 a) (w64 ((w64 (b - a)) - 1),d)).bind fun f=>some f
noncomputable def q2b (c : List Int) (a : Int) (b : Int) (d : Int) : Option (Int × Int × Int):=
  (idx c b).bind fun f=>(idx c a).bind fun g=>(q2w f g).bind fun h=>cond h (some (b,a,w64 (d + 1))) (some (a,b,d))
noncomputable def q3f (a : List Int) (f : Int) (g : Int) (h : Int) (j : Int) : Option (Int × Int):=
  (q2b a f g j).bind fun b=>(q2b a b.2.1 h b.2.2).bind fun c=>(q2b a b.1 c.1 c.2.2).bind fun d=>some (d.2.1,d.2.2)
noncomputable def q1d (c : List Int) (a : Int) (d : Int) : Option (Int × Int):=
  (q3f c (w64 (a - 1)) a (w64 (a + 1)) d).bind fun b=>some (b.1,b.2)
noncomputable def q3q (d : List Int) (a : Int) (b : Int) : Option (Int × Int):=
  (cond (decide ((w64 (b - a)) ≥ 8)) ((cond (decide ((w64 (b - a)) ≥ 50)) ((q1d d (w64 (a + (w64 ((w64 (Int.tdiv (w64 (b - a)) 4)) * 1)))) 0).bind fun g=>(q1d d (w64 (a + (w64 ((w64 (Int.tdiv (w64 (b - a)) 4)) * 2)))) g.2).bind fun h=>(q1d d (w64 (a + (w64 ((w64 (Int.tdiv (w64 (b - a)) 4)) * 3)))) h.2).bind fun j=>some (g.1,h.1,j.1,j.2)) (some (w64 (a + (w64 ((w64 (Int.tdiv (w64 (b - a)) 4)) * 1))),w64 (a + (w64 ((w64 (Int.tdiv (w64 (b - a)) 4)) * 2))),w64 (a + (w64 ((w64 (Int.tdiv (w64 (b - a)) 4)) * 3))),0))).bind fun f=>(q3f d f.1 f.2.1 f.2.2.1 f.2.2.2).bind fun k=>some (k.1,k.2)) (some (w64 (a + (w64 ((w64 (Int.tdiv (w64 (b - a)) 4)) * 2))),0))).bind fun c=>cond (c.2 == 0) (some (c.1,1)) (cond (c.2 == 12) (some (c.1,2)) (some (c.1,0)))
noncomputable def q3g (a : Int × Int × List Int) : Option ((Int × Int × List Int) ⊕ (List Int)):=
  cond (decide (a.1 < a.2.1)) ((idx a.2.2 a.2.1).bind fun b=>(idx a.2.2 a.1).bind fun c=>(idx a.2.2 a.1).bind fun _=>(idx (a.2.2.set a.1.toNat b) a.2.1).bind fun _=>some (.inl (w64 (a.1 + 1),w64 (a.2.1 - 1),(a.2.2.set a.1.toNat b).set a.2.1.toNat c))) (some (.inr a.2.2))
noncomputable def q2o (a : List Int) (b : Int) (c : Int) : Option (List Int):=
  (loop q3g (b,w64 (c - 1),a)).bind fun d=>some d
noncomputable def q1e (c : Int) (b : Int × Int × List Int) (a : Int) : Option ((Int) ⊕ (Int)):=
  (cond (decide (a < c)) ((idx b.2.2 a).bind fun d=>(idx b.2.2 (w64 (a - 1))).bind fun f=>(q2w d f).bind fun g=>some (!g)) (some false)).bind fun h=>cond h (some (.inl (w64 (a + 1)))) (some (.inr a))
noncomputable def q1t (a : Int × List Int) : Option ((Int × List Int) ⊕ (List Int)):=
  cond (decide (a.1 ≥ 1)) ((idx a.2 a.1).bind fun c=>(idx a.2 (w64 (a.1 - 1))).bind fun d=>(q2w c d).bind fun f=>cond (!f) (some (.inr a.2)) ((idx a.2 (w64 (a.1 - 1))).bind fun b=>(idx a.2 a.1).bind fun g=>(idx a.2 a.1).bind fun _=>(idx (a.2.set a.1.toNat b) (w64 (a.1 - 1))).bind fun _=>some (.inl (w64 (a.1 - 1),(a.2.set a.1.toNat b).set (w64 (a.1 - 1)).toNat g)))) (some (.inr a.2))
noncomputable def q1f (d : Int) (b : Int) (a : Int × List Int) : Option ((Int × List Int) ⊕ (Int × List Int)):=
  cond (decide (a.1 < d)) ((idx a.2 a.1).bind fun f=>(idx a.2 (w64 (a.1 - 1))).bind fun g=>(q2w f g).bind fun h=>cond (!h) (some (.inr (b,a.2))) ((idx a.2 (w64 (a.1 - 1))).bind fun c=>(idx a.2 a.1).bind fun j=>(idx a.2 a.1).bind fun _=>(idx (a.2.set a.1.toNat c) (w64 (a.1 - 1))).bind fun _=>some (.inl (w64 (a.1 + 1),(a.2.set a.1.toNat c).set (w64 (a.1 - 1)).toNat j)))) (some (.inr (b,a.2)))
noncomputable def q11 (c : Int) (g : Int) (b : Int × Int × List Int) : Option ((Int × Int × List Int) ⊕ ((List Int) ⊕ (Bool × List Int))):=
  cond (decide (b.2.1 < 5)) (((loop (q1e c b) b.1).bind fun a=>cond (a == c) (some (.inr (true,b.2.2))) (cond (decide ((w64 (c - g)) < 50)) (some (.inr (false,b.2.2))) ((idx b.2.2 (w64 (a - 1))).bind fun d=>(idx b.2.2 a).bind fun h=>(idx b.2.2 a).bind fun _=>(idx (b.2.2.set a.toNat d) (w64 (a - 1))).bind fun _=>(cond (decide ((w64 (a - g)) ≥ 2)) ((loop q1t (w64 (a - 1),(b.2.2.set a.toNat d).set (w64 (a - 1)).toNat h)).bind fun f=>some f) (some ((b.2.2.set a.toNat d).set (w64 (a - 1)).toNat h))).bind fun j=>cond (decide ((w64 (c - a)) ≥ 2)) ((loop (q1f c a) (w64 (a + 1),j)).bind fun f=>some (.inl f)) (some (.inl (a,j))))) : Option ((Int × List Int) ⊕ (Bool × List Int))).bind fun l=>(match l with | .inl k=>some (.inl (k.1,w64 (b.2.1 + 1),k.2)) | .inr m=>some (.inr (.inr m)))) (some (.inr (.inl b.2.2)))
noncomputable def q18 (b : List Int) (a : Int) (c : Int) : Option (Bool × List Int):=
  (loop (q11 c a) (w64 (a + 1),0,b) : Option ((List Int) ⊕ (Bool × List Int))).bind fun d=>(match d with | .inl f=>some (false,f) | .inr g=>some g)
noncomputable def q1q (b : Int × Int × List Int) (c : Int) (a : Int) : Option ((Int) ⊕ (Int)):=
  (cond (decide (a≤b.2.1)) ((idx b.2.2 c).bind fun d=>(idx b.2.2 a).bind fun f=>(q2w d f).bind fun g=>some (!g)) (some false)).bind fun h=>cond h (some (.inl (w64 (a + 1)))) (some (.inr a))
noncomputable def q1r (c : Int) (b : Int × Int × List Int) (d : Int) (a : Int) : Option ((Int) ⊕ (Int)):=
  (cond (decide (c≤a)) ((idx b.2.2 d).bind fun f=>(idx b.2.2 a).bind fun g=>(q2w f g).bind fun h=>some h) (some false)).bind fun j=>cond j (some (.inl (w64 (a - 1)))) (some (.inr a))
noncomputable def q1s (d : Int) (a : Int × Int × List Int) : Option ((Int × Int × List Int) ⊕ (Int × List Int)):=
  (loop (q1q a d) a.1).bind fun b=>(loop (q1r b a d) a.2.1).bind fun c=>cond (decide (b > c)) (some (.inr (b,a.2.2))) ((idx a.2.2 c).bind fun f=>(idx a.2.2 b).bind fun g=>(idx a.2.2 b).bind fun _=>(idx (a.2.2.set b.toNat f) c).bind fun _=>some (.inl (w64 (b + 1),w64 (c - 1),(a.2.2.set b.toNat f).set c.toNat g)))
noncomputable def q29 (b : List Int) (a : Int) (g : Int) (c : Int) : Option (Int × List Int):=
  (idx b c).bind fun d=>(idx b a).bind fun h=>(idx b a).bind fun _=>(idx (b.set a.toNat d) c).bind fun _=>(loop (q1s a) (w64 (a + 1),w64 (g - 1),(b.set a.toNat d).set c.toNat h)).bind fun f=>some (f.1,f.2)
noncomputable def q2p (h : Int) (c : List Int) (b : Int) (d : Int) (f : Int) (g : Int) (a : Int) : Option ((Int) ⊕ (Int)):=
  (cond (decide (a≤(w64 (h - 1)))) ((idx ((c.set b.toNat d).set f.toNat g) a).bind fun j=>(idx ((c.set b.toNat d).set f.toNat g) b).bind fun k=>(q2w j k).bind fun l=>some l) (some false)).bind fun m=>cond m (some (.inl (w64 (a + 1)))) (some (.inr a))
noncomputable def q2q (h : Int) (c : List Int) (b : Int) (d : Int) (f : Int) (g : Int) (a : Int) : Option ((Int) ⊕ (Int)):=
  (cond (decide (h≤a)) ((idx ((c.set b.toNat d).set f.toNat g) a).bind fun j=>(idx ((c.set b.toNat d).set f.toNat g) b).bind fun k=>(q2w j k).bind fun l=>some (!l)) (some false)).bind fun m=>cond m (some (.inl (w64 (a - 1)))) (some (.inr a))
noncomputable def q2r (b : Int × Int × List Int) (c : Int) (a : Int) : Option ((Int) ⊕ (Int)):=
  (cond (decide (a≤b.2.1)) ((idx b.2.2 a).bind fun d=>(idx b.2.2 c).bind fun f=>(q2w d f).bind fun g=>some g) (some false)).bind fun h=>cond h (some (.inl (w64 (a + 1)))) (some (.inr a))
noncomputable def q2s (c : Int) (b : Int × Int × List Int) (d : Int) (a : Int) : Option ((Int) ⊕ (Int)):=
  (cond (decide (c≤a)) ((idx b.2.2 a).bind fun f=>(idx b.2.2 d).bind fun g=>(q2w f g).bind fun h=>some (!h)) (some false)).bind fun j=>cond j (some (.inl (w64 (a - 1)))) (some (.inr a))
noncomputable def q2t (d : Int) (a : Int × Int × List Int) : Option ((Int × Int × List Int) ⊕ (Int × List Int)):=
  (loop (q2r a d) a.1).bind fun b=>(loop (q2s b a d) a.2.1).bind fun c=>cond (decide (b > c)) (some (.inr (c,a.2.2))) ((idx a.2.2 c).bind fun f=>(idx a.2.2 b).bind fun g=>(idx a.2.2 b).bind fun _=>(idx (a.2.2.set b.toNat f) c).bind fun _=>some (.inl (w64 (b + 1),w64 (c - 1),(a.2.2.set b.toNat f).set c.toNat g)))
noncomputable def q3i (b : List Int) (a : Int) (k : Int) (c : Int) : Option (Int × Bool × List Int):=
  (idx b c).bind fun d=>(idx b a).bind fun f=>(idx b a).bind fun _=>(idx (b.set a.toNat d) c).bind fun _=>(loop (q2p k b a d c f) (w64 (a + 1))).bind fun j=>(loop (q2q j b a d c f) (w64 (k - 1))).bind fun g=>cond (decide (j > g)) ((idx ((b.set a.toNat d).set c.toNat f) a).bind fun l=>(idx ((b.set a.toNat d).set c.toNat f) g).bind fun o=>(idx ((b.set a.toNat d).set c.toNat f) g).bind fun _=>(idx (((b.set a.toNat d).set c.toNat f).set g.toNat l) a).bind fun _=>some (g,true,(((b.set a.toNat d).set c.toNat f).set g.toNat l).set a.toNat o)) ((idx ((b.set a.toNat d).set c.toNat f) g).bind fun m=>(idx ((b.set a.toNat d).set c.toNat f) j).bind fun p=>(idx ((b.set a.toNat d).set c.toNat f) j).bind fun _=>(idx (((b.set a.toNat d).set c.toNat f).set j.toNat m) g).bind fun _=>(loop (q2t a) (w64 (j + 1),w64 (g - 1),(((b.set a.toNat d).set c.toNat f).set j.toNat m).set g.toNat p)).bind fun h=>(idx h.2 a).bind fun n=>(idx h.2 h.1).bind fun q=>(idx h.2 h.1).bind fun _=>(idx (h.2.set h.1.toNat n) a).bind fun _=>some (h.1,false,(h.2.set h.1.toNat n).set a.toNat q))
noncomputable def q3j (a : Int) : Option Int:=
  (q4q (IntKind.wrap .u64 a)).bind fun b=>(shlK .u64 1 b).bind fun c=>some c
noncomputable def q2v (a : Int) : Option Int:=
  some (xorI .u64 (xorI .u64 (xorI .u64 a (IntKind.wrap .u64 (a * (2 ^ 13)))) (Int.fdiv (xorI .u64 a (IntKind.wrap .u64 (a * (2 ^ 13)))) (2 ^ 7))) (IntKind.wrap .u64 ((xorI .u64 (xorI .u64 a (IntKind.wrap .u64 (a * (2 ^ 13)))) (Int.fdiv (xorI .u64 a (IntKind.wrap .u64 (a * (2 ^ 13)))) (2 ^ 7))) * (2 ^ 17))))
noncomputable def q1w (b : Int) (d : Int) (f : Int) (a : Int × List Int × Int) : Option ((Int × List Int × Int) ⊕ (List Int)):=
  cond (decide (a.1≤(w64 ((w64 (b + (w64 ((w64 (Int.tdiv (w64 (d - b)) 4)) * 2)))) + 1)))) ((q2v a.2.2).bind fun c=>(cond (decide ((w64 (andI .u64 c (IntKind.wrap .u64 (f - 1)))) ≥ (w64 (d - b)))) (some (w64 ((w64 (andI .u64 c (IntKind.wrap .u64 (f - 1)))) - (w64 (d - b))))) (some (w64 (andI .u64 c (IntKind.wrap .u64 (f - 1)))))).bind fun g=>(idx a.2.1 (w64 (b + g))).bind fun h=>(idx a.2.1 a.1).bind fun j=>(idx a.2.1 a.1).bind fun _=>(idx (a.2.1.set a.1.toNat h) (w64 (b + g))).bind fun _=>some (.inl (w64 (a.1 + 1),(a.2.1.set a.1.toNat h).set (w64 (b + g)).toNat j,c))) (some (.inr a.2.1))
noncomputable def q2h (c : List Int) (a : Int) (b : Int) : Option (List Int):=
  cond (decide ((w64 (b - a)) ≥ 8)) ((q3j (w64 (b - a))).bind fun d=>(loop (q1w a b d) (w64 ((w64 (a + (w64 ((w64 (Int.tdiv (w64 (b - a)) 4)) * 2)))) - 1),c,IntKind.wrap .u64 (w64 (b - a)))).bind fun f=>some f) (some c)
noncomputable def q27 (rec : List Int→Int→Int→Int→Option (List Int)) (a : Int × Int × Int × Bool × Bool × List Int) : Option ((Int × Int × Int × Bool × Bool × List Int) ⊕ (List Int)):=
  cond (decide ((w64 (a.2.1 - a.1))≤12)) ((q2g a.2.2.2.2.2 a.1 a.2.1).bind fun k=>(lenEq k.length a.2.2.2.2.2.length).bind fun _=>some (.inr k)) (cond (a.2.2.1 == 0) ((q3p a.2.2.2.2.2 a.1 a.2.1).bind fun l=>(lenEq l.length a.2.2.2.2.2.length).bind fun _=>some (.inr l)) ((cond (!a.2.2.2.1) ((q2h a.2.2.2.2.2 a.1 a.2.1).bind fun m=>(lenEq m.length a.2.2.2.2.2.length).bind fun _=>some (w64 (a.2.2.1 - 1),m)) (some (a.2.2.1,a.2.2.2.2.2))).bind fun c=>(q3q c.2 a.1 a.2.1).bind fun g=>(cond (g.2 == 2) ((q2o c.2 a.1 a.2.1).bind fun n=>(lenEq n.length c.2.length).bind fun _=>some (w64 ((w64 (a.2.1 - 1)) - (w64 (g.1 - a.1))),1,n)) (some (g.1,g.2,c.2))).bind fun d=>(cond a.2.2.2.1 (some a.2.2.2.2.1) (some false)).bind fun q=>(cond q (some (d.2.1 == 1)) (some false)).bind fun r=>(cond r ((q18 d.2.2 a.1 a.2.1).bind fun h=>(lenEq h.2.length d.2.2.length).bind fun _=>cond h.1 (some (.inr h.2)) (some (.inl h.2))) (some (.inl d.2.2)) : Option ((List Int) ⊕ (List Int))).bind fun s=>(match s with | .inl f=>(cond (decide (a.1 > 0)) ((idx f (w64 (a.1 - 1))).bind fun t=>(idx f d.1).bind fun u=>(q2w t u).bind fun v=>some (!v)) (some false)).bind fun w=>cond w ((q29 f a.1 a.2.1 d.1).bind fun j=>(lenEq j.2.length f.length).bind fun _=>some (.inl (j.1,a.2.1,c.1,a.2.2.2.1,a.2.2.2.2.1,j.2))) ((q3i f a.1 a.2.1 d.1).bind fun b=>(lenEq b.2.2.length f.length).bind fun _=>cond (decide ((w64 (b.1 - a.1)) < (w64 (a.2.1 - b.1)))) ((rec b.2.2 a.1 b.1 c.1).bind fun o=>(lenEq o.length b.2.2.length).bind fun _=>some (.inl (w64 (b.1 + 1),a.2.1,c.1,decide ((w64 (b.1 - a.1)) ≥ (w64 (Int.tdiv (w64 (a.2.1 - a.1)) 8))),b.2.1,o))) ((rec b.2.2 (w64 (b.1 + 1)) a.2.1 c.1).bind fun p=>(lenEq p.length b.2.2.length).bind fun _=>some (.inl (a.1,b.1,c.1,decide ((w64 (a.2.1 - b.1)) ≥ (w64 (Int.tdiv (w64 (a.2.1 - a.1)) 8))),b.2.1,p)))) | .inr x=>some (.inr x))))
noncomputable def q2e (rec : List Int→Int→Int→Int→Option (List Int)) (a : List Int) (b : Int) (c : Int) (d : Int) : Option (List Int):=
  (loop (q27 rec) (b,c,d,true,true,a)).bind fun f=>some f
noncomputable def q3t : Nat→List Int→Int→Int→Int→Option (List Int)
  | 0,_,_,_,_=>none
  | n + 1,a,b,c,d=>q2e (q3t n)  a b c d
noncomputable def q2c (a : List Int) : Option (List Int):=
  (q4q (IntKind.wrap .u64 (a.length : Int))).bind fun c=>(lim (fun n=>q3t n a 0 (a.length : Int) c)).bind fun b=>(lenEq b.length a.length).bind fun _=>some b
noncomputable def q1p (a : Int × (Nat × Nat) × Int × List Int) : Option ((Int × (Nat × Nat) × Int × List Int) ⊕ (Int × List Int)):=
  cond (decide (a.2.2.1 < (a.2.1.2 : Int))) (((idxW a.2.2.2 a.2.1 a.2.2.1).bind fun c=>(idxW a.2.2.2 a.2.1 (w64 (a.2.2.1 - 1))).bind fun d=>cond (c != d) ((idxW a.2.2.2 a.2.1 a.2.2.1).bind fun f=>(idx a.2.2.2 a.1).bind fun _=>some (w64 (a.1 + 1),a.2.1,a.2.2.2.set a.1.toNat f)) (some (a.1,a.2.1,a.2.2.2))).bind fun b=>some (.inl (b.1,b.2.1,w64 (a.2.2.1 + 1),b.2.2))) (some (.inr (a.1,a.2.2.2)))
noncomputable def qy (a : List Int) (b : Int) : Option ((Int) ⊕ ((Unit) ⊕ ((Nat × Nat) × List Int))):=
  cond (decide (b < (a.length : Int))) ((idx a b).bind fun d=>(idx a (w64 (b - 1))).bind fun f=>cond (d == f) ((sub2 a.length b a.length).bind fun g=>(loop q1p (b,g,1,a)).bind fun c=>(sub2 c.2.length c.1 c.2.length).bind fun h=>(sub2 c.2.length 0 c.1).bind fun j=>some (.inr (.inr (j,clrw c.2 h 0)))) (some (.inl (w64 (b + 1))))) (some (.inr (.inl ())))
noncomputable def q33 (a : List Int) : Option ((Nat × Nat) × List Int):=
  cond (decide ((a.length : Int) < 2)) (some ((0,a.length),a)) ((loop (qy a) 1 : Option ((Unit) ⊕ ((Nat × Nat) × List Int))).bind fun b=>(match b with | .inl _=>some ((0,a.length),a) | .inr c=>some c))
structure api_Rect where
  X0 : Int
  Y0 : Int
  X1 : Int
  Y1 : Int
  deriving DecidableEq
def q9 (x : api_Rect) : List DV:=[.int .i64 x.X0,.int .i64 x.Y0,.int .i64 x.X1,.int .i64 x.Y1]
noncomputable def q1j (b : List api_Rect) (c : api_Rect→Option Bool) (a : Int) : Option ((Int) ⊕ ((Unit) ⊕ (Int))):=
  cond (decide (a < (b.length : Int))) ((idx b a).bind fun d=>(c d).bind fun f=>cond f (some (.inr (.inr a))) (some (.inl (w64 (a + 1))))) (some (.inr (.inl ())))
noncomputable def q46 (a : List api_Rect) (b : api_Rect→Option Bool) : Option Int:=
  (loop (q1j a b) 0 : Option ((Unit) ⊕ (Int))).bind fun c=>(match c with | .inl _=>some (-1) | .inr d=>some d)
noncomputable def q39 (a : List api_Rect) (b : api_Rect→Option Bool) : Option Bool:=
  (q46 a b).bind fun c=>some (decide (c ≥ 0))
noncomputable def q68 (a : Int) : Option Bool:=
  (cond (decide (a ≥ (-1000000))) (some (decide (a≤1000000))) (some false)).bind fun b=>some b
noncomputable def q8e (a : api_Rect) : Option Bool:=
  (cond (decide (a.X0 < a.X1)) (some (decide (a.Y0 < a.Y1))) (some false)).bind fun b=>(cond b ((q68 a.X0).bind fun c=>some c) (some false)).bind fun d=>(cond d ((q68 a.X1).bind fun f=>some f) (some false)).bind fun g=>(cond g ((q68 a.Y0).bind fun h=>some h) (some false)).bind fun j=>(cond j ((q68 a.Y1).bind fun k=>some k) (some false)).bind fun l=>some l
noncomputable def q5d (a : api_Rect) : Option Bool:=
  (q8e a).bind fun b=>some (!b)
def q1h (x : List api_Rect) : List DV:=[.sl 4 (x.map q9)]
structure api_Span where
  Lo : Int
  Hi : Int
  deriving DecidableEq
def qf (x : api_Span) : List DV:=[.int .i64 x.Lo,.int .i64 x.Hi]
noncomputable def q17 (b : List api_Span) (c : api_Span→Option Bool) (a : Int) : Option ((Int) ⊕ ((Unit) ⊕ (Int))):=
  cond (decide (a < (b.length : Int))) ((idx b a).bind fun d=>(c d).bind fun f=>cond f (some (.inr (.inr a))) (some (.inl (w64 (a + 1))))) (some (.inr (.inl ())))
noncomputable def q3l (a : List api_Span) (b : api_Span→Option Bool) : Option Int:=
  (loop (q17 a b) 0 : Option ((Unit) ⊕ (Int))).bind fun c=>(match c with | .inl _=>some (-1) | .inr d=>some d)
noncomputable def q3a (a : List api_Span) (b : api_Span→Option Bool) : Option Bool:=
  (q3l a b).bind fun c=>some (decide (c ≥ 0))
noncomputable def span_valid (a : api_Span) : Option Bool:=
  (cond (decide (a.Lo < a.Hi)) (some (decide (a.Lo ≥ (-1000000)))) (some false)).bind fun b=>(cond b (some (decide (a.Hi≤1000000))) (some false)).bind fun c=>some c
noncomputable def qay (a : api_Span) : Option Bool:=
  (span_valid a).bind fun b=>some (!b)
def q3e (x : List api_Span) : List DV:=[.sl 2 (x.map qf)]
structure span_end where
  at_ : Int
  list_ : Int
  by_ : Int
  deriving DecidableEq
def qe (x : span_end) : List DV:=[.int .i64 x.at_,.int .i64 x.list_,.int .i64 x.by_]
noncomputable def q98 (a : span_end) (b : span_end) : Option Int:=
  some (w64 (a.at_ - b.at_))
noncomputable def q22 (c : Int) (d : span_end→span_end→Option Int) (a : Int × List span_end) : Option ((Int × List span_end) ⊕ (List span_end)):=
  (cond (decide (a.1 > c)) ((idx a.2 a.1).bind fun f=>(idx a.2 (w64 (a.1 - 1))).bind fun g=>(d f g).bind fun h=>some (decide (h < 0))) (some false)).bind fun j=>cond j ((idx a.2 (w64 (a.1 - 1))).bind fun b=>(idx a.2 a.1).bind fun k=>(idx a.2 a.1).bind fun _=>(idx (a.2.set a.1.toNat b) (w64 (a.1 - 1))).bind fun _=>some (.inl (w64 (a.1 - 1),(a.2.set a.1.toNat b).set (w64 (a.1 - 1)).toNat k))) (some (.inr a.2))
noncomputable def q23 (b : Int) (c : Int) (d : span_end→span_end→Option Int) (a : Int × List span_end) : Option ((Int × List span_end) ⊕ (List span_end)):=
  cond (decide (a.1 < b)) (((loop (q22 c d) (a.1,a.2)).bind fun f=>some f).bind fun g=>some (.inl (w64 (a.1 + 1),g))) (some (.inr a.2))
noncomputable def q2k (b : span_end→span_end→Option Int) (c : List span_end) (a : Int) (d : Int) : Option (List span_end):=
  (loop (q23 d a b) (w64 (a + 1),c)).bind fun f=>some f
noncomputable def q3b (d : Int) (b : Int) (f : span_end→span_end→Option Int) (a : Int × List span_end) : Option ((Int × List span_end) ⊕ (List span_end)):=
  cond (decide ((w64 ((w64 (2 * a.1)) + 1)) ≥ d)) (some (.inr a.2)) ((cond (decide ((w64 ((w64 ((w64 (2 * a.1)) + 1)) + 1)) < d)) ((idx a.2 (w64 (b + (w64 ((w64 (2 * a.1)) + 1))))).bind fun h=>(idx a.2 (w64 ((w64 (b + (w64 ((w64 (2 * a.1)) + 1)))) + 1))).bind fun j=>(f h j).bind fun k=>some (decide (k < 0))) (some false)).bind fun l=>(cond l (some (w64 ((w64 ((w64 (2 * a.1)) + 1)) + 1))) (some (w64 ((w64 (2 * a.1)) + 1)))).bind fun c=>(idx a.2 (w64 (b + a.1))).bind fun m=>(idx a.2 (w64 (b + c))).bind fun n=>(f m n).bind fun o=>cond (!(decide (o < 0))) (some (.inr a.2)) ((idx a.2 (w64 (b + c))).bind fun g=>(idx a.2 (w64 (b + a.1))).bind fun p=>(idx a.2 (w64 (b + a.1))).bind fun _=>(idx (a.2.set (w64 (b + a.1)).toNat g) (w64 (b + c))).bind fun _=>some (.inl (c,(a.2.set (w64 (b + a.1)).toNat g).set (w64 (b + c)).toNat p))))
noncomputable def q2i (a : span_end→span_end→Option Int) (b : List span_end) (c : Int) (d : Int) (f : Int) : Option (List span_end):=
  (loop (q3b d f a) (c,b)).bind fun g=>some g
noncomputable def q3c (d : span_end→span_end→Option Int) (f : Int) (b : Int) (a : Int × List span_end) : Option ((Int × List span_end) ⊕ (List span_end)):=
  cond (decide (a.1 ≥ 0)) ((q2i d a.2 a.1 (w64 (f - b)) b).bind fun c=>(lenEq c.length a.2.length).bind fun _=>some (.inl (w64 (a.1 - 1),c))) (some (.inr a.2))
noncomputable def q3d (b : Int) (g : span_end→span_end→Option Int) (a : Int × List span_end) : Option ((Int × List span_end) ⊕ (List span_end)):=
  cond (decide (a.1 ≥ 0)) ((idx a.2 (w64 (b + a.1))).bind fun c=>(idx a.2 b).bind fun d=>(idx a.2 b).bind fun _=>(idx (a.2.set b.toNat c) (w64 (b + a.1))).bind fun _=>(q2i g ((a.2.set b.toNat c).set (w64 (b + a.1)).toNat d) 0 a.1 b).bind fun f=>(lenEq f.length ((a.2.set b.toNat c).set (w64 (b + a.1)).toNat d).length).bind fun _=>some (.inl (w64 (a.1 - 1),f))) (some (.inr a.2))
noncomputable def q3m (c : span_end→span_end→Option Int) (d : List span_end) (a : Int) (b : Int) : Option (List span_end):=
  (loop (q3c c b a) (w64 (Int.tdiv (w64 ((w64 (b - a)) - 1)) 2),d)).bind fun f=>(loop (q3d a c) (w64 ((w64 (b - a)) - 1),f)).bind fun g=>some g
noncomputable def q21 (f : span_end→span_end→Option Int) (c : List span_end) (a : Int) (b : Int) (d : Int) : Option (Int × Int × Int):=
  (idx c b).bind fun g=>(idx c a).bind fun h=>(f g h).bind fun j=>cond (decide (j < 0)) (some (b,a,w64 (d + 1))) (some (a,b,d))
noncomputable def q38 (a : span_end→span_end→Option Int) (b : List span_end) (g : Int) (h : Int) (j : Int) (k : Int) : Option (Int × Int):=
  (q21 a b g h k).bind fun c=>(q21 a b c.2.1 j c.2.2).bind fun d=>(q21 a b c.1 d.1 d.2.2).bind fun f=>some (f.2.1,f.2.2)
noncomputable def q1b (c : span_end→span_end→Option Int) (d : List span_end) (a : Int) (f : Int) : Option (Int × Int):=
  (q38 c d (w64 (a - 1)) a (w64 (a + 1)) f).bind fun b=>some (b.1,b.2)
noncomputable def q3n (d : List span_end) (a : Int) (b : Int) (f : span_end→span_end→Option Int) : Option (Int × Int):=
  (cond (decide ((w64 (b - a)) ≥ 8)) ((cond (decide ((w64 (b - a)) ≥ 50)) ((q1b f d (w64 (a + (w64 ((w64 (Int.tdiv (w64 (b - a)) 4)) * 1)))) 0).bind fun h=>(q1b f d (w64 (a + (w64 ((w64 (Int.tdiv (w64 (b - a)) 4)) * 2)))) h.2).bind fun j=>(q1b f d (w64 (a + (w64 ((w64 (Int.tdiv (w64 (b - a)) 4)) * 3)))) j.2).bind fun k=>some (h.1,j.1,k.1,k.2)) (some (w64 (a + (w64 ((w64 (Int.tdiv (w64 (b - a)) 4)) * 1))),w64 (a + (w64 ((w64 (Int.tdiv (w64 (b - a)) 4)) * 2))),w64 (a + (w64 ((w64 (Int.tdiv (w64 (b - a)) 4)) * 3))),0))).bind fun g=>(q38 f d g.1 g.2.1 g.2.2.1 g.2.2.2).bind fun l=>some (l.1,l.2)) (some (w64 (a + (w64 ((w64 (Int.tdiv (w64 (b - a)) 4)) * 2))),0))).bind fun c=>cond (c.2 == 0) (some (c.1,1)) (cond (c.2 == 12) (some (c.1,2)) (some (c.1,0)))
noncomputable def q28 (a : Int × Int × List span_end) : Option ((Int × Int × List span_end) ⊕ (List span_end)):=
  cond (decide (a.1 < a.2.1)) ((idx a.2.2 a.2.1).bind fun b=>(idx a.2.2 a.1).bind fun c=>(idx a.2.2 a.1).bind fun _=>(idx (a.2.2.set a.1.toNat b) a.2.1).bind fun _=>some (.inl (w64 (a.1 + 1),w64 (a.2.1 - 1),(a.2.2.set a.1.toNat b).set a.2.1.toNat c))) (some (.inr a.2.2))
noncomputable def q2x (f : span_end→span_end→Option Int) (a : List span_end) (b : Int) (c : Int) : Option (List span_end):=
  (loop q28 (b,w64 (c - 1),a)).bind fun d=>some d
noncomputable def q1l (c : Int) (b : Int × Int × List span_end) (d : span_end→span_end→Option Int) (a : Int) : Option ((Int) ⊕ (Int)):=
  (cond (decide (a < c)) ((idx b.2.2 a).bind fun f=>(idx b.2.2 (w64 (a - 1))).bind fun g=>(d f g).bind fun h=>some (!(decide (h < 0)))) (some false)).bind fun j=>cond j (some (.inl (w64 (a + 1)))) (some (.inr a))
noncomputable def q1m (c : span_end→span_end→Option Int) (a : Int × List span_end) : Option ((Int × List span_end) ⊕ (List span_end)):=
  cond (decide (a.1 ≥ 1)) ((idx a.2 a.1).bind fun d=>(idx a.2 (w64 (a.1 - 1))).bind fun f=>(c d f).bind fun g=>cond (!(decide (g < 0))) (some (.inr a.2)) ((idx a.2 (w64 (a.1 - 1))).bind fun b=>(idx a.2 a.1).bind fun h=>(idx a.2 a.1).bind fun _=>(idx (a.2.set a.1.toNat b) (w64 (a.1 - 1))).bind fun _=>some (.inl (w64 (a.1 - 1),(a.2.set a.1.toNat b).set (w64 (a.1 - 1)).toNat h)))) (some (.inr a.2))
noncomputable def q1n (d : Int) (f : span_end→span_end→Option Int) (b : Int) (a : Int × List span_end) : Option ((Int × List span_end) ⊕ (Int × List span_end)):=
  cond (decide (a.1 < d)) ((idx a.2 a.1).bind fun g=>(idx a.2 (w64 (a.1 - 1))).bind fun h=>(f g h).bind fun j=>cond (!(decide (j < 0))) (some (.inr (b,a.2))) ((idx a.2 (w64 (a.1 - 1))).bind fun c=>(idx a.2 a.1).bind fun k=>(idx a.2 a.1).bind fun _=>(idx (a.2.set a.1.toNat c) (w64 (a.1 - 1))).bind fun _=>some (.inl (w64 (a.1 + 1),(a.2.set a.1.toNat c).set (w64 (a.1 - 1)).toNat k)))) (some (.inr (b,a.2)))
noncomputable def q13 (c : Int) (d : span_end→span_end→Option Int) (h : Int) (b : Int × Int × List span_end) : Option ((Int × Int × List span_end) ⊕ ((List span_end) ⊕ (Bool × List span_end))):=
  cond (decide (b.2.1 < 5)) (((loop (q1l c b d) b.1).bind fun a=>cond (a == c) (some (.inr (true,b.2.2))) (cond (decide ((w64 (c - h)) < 50)) (some (.inr (false,b.2.2))) ((idx b.2.2 (w64 (a - 1))).bind fun f=>(idx b.2.2 a).bind fun j=>(idx b.2.2 a).bind fun _=>(idx (b.2.2.set a.toNat f) (w64 (a - 1))).bind fun _=>(cond (decide ((w64 (a - h)) ≥ 2)) ((loop (q1m d) (w64 (a - 1),(b.2.2.set a.toNat f).set (w64 (a - 1)).toNat j)).bind fun g=>some g) (some ((b.2.2.set a.toNat f).set (w64 (a - 1)).toNat j))).bind fun k=>cond (decide ((w64 (c - a)) ≥ 2)) ((loop (q1n c d a) (w64 (a + 1),k)).bind fun g=>some (.inl g)) (some (.inl (a,k))))) : Option ((Int × List span_end) ⊕ (Bool × List span_end))).bind fun m=>(match m with | .inl l=>some (.inl (l.1,w64 (b.2.1 + 1),l.2)) | .inr n=>some (.inr (.inr n)))) (some (.inr (.inl b.2.2)))
noncomputable def q19 (b : span_end→span_end→Option Int) (c : List span_end) (a : Int) (d : Int) : Option (Bool × List span_end):=
  (loop (q13 d b a) (w64 (a + 1),0,c) : Option ((List span_end) ⊕ (Bool × List span_end))).bind fun f=>(match f with | .inl g=>some (false,g) | .inr h=>some h)
noncomputable def q1y (b : Int × Int × List span_end) (c : Int) (d : span_end→span_end→Option Int) (a : Int) : Option ((Int) ⊕ (Int)):=
  (cond (decide (a≤b.2.1)) ((idx b.2.2 c).bind fun f=>(idx b.2.2 a).bind fun g=>(d f g).bind fun h=>some (!(decide (h < 0)))) (some false)).bind fun j=>cond j (some (.inl (w64 (a + 1)))) (some (.inr a))
noncomputable def q1z (c : Int) (b : Int × Int × List span_end) (d : Int) (f : span_end→span_end→Option Int) (a : Int) : Option ((Int) ⊕ (Int)):=
  (cond (decide (c≤a)) ((idx b.2.2 d).bind fun g=>(idx b.2.2 a).bind fun h=>(f g h).bind fun j=>some (decide (j < 0))) (some false)).bind fun k=>cond k (some (.inl (w64 (a - 1)))) (some (.inr a))
noncomputable def q20 (d : Int) (f : span_end→span_end→Option Int) (a : Int × Int × List span_end) : Option ((Int × Int × List span_end) ⊕ (Int × List span_end)):=
  (loop (q1y a d f) a.1).bind fun b=>(loop (q1z b a d f) a.2.1).bind fun c=>cond (decide (b > c)) (some (.inr (b,a.2.2))) ((idx a.2.2 c).bind fun g=>(idx a.2.2 b).bind fun h=>(idx a.2.2 b).bind fun _=>(idx (a.2.2.set b.toNat g) c).bind fun _=>some (.inl (w64 (b + 1),w64 (c - 1),(a.2.2.set b.toNat g).set c.toNat h)))
noncomputable def q2f (g : span_end→span_end→Option Int) (b : List span_end) (a : Int) (h : Int) (c : Int) : Option (Int × List span_end):=
  (idx b c).bind fun d=>(idx b a).bind fun j=>(idx b a).bind fun _=>(idx (b.set a.toNat d) c).bind fun _=>(loop (q20 a g) (w64 (a + 1),w64 (h - 1),(b.set a.toNat d).set c.toNat j)).bind fun f=>some (f.1,f.2)
noncomputable def q2y (h : Int) (c : List span_end) (b : Int) (d : span_end) (f : Int) (g : span_end) (j : span_end→span_end→Option Int) (a : Int) : Option ((Int) ⊕ (Int)):=
  (cond (decide (a≤(w64 (h - 1)))) ((idx ((c.set b.toNat d).set f.toNat g) a).bind fun k=>(idx ((c.set b.toNat d).set f.toNat g) b).bind fun l=>(j k l).bind fun m=>some (decide (m < 0))) (some false)).bind fun n=>cond n (some (.inl (w64 (a + 1)))) (some (.inr a))
noncomputable def q2z (h : Int) (c : List span_end) (b : Int) (d : span_end) (f : Int) (g : span_end) (j : span_end→span_end→Option Int) (a : Int) : Option ((Int) ⊕ (Int)):=
  (cond (decide (h≤a)) ((idx ((c.set b.toNat d).set f.toNat g) a).bind fun k=>(idx ((c.set b.toNat d).set f.toNat g) b).bind fun l=>(j k l).bind fun m=>some (!(decide (m < 0)))) (some false)).bind fun n=>cond n (some (.inl (w64 (a - 1)))) (some (.inr a))
noncomputable def q30 (b : Int × Int × List span_end) (c : Int) (d : span_end→span_end→Option Int) (a : Int) : Option ((Int) ⊕ (Int)):=
  (cond (decide (a≤b.2.1)) ((idx b.2.2 a).bind fun f=>(idx b.2.2 c).bind fun g=>(d f g).bind fun h=>some (decide (h < 0))) (some false)).bind fun j=>cond j (some (.inl (w64 (a + 1)))) (some (.inr a))
noncomputable def q31 (c : Int) (b : Int × Int × List span_end) (d : Int) (f : span_end→span_end→Option Int) (a : Int) : Option ((Int) ⊕ (Int)):=
  (cond (decide (c≤a)) ((idx b.2.2 a).bind fun g=>(idx b.2.2 d).bind fun h=>(f g h).bind fun j=>some (!(decide (j < 0)))) (some false)).bind fun k=>cond k (some (.inl (w64 (a - 1)))) (some (.inr a))
noncomputable def q32 (d : Int) (f : span_end→span_end→Option Int) (a : Int × Int × List span_end) : Option ((Int × Int × List span_end) ⊕ (Int × List span_end)):=
  (loop (q30 a d f) a.1).bind fun b=>(loop (q31 b a d f) a.2.1).bind fun c=>cond (decide (b > c)) (some (.inr (c,a.2.2))) ((idx a.2.2 c).bind fun g=>(idx a.2.2 b).bind fun h=>(idx a.2.2 b).bind fun _=>(idx (a.2.2.set b.toNat g) c).bind fun _=>some (.inl (w64 (b + 1),w64 (c - 1),(a.2.2.set b.toNat g).set c.toNat h)))
noncomputable def q3k (k : span_end→span_end→Option Int) (b : List span_end) (a : Int) (l : Int) (c : Int) : Option (Int × Bool × List span_end):=
  (idx b c).bind fun d=>(idx b a).bind fun f=>(idx b a).bind fun _=>(idx (b.set a.toNat d) c).bind fun _=>(loop (q2y l b a d c f k) (w64 (a + 1))).bind fun j=>(loop (q2z j b a d c f k) (w64 (l - 1))).bind fun g=>cond (decide (j > g)) ((idx ((b.set a.toNat d).set c.toNat f) a).bind fun m=>(idx ((b.set a.toNat d).set c.toNat f) g).bind fun p=>(idx ((b.set a.toNat d).set c.toNat f) g).bind fun _=>(idx (((b.set a.toNat d).set c.toNat f).set g.toNat m) a).bind fun _=>some (g,true,(((b.set a.toNat d).set c.toNat f).set g.toNat m).set a.toNat p)) ((idx ((b.set a.toNat d).set c.toNat f) g).bind fun n=>(idx ((b.set a.toNat d).set c.toNat f) j).bind fun q=>(idx ((b.set a.toNat d).set c.toNat f) j).bind fun _=>(idx (((b.set a.toNat d).set c.toNat f).set j.toNat n) g).bind fun _=>(loop (q32 a k) (w64 (j + 1),w64 (g - 1),(((b.set a.toNat d).set c.toNat f).set j.toNat n).set g.toNat q)).bind fun h=>(idx h.2 a).bind fun o=>(idx h.2 h.1).bind fun r=>(idx h.2 h.1).bind fun _=>(idx (h.2.set h.1.toNat o) a).bind fun _=>some (h.1,false,(h.2.set h.1.toNat o).set a.toNat r))
noncomputable def q24 (b : Int) (d : Int) (f : Int) (a : Int × List span_end × Int) : Option ((Int × List span_end × Int) ⊕ (List span_end)):=
  cond (decide (a.1≤(w64 ((w64 (b + (w64 ((w64 (Int.tdiv (w64 (d - b)) 4)) * 2)))) + 1)))) ((q2v a.2.2).bind fun c=>(cond (decide ((w64 (andI .u64 c (IntKind.wrap .u64 (f - 1)))) ≥ (w64 (d - b)))) (some (w64 ((w64 (andI .u64 c (IntKind.wrap .u64 (f - 1)))) - (w64 (d - b))))) (some (w64 (andI .u64 c (IntKind.wrap .u64 (f - 1)))))).bind fun g=>(idx a.2.1 (w64 (b + g))).bind fun h=>(idx a.2.1 a.1).bind fun j=>(idx a.2.1 a.1).bind fun _=>(idx (a.2.1.set a.1.toNat h) (w64 (b + g))).bind fun _=>some (.inl (w64 (a.1 + 1),(a.2.1.set a.1.toNat h).set (w64 (b + g)).toNat j,c))) (some (.inr a.2.1))
noncomputable def q2l (g : span_end→span_end→Option Int) (c : List span_end) (a : Int) (b : Int) : Option (List span_end):=
  cond (decide ((w64 (b - a)) ≥ 8)) ((q3j (w64 (b - a))).bind fun d=>(loop (q24 a b d) (w64 ((w64 (a + (w64 ((w64 (Int.tdiv (w64 (b - a)) 4)) * 2)))) - 1),c,IntKind.wrap .u64 (w64 (b - a)))).bind fun f=>some f) (some c)
noncomputable def q25 (c : span_end→span_end→Option Int) (rec : List span_end→Int→Int→Int→Option (List span_end)) (a : Int × Int × Int × Bool × Bool × List span_end) : Option ((Int × Int × Int × Bool × Bool × List span_end) ⊕ (List span_end)):=
  cond (decide ((w64 (a.2.1 - a.1))≤12)) ((q2k c a.2.2.2.2.2 a.1 a.2.1).bind fun l=>(lenEq l.length a.2.2.2.2.2.length).bind fun _=>some (.inr l)) (cond (a.2.2.1 == 0) ((q3m c a.2.2.2.2.2 a.1 a.2.1).bind fun m=>(lenEq m.length a.2.2.2.2.2.length).bind fun _=>some (.inr m)) ((cond (!a.2.2.2.1) ((q2l c a.2.2.2.2.2 a.1 a.2.1).bind fun n=>(lenEq n.length a.2.2.2.2.2.length).bind fun _=>some (w64 (a.2.2.1 - 1),n)) (some (a.2.2.1,a.2.2.2.2.2))).bind fun d=>(q3n d.2 a.1 a.2.1 c).bind fun h=>(cond (h.2 == 2) ((q2x c d.2 a.1 a.2.1).bind fun o=>(lenEq o.length d.2.length).bind fun _=>some (w64 ((w64 (a.2.1 - 1)) - (w64 (h.1 - a.1))),1,o)) (some (h.1,h.2,d.2))).bind fun f=>(cond a.2.2.2.1 (some a.2.2.2.2.1) (some false)).bind fun r=>(cond r (some (f.2.1 == 1)) (some false)).bind fun s=>(cond s ((q19 c f.2.2 a.1 a.2.1).bind fun j=>(lenEq j.2.length f.2.2.length).bind fun _=>cond j.1 (some (.inr j.2)) (some (.inl j.2))) (some (.inl f.2.2)) : Option ((List span_end) ⊕ (List span_end))).bind fun t=>(match t with | .inl g=>(cond (decide (a.1 > 0)) ((idx g (w64 (a.1 - 1))).bind fun u=>(idx g f.1).bind fun v=>(c u v).bind fun w=>some (!(decide (w < 0)))) (some false)).bind fun x=>cond x ((q2f c g a.1 a.2.1 f.1).bind fun k=>(lenEq k.2.length g.length).bind fun _=>some (.inl (k.1,a.2.1,d.1,a.2.2.2.1,a.2.2.2.2.1,k.2))) ((q3k c g a.1 a.2.1 f.1).bind fun b=>(lenEq b.2.2.length g.length).bind fun _=>cond (decide ((w64 (b.1 - a.1)) < (w64 (a.2.1 - b.1)))) ((rec b.2.2 a.1 b.1 d.1).bind fun p=>(lenEq p.length b.2.2.length).bind fun _=>some (.inl (w64 (b.1 + 1),a.2.1,d.1,decide ((w64 (b.1 - a.1)) ≥ (w64 (Int.tdiv (w64 (a.2.1 - a.1)) 8))),b.2.1,p))) ((rec b.2.2 (w64 (b.1 + 1)) a.2.1 d.1).bind fun q=>(lenEq q.length b.2.2.length).bind fun _=>some (.inl (a.1,b.1,d.1,decide ((w64 (a.2.1 - b.1)) ≥ (w64 (Int.tdiv (w64 (a.2.1 - a.1)) 8))),b.2.1,q)))) | .inr y=>some (.inr y))))
noncomputable def q2a (rec : List span_end→Int→Int→Int→Option (List span_end)) (a : span_end→span_end→Option Int) (b : List span_end) (c : Int) (d : Int) (f : Int) : Option (List span_end):=
  (loop (q25 a rec) (c,d,f,true,true,b)).bind fun g=>some g
noncomputable def q2u : Nat→(span_end→span_end→Option Int)→List span_end→Int→Int→Int→Option (List span_end)
  | 0,_,_,_,_,_=>none
  | n + 1,a,b,c,d,f=>q2a (q2u n a) a b c d f
noncomputable def q26 (c : span_end→span_end→Option Int) (a : List span_end) : Option (List span_end):=
  (q4q (IntKind.wrap .u64 (a.length : Int))).bind fun d=>(lim (fun n=>q2u n c a 0 (a.length : Int) d)).bind fun b=>(lenEq b.length a.length).bind fun _=>some b
noncomputable def q47 (a : List span_end) : Option (List span_end):=
  some a
noncomputable def q59 (b : List api_Span) (c : Int × List span_end) (a : Int × List span_end) : Option ((Int × List span_end) ⊕ (List span_end)):=
  cond (decide (a.1 < (b.length : Int))) ((idx b a.1).bind fun d=>(app 24 a.2 [({at_:=d.Lo,list_:=c.1,by_:=1} : span_end),({at_:=d.Hi,list_:=c.1,by_:=(-1)} : span_end)]).bind fun f=>some (.inl (w64 (a.1 + 1),f))) (some (.inr a.2))
noncomputable def q4d (b : List (List api_Span)) (a : Int × List span_end) : Option ((Int × List span_end) ⊕ (List span_end)):=
  cond (decide (a.1 < (b.length : Int))) (((idx b a.1).bind fun c=>(loop (q59 c a) (0,a.2)).bind fun d=>some d).bind fun f=>some (.inl (w64 (a.1 + 1),f))) (some (.inr a.2))
noncomputable def q8f (b : List (List api_Span)) : Option (List (List api_Span) × List span_end):=
  (loop (q4d b) (0,[])).bind fun c=>(q26 (fun f g=>q98 f g) c).bind fun a=>(lenEq a.length c.length).bind fun _=>(q47 a).bind fun d=>(lenEq d.length a.length).bind fun _=>some (b,d)
noncomputable def q75 (d : Int) (c : Bool) (b : Int) (a : List api_Span) : Option (Bool × Int × List api_Span):=
  (cond (!c) (some true) (some (b == d))).bind fun f=>cond f (some (c,b,a)) ((cond (decide ((a.length : Int) > 0)) ((idx a (w64 ((a.length : Int) - 1))).bind fun g=>some (g.Hi == b)) (some false)).bind fun h=>cond h ((idx a (w64 ((a.length : Int) - 1))).bind fun j=>some (c,b,a.set (w64 ((a.length : Int) - 1)).toNat ({Lo:=j.Lo,Hi:=d} : api_Span))) ((app 16 a [({Lo:=b,Hi:=d} : api_Span)]).bind fun k=>some (c,b,k)))
noncomputable def q6f (f : List (List api_Span) × List span_end) (g : Bool→Bool→Option Bool) (a : Int × List Int × Int × Bool × List api_Span) : Option ((Int × List Int × Int × Bool × List api_Span) ⊕ (List api_Span)):=
  cond (decide (a.1 < (f.2.length : Int))) ((idx f.2 a.1).bind fun b=>((q75 b.at_ a.2.2.2.1 a.2.2.1 a.2.2.2.2).bind fun h=>(idxA 2 a.2.1 b.list_).bind fun c=>(idxA 2 a.2.1 b.list_).bind fun _=>(idxA 2 (a.2.1.set b.list_.toNat (w64 (c + b.by_))) 0).bind fun j=>(idxA 2 (a.2.1.set b.list_.toNat (w64 (c + b.by_))) 1).bind fun k=>(g (decide (j > 0)) (decide (k > 0))).bind fun l=>some (a.2.1.set b.list_.toNat (w64 (c + b.by_)),l,h.2.2)).bind fun d=>some (.inl (w64 (a.1 + 1),d.1,b.at_,d.2.1,d.2.2))) (some (.inr a.2.2.2.2))
noncomputable def q9p (a : List api_Span) (b : List api_Span) (d : Bool→Bool→Option Bool) : Option (List api_Span):=
  (q8f [a,b]).bind fun c=>(lenEq c.1.length [a,b].length).bind fun _=>((loop (q6f c d) (0,[0,0],0,false,[])).bind fun f=>some f).bind fun g=>some g
noncomputable def q99 (a : Bool) (b : Bool) : Option Bool:=
  some a
noncomputable def q9q (a : List api_Span) : Option (List api_Span × Int):=
  cond (decide ((a.length : Int) > 400)) (some ([],4)) ((q3a a (fun b=>qay b)).bind fun c=>cond c (some ([],8)) ((q9p a [] (fun b d=>q99 b d)).bind fun f=>some (f,0)))
noncomputable def q4e (b : List api_Span) (f : List api_Span) (a : Int) : Option ((Int) ⊕ ((Unit) ⊕ (Bool))):=
  cond (decide (a < (b.length : Int))) ((idx b a).bind fun c=>(idx f a).bind fun d=>cond (!((c.Lo == d.Lo) && ((c.Hi == d.Hi) && true))) (some (.inr (.inr false))) (some (.inl (w64 (a + 1))))) (some (.inr (.inl ())))
noncomputable def q3z (a : List api_Span) (b : List api_Span) : Option Bool:=
  cond ((a.length : Int) != (b.length : Int)) (some false) ((loop (q4e a b) 0 : Option ((Unit) ⊕ (Bool))).bind fun c=>(match c with | .inl _=>some true | .inr d=>some d))
noncomputable def q4b (c : Int) (a : Int × List api_Rect) : Option ((Int × List api_Rect) ⊕ (List api_Rect)):=
  cond (decide (a.1 < (a.2.length : Int))) ((idx a.2 a.1).bind fun b=>some (.inl (w64 (a.1 + 1),a.2.set a.1.toNat ({X0:=b.X0,Y0:=b.Y0,X1:=c,Y1:=b.Y1} : api_Rect)))) (some (.inr a.2))
noncomputable def q4c (b : List api_Span) (f : Int) (c : Int) (g : List api_Rect) (a : Int × List api_Rect) : Option ((Int × List api_Rect) ⊕ (List api_Span × Int × Int × List api_Rect)):=
  cond (decide (a.1 < (b.length : Int))) ((idx b a.1).bind fun d=>(app 32 a.2 [({X0:=f,Y0:=d.Lo,X1:=c,Y1:=d.Hi} : api_Rect)]).bind fun h=>some (.inl (w64 (a.1 + 1),h))) (some (.inr (b,(g.length : Int),c,a.2)))
noncomputable def q52 (a : List api_Rect) (d : List api_Span) (f : Int) (h : Int) (g : Int) (b : Int) (c : List api_Span) : Option (List api_Span × Int × Int × List api_Rect):=
  (cond (decide ((c.length : Int) > 0)) (some (h == g)) (some false)).bind fun j=>(cond j ((q3z d c).bind fun k=>some k) (some false)).bind fun l=>cond l ((loop (q4b b) (f,a)).bind fun m=>some (d,f,b,m)) ((loop (q4c c g b a) (0,a)).bind fun n=>some n)
noncomputable def q53 (b : List api_Rect) (a : Int × List Int) : Option ((Int × List Int) ⊕ (List Int)):=
  cond (decide (a.1 < (b.length : Int))) ((idx b a.1).bind fun c=>(app 8 a.2 [c.X0,c.X1]).bind fun d=>some (.inl (w64 (a.1 + 1),d))) (some (.inr a.2))
noncomputable def q5j (c : List api_Rect) (d : Int) (a : Int × List api_Span) : Option ((Int × List api_Span) ⊕ (List api_Span)):=
  cond (decide (a.1 < (c.length : Int))) (((idx c a.1).bind fun b=>(cond (decide (b.X0≤d)) (some (decide (d < b.X1))) (some false)).bind fun f=>cond f ((app 16 a.2 [({Lo:=b.Y0,Hi:=b.Y1} : api_Span)]).bind fun g=>some g) (some a.2)).bind fun h=>some (.inl (w64 (a.1 + 1),h))) (some (.inr a.2))
noncomputable def q54 (d : List Int) (g : List api_Rect) (a : Int × List api_Span × Int × Int × List api_Rect) : Option ((Int × List api_Span × Int × Int × List api_Rect) ⊕ (List api_Span × Int × Int × List api_Rect)):=
  cond (decide (a.1 < (d.length : Int))) ((idx d (w64 (a.1 - 1))).bind fun f=>(idx d a.1).bind fun h=>((idx [g] 0).bind fun j=>(loop (q5j j f) (0,[])).bind fun k=>some k).bind fun l=>((q9q l).bind fun m=>(q52 a.2.2.2.2 a.2.1 a.2.2.1 a.2.2.2.1 f h m.1).bind fun b=>some (b.1,b.2.1,b.2.2.1,b.2.2.2)).bind fun c=>some (.inl (w64 (a.1 + 1),c.1,c.2.1,c.2.2.1,c.2.2.2))) (some (.inr (a.2.1,a.2.2.1,a.2.2.2.1,a.2.2.2.2)))
noncomputable def q9a (d : List api_Rect) : Option (List api_Rect × Int):=
  (((idx [d] 0).bind fun j=>(loop (q53 j) (0,[])).bind fun b=>some b).bind fun f=>(q2c f).bind fun c=>(lenEq c.length f.length).bind fun _=>(q33 c).bind fun a=>(lenEq a.2.length c.length).bind fun _=>(winOk a.2.length a.1).bind fun _=>some ((a.2.drop a.1.1).take a.1.2)).bind fun k=>((loop (q54 k d) (1,[],0,0,[])).bind fun b=>some b).bind fun g=>(cond (decide ((g.2.2.2.length : Int) > 400)) (some (4,[])) (some (0,g.2.2.2))).bind fun h=>some (h.2,h.1)
noncomputable def q7u (a : List api_Rect) : Option (List api_Rect × Int):=
  cond (decide ((a.length : Int) > 400)) (some ([],4)) ((q39 a (fun c=>q5d c)).bind fun d=>cond d (some ([],8)) ((q9a a).bind fun b=>some (b.1,b.2)))
noncomputable def q43 (d : List api_Rect) (f : List api_Rect) (a : Int) : Option ((Int) ⊕ ((Unit) ⊕ (Bool))):=
  cond (decide (a < (d.length : Int))) ((idx d a).bind fun b=>(idx f a).bind fun c=>cond (!((b.X0 == c.X0) && ((b.Y0 == c.Y0) && ((b.X1 == c.X1) && ((b.Y1 == c.Y1) && true))))) (some (.inr (.inr false))) (some (.inl (w64 (a + 1))))) (some (.inr (.inl ())))
noncomputable def q3v (a : List api_Rect) (b : List api_Rect) : Option Bool:=
  cond ((a.length : Int) != (b.length : Int)) (some false) ((loop (q43 a b) 0 : Option ((Unit) ⊕ (Bool))).bind fun c=>(match c with | .inl _=>some true | .inr d=>some d))
noncomputable def q4h (c : Int) (a : Int × List api_Box) : Option ((Int × List api_Box) ⊕ (List api_Box)):=
  cond (decide (a.1 < (a.2.length : Int))) ((idx a.2 a.1).bind fun b=>some (.inl (w64 (a.1 + 1),a.2.set a.1.toNat ({Lo:=b.Lo,Hi:=({X:=b.Hi.X,Y:=b.Hi.Y,Z:=c} : qz)} : api_Box)))) (some (.inr a.2))
noncomputable def q4i (c : List api_Rect) (f : Int) (d : Int) (g : List api_Box) (a : Int × List api_Box) : Option ((Int × List api_Box) ⊕ (List api_Rect × Int × Int × List api_Box)):=
  cond (decide (a.1 < (c.length : Int))) ((idx c a.1).bind fun b=>(app 48 a.2 [({Lo:=({X:=b.X0,Y:=b.Y0,Z:=f} : qz),Hi:=({X:=b.X1,Y:=b.Y1,Z:=d} : qz)} : api_Box)]).bind fun h=>some (.inl (w64 (a.1 + 1),h))) (some (.inr (c,(g.length : Int),d,a.2)))
noncomputable def q5a (a : List api_Box) (d : List api_Rect) (f : Int) (h : Int) (g : Int) (b : Int) (c : List api_Rect) : Option (List api_Rect × Int × Int × List api_Box):=
  (cond (decide ((c.length : Int) > 0)) (some (h == g)) (some false)).bind fun j=>(cond j ((q3v d c).bind fun k=>some k) (some false)).bind fun l=>cond l ((loop (q4h b) (f,a)).bind fun m=>some (d,f,b,m)) ((loop (q4i c g b a) (0,a)).bind fun n=>some n)
noncomputable def q3w (b : List api_Box) (a : Int × List Int) : Option ((Int × List Int) ⊕ (List Int)):=
  cond (decide (a.1 < (b.length : Int))) ((idx b a.1).bind fun c=>(app 8 a.2 [c.Lo.Z,c.Hi.Z]).bind fun d=>some (.inl (w64 (a.1 + 1),d))) (some (.inr a.2))
noncomputable def q3x (c : List api_Box) (d : Int) (a : Int × List api_Rect) : Option ((Int × List api_Rect) ⊕ (List api_Rect)):=
  cond (decide (a.1 < (c.length : Int))) (((idx c a.1).bind fun b=>(cond (decide (b.Lo.Z≤d)) (some (decide (d < b.Hi.Z))) (some false)).bind fun f=>cond f ((app 32 a.2 [({X0:=b.Lo.X,Y0:=b.Lo.Y,X1:=b.Hi.X,Y1:=b.Hi.Y} : api_Rect)]).bind fun g=>some g) (some a.2)).bind fun h=>some (.inl (w64 (a.1 + 1),h))) (some (.inr a.2))
noncomputable def q3y (d : List Int) (h : List api_Box) (a : Int × List api_Rect × Int × Int × List api_Box) : Option ((Int × List api_Rect × Int × Int × List api_Box) ⊕ ((List api_Rect × Int × Int × List api_Box) ⊕ (List api_Box × Int))):=
  cond (decide (a.1 < (d.length : Int))) ((idx d (w64 (a.1 - 1))).bind fun g=>(idx d a.1).bind fun j=>((idx [h] 0).bind fun k=>(loop (q3x k g) (0,[])).bind fun l=>some l).bind fun m=>((q7u m).bind fun f=>cond (f.2 != 0) (some (.inr ([],f.2))) ((q5a a.2.2.2.2 a.2.1 a.2.2.1 a.2.2.2.1 g j f.1).bind fun b=>some (.inl (b.1,b.2.1,b.2.2.1,b.2.2.2))) : Option ((List api_Rect × Int × Int × List api_Box) ⊕ (List api_Box × Int))).bind fun n=>(match n with | .inl c=>some (.inl (w64 (a.1 + 1),c.1,c.2.1,c.2.2.1,c.2.2.2)) | .inr o=>some (.inr (.inr o)))) (some (.inr (.inl (a.2.1,a.2.2.1,a.2.2.2.1,a.2.2.2.2))))
noncomputable def q4r (f : List api_Box) : Option (List api_Box × Int):=
  (((idx [f] 0).bind fun j=>(loop (q3w j) (0,[])).bind fun b=>some b).bind fun g=>(q2c g).bind fun c=>(lenEq c.length g.length).bind fun _=>(q33 c).bind fun a=>(lenEq a.2.length c.length).bind fun _=>(winOk a.2.length a.1).bind fun _=>some ((a.2.drop a.1.1).take a.1.2)).bind fun k=>((loop (q3y k f) (1,[],0,0,[]) : Option ((List api_Rect × Int × Int × List api_Box) ⊕ (List api_Box × Int))).bind fun l=>(match l with | .inl b=>some (.inl b) | .inr d=>some (.inr d)) : Option ((List api_Rect × Int × Int × List api_Box) ⊕ (List api_Box × Int))).bind fun m=>(match m with | .inl h=>cond (decide ((h.2.2.2.length : Int) > 400)) (some ([],4)) (some (h.2.2.2,0)) | .inr d=>some d)
noncomputable def qa5 (a : List api_Box) : Option (List api_Box × Int):=
  cond (decide ((a.length : Int) > 400)) (some ([],4)) ((q3h a (fun c=>q5o c)).bind fun d=>cond d (some ([],8)) ((q4r a).bind fun b=>some (b.1,b.2)))
noncomputable def qcz (a : qz) (b : Int) : Option Bool:=
  (cond (decide (a.X ≥ b)) (some (decide (a.Y ≥ b))) (some false)).bind fun c=>(cond c (some (decide (a.Z ≥ b))) (some false)).bind fun d=>(cond d (some (decide (a.X≤1000000))) (some false)).bind fun f=>(cond f (some (decide (a.Y≤1000000))) (some false)).bind fun g=>(cond g (some (decide (a.Z≤1000000))) (some false)).bind fun h=>some h
noncomputable def q9r (a : api_Box) : Option Bool:=
  (qcz a.Lo (-1000000)).bind fun b=>(cond b ((qcz a.Hi (-1000000)).bind fun c=>some c) (some false)).bind fun d=>(cond d (some (decide (a.Lo.X < a.Hi.X))) (some false)).bind fun f=>(cond f (some (decide (a.Lo.Y < a.Hi.Y))) (some false)).bind fun g=>(cond g (some (decide (a.Lo.Z < a.Hi.Z))) (some false)).bind fun h=>some h
noncomputable def q5v (b : Int × List Int) (c : List Int) (a : Int) : Option ((Int) ⊕ (Int)):=
  (cond (decide (a > 0)) ((idx b.2 (w64 (a - 1))).bind fun d=>(idx c b.1).bind fun f=>some (decide (d > f))) (some false)).bind fun g=>cond g (some (.inl (w64 (a - 1)))) (some (.inr a))
noncomputable def q5w (d : List Int) (a : Int × List Int) : Option ((Int × List Int) ⊕ (List Int)):=
  cond (decide (a.1 < (d.length : Int))) (((loop (q5v a d) (a.2.length : Int)).bind fun c=>(cond (decide (c > 0)) ((idx a.2 (w64 (c - 1))).bind fun h=>(idx d a.1).bind fun j=>some (h == j)) (some false)).bind fun k=>cond k (some a.2) ((app 8 a.2 [0]).bind fun b=>(sub2 b.length (w64 (c + 1)) b.length).bind fun g=>(sub2 b.length c b.length).bind fun f=>(idx d a.1).bind fun l=>(idx (cpyw b g ((b.drop f.1).take f.2)) c).bind fun _=>some ((cpyw b g ((b.drop f.1).take f.2)).set c.toNat l))).bind fun m=>some (.inl (w64 (a.1 + 1),m))) (some (.inr a.2))
noncomputable def q4y (a : List Int) : Option (List Int):=
  (loop (q5w a) (0,[])).bind fun b=>some b
noncomputable def q6x (b : List api_Box) (a : Int × List Int) : Option ((Int × List Int) ⊕ (List Int)):=
  cond (decide (a.1 < (b.length : Int))) ((idx b a.1).bind fun c=>(idx b a.1).bind fun d=>(app 8 a.2 [c.Lo.Z,d.Hi.Z]).bind fun f=>some (.inl (w64 (a.1 + 1),f))) (some (.inr a.2))
noncomputable def q6y (b : List api_Box) (a : Int × List Int) : Option ((Int × List Int) ⊕ (List Int)):=
  cond (decide (a.1 < (b.length : Int))) ((idx b a.1).bind fun c=>(idx b a.1).bind fun d=>(app 8 a.2 [c.Lo.Z,d.Hi.Z]).bind fun f=>some (.inl (w64 (a.1 + 1),f))) (some (.inr a.2))
noncomputable def qbu (a : List api_Box) (b : List api_Box) : Option (List Int):=
  (loop (q6x a) (0,[])).bind fun c=>(loop (q6y b) (0,c)).bind fun d=>(q4y d).bind fun f=>some f
noncomputable def q9s (b : List api_Box) (c : Int) (a : Int × List api_Rect) : Option ((Int × List api_Rect) ⊕ (List api_Rect)):=
  cond (decide (a.1 < (b.length : Int))) (((idx b a.1).bind fun d=>(cond (decide (d.Lo.Z≤c)) ((idx b a.1).bind fun f=>some (decide (c < f.Hi.Z))) (some false)).bind fun g=>cond g ((idx b a.1).bind fun h=>(idx b a.1).bind fun j=>(idx b a.1).bind fun k=>(idx b a.1).bind fun l=>(app 32 a.2 [({X0:=h.Lo.X,Y0:=j.Lo.Y,X1:=k.Hi.X,Y1:=l.Hi.Y} : api_Rect)]).bind fun m=>some m) (some a.2)).bind fun n=>some (.inl (w64 (a.1 + 1),n))) (some (.inr a.2))
noncomputable def q7l (a : List api_Box) (b : Int) : Option (List api_Rect):=
  (loop (q9s a b) (0,[])).bind fun c=>some c
noncomputable def q8g (b : List api_Rect) (a : Int × List Int) : Option ((Int × List Int) ⊕ (List Int)):=
  cond (decide (a.1 < (b.length : Int))) ((idx b a.1).bind fun c=>(idx b a.1).bind fun d=>(app 8 a.2 [c.X0,d.X1]).bind fun f=>some (.inl (w64 (a.1 + 1),f))) (some (.inr a.2))
noncomputable def q8h (b : List api_Rect) (a : Int × List Int) : Option ((Int × List Int) ⊕ (List Int)):=
  cond (decide (a.1 < (b.length : Int))) ((idx b a.1).bind fun c=>(idx b a.1).bind fun d=>(app 8 a.2 [c.X0,d.X1]).bind fun f=>some (.inl (w64 (a.1 + 1),f))) (some (.inr a.2))
noncomputable def qf1 (a : List api_Rect) (b : List api_Rect) : Option (List Int):=
  (loop (q8g a) (0,[])).bind fun c=>(loop (q8h b) (0,c)).bind fun d=>(q4y d).bind fun f=>some f
noncomputable def q8i (b : List api_Rect) (a : Int × List Int) : Option ((Int × List Int) ⊕ (List Int)):=
  cond (decide (a.1 < (b.length : Int))) ((idx b a.1).bind fun c=>(idx b a.1).bind fun d=>(app 8 a.2 [c.Y0,d.Y1]).bind fun f=>some (.inl (w64 (a.1 + 1),f))) (some (.inr a.2))
noncomputable def q8j (b : List api_Rect) (a : Int × List Int) : Option ((Int × List Int) ⊕ (List Int)):=
  cond (decide (a.1 < (b.length : Int))) ((idx b a.1).bind fun c=>(idx b a.1).bind fun d=>(app 8 a.2 [c.Y0,d.Y1]).bind fun f=>some (.inl (w64 (a.1 + 1),f))) (some (.inr a.2))
noncomputable def qf2 (a : List api_Rect) (b : List api_Rect) : Option (List Int):=
  (loop (q8i a) (0,[])).bind fun c=>(loop (q8j b) (0,c)).bind fun d=>(q4y d).bind fun f=>some f
noncomputable def q6q (b : List api_Rect) (c : Int) (d : Int) (a : Int) : Option ((Int) ⊕ ((Unit) ⊕ (Bool))):=
  cond (decide (a < (b.length : Int))) ((idx b a).bind fun f=>(cond (decide (f.X0≤c)) ((idx b a).bind fun g=>some (decide (c < g.X1))) (some false)).bind fun h=>(cond h ((idx b a).bind fun j=>some (decide (j.Y0≤d))) (some false)).bind fun k=>(cond k ((idx b a).bind fun l=>some (decide (d < l.Y1))) (some false)).bind fun m=>cond m (some (.inr (.inr true))) (some (.inl (w64 (a + 1))))) (some (.inr (.inl ())))
noncomputable def qbn (a : List api_Rect) (b : Int) (c : Int) : Option Bool:=
  (loop (q6q a b c) 0 : Option ((Unit) ⊕ (Bool))).bind fun d=>(match d with | .inl _=>some false | .inr f=>some f)
noncomputable def q9t (c : Int) (a : Bool) (b : Bool) : Option Bool:=
  cond (c == 1) ((cond a (some b) (some false)).bind fun d=>some d) (cond (c == 2) ((cond a (some true) (some b)).bind fun f=>some f) ((cond a (some (!b)) (some false)).bind fun g=>some g))
noncomputable def q6g (b : List Int) (c : List Bool) (a : Int × List api_Span) : Option ((Int × List api_Span) ⊕ (List api_Span)):=
  cond (decide ((w64 (a.1 + 1)) < (b.length : Int))) (((idx c a.1).bind fun d=>cond (!d) (some a.2) ((cond (decide ((a.2.length : Int) > 0)) ((idx a.2 (w64 ((a.2.length : Int) - 1))).bind fun f=>(idx b a.1).bind fun g=>some (f.Hi == g)) (some false)).bind fun h=>cond h ((idx b (w64 (a.1 + 1))).bind fun j=>(idx a.2 (w64 ((a.2.length : Int) - 1))).bind fun k=>some (a.2.set (w64 ((a.2.length : Int) - 1)).toNat ({Lo:=k.Lo,Hi:=j} : api_Span))) ((idx b a.1).bind fun l=>(idx b (w64 (a.1 + 1))).bind fun m=>(app 16 a.2 [({Lo:=l,Hi:=m} : api_Span)]).bind fun n=>some n))).bind fun o=>some (.inl (w64 (a.1 + 1),o))) (some (.inr a.2))
noncomputable def q8k (a : List Int) (b : List Bool) : Option (List api_Span):=
  (loop (q6g a b) (0,[])).bind fun c=>some c
noncomputable def qaz (b : List api_Span) (f : List api_Span) (a : Int) : Option ((Int) ⊕ ((Unit) ⊕ (Bool))):=
  cond (decide (a < (b.length : Int))) ((idx b a).bind fun c=>(idx f a).bind fun d=>cond (!((c.Lo == d.Lo) && ((c.Hi == d.Hi) && true))) (some (.inr (.inr false))) (some (.inl (w64 (a + 1))))) (some (.inr (.inl ())))
noncomputable def qam (a : List api_Span) (b : List api_Span) : Option Bool:=
  cond ((a.length : Int) != (b.length : Int)) (some false) ((loop (qaz a b) 0 : Option ((Unit) ⊕ (Bool))).bind fun c=>(match c with | .inl _=>some true | .inr d=>some d))
noncomputable def q5x (b : List Int) (c : List Int) (d : List api_Span × Int × Int × List api_Rect) (f : List api_Rect) (g : List api_Rect) (h : Int) (a : Int × List Bool) : Option ((Int × List Bool) ⊕ (List Bool)):=
  cond (decide (a.1 < (b.length : Int))) ((idx c d.2.2.1).bind fun j=>(idx b a.1).bind fun k=>(qbn f j k).bind fun l=>(idx c d.2.2.1).bind fun m=>(idx b a.1).bind fun n=>(qbn g m n).bind fun o=>(q9t h l o).bind fun p=>(app 1 a.2 [p]).bind fun q=>some (.inl (w64 (a.1 + 1),q))) (some (.inr a.2))
noncomputable def q5y (c : List Int) (d : List api_Span × Int × Int × List api_Rect) (a : Int × List api_Rect) : Option ((Int × List api_Rect) ⊕ (List api_Rect)):=
  cond (decide (a.1 < (a.2.length : Int))) ((idx c (w64 (d.2.2.1 + 1))).bind fun f=>(idx a.2 a.1).bind fun b=>some (.inl (w64 (a.1 + 1),a.2.set a.1.toNat ({X0:=b.X0,Y0:=b.Y0,X1:=f,Y1:=b.Y1} : api_Rect)))) (some (.inr a.2))
noncomputable def q6k (b : List api_Span) (d : List Int) (c : List api_Span × Int × Int × List api_Rect) (a : Int × List api_Rect) : Option ((Int × List api_Rect) ⊕ (List api_Span × Int × List api_Rect)):=
  cond (decide (a.1 < (b.length : Int))) ((idx d c.2.2.1).bind fun f=>(idx b a.1).bind fun g=>(idx d (w64 (c.2.2.1 + 1))).bind fun h=>(idx b a.1).bind fun j=>(app 32 a.2 [({X0:=f,Y0:=g.Lo,X1:=h,Y1:=j.Hi} : api_Rect)]).bind fun k=>some (.inl (w64 (a.1 + 1),k))) (some (.inr (b,(c.2.2.2.length : Int),a.2)))
noncomputable def q5e (b : List Int) (d : List Int) (g : List api_Rect) (h : List api_Rect) (j : Int) (a : List api_Span × Int × Int × List api_Rect) : Option ((List api_Span × Int × Int × List api_Rect) ⊕ (List api_Rect)):=
  cond (decide ((w64 (a.2.2.1 + 1)) < (b.length : Int))) (((loop (q5x d b a g h j) (0,[])).bind fun k=>(q8k d k).bind fun f=>(cond (decide (a.2.2.1 > 0)) ((qam f a.1).bind fun l=>some l) (some false)).bind fun m=>cond m ((loop (q5y b a) (a.2.1,a.2.2.2)).bind fun n=>some (a.1,a.2.1,n)) ((loop (q6k f b a) (0,a.2.2.2)).bind fun o=>some o)).bind fun c=>some (.inl (c.1,c.2.1,w64 (a.2.2.1 + 1),c.2.2))) (some (.inr a.2.2.2))
noncomputable def q4s (c : Int) (a : List api_Rect) (b : List api_Rect) : Option (List api_Rect):=
  (qf1 a b).bind fun d=>(qf2 a b).bind fun f=>(loop (q5e d f a b c) ([],0,0,[])).bind fun g=>some g
noncomputable def q7d (d : List api_Rect) (f : List api_Rect) (a : Int) : Option ((Int) ⊕ ((Unit) ⊕ (Bool))):=
  cond (decide (a < (d.length : Int))) ((idx d a).bind fun b=>(idx f a).bind fun c=>cond (!((b.X0 == c.X0) && ((b.Y0 == c.Y0) && ((b.X1 == c.X1) && ((b.Y1 == c.Y1) && true))))) (some (.inr (.inr false))) (some (.inl (w64 (a + 1))))) (some (.inr (.inl ())))
noncomputable def q6l (a : List api_Rect) (b : List api_Rect) : Option Bool:=
  cond ((a.length : Int) != (b.length : Int)) (some false) ((loop (q7d a b) 0 : Option ((Unit) ⊕ (Bool))).bind fun c=>(match c with | .inl _=>some true | .inr d=>some d))
noncomputable def q5z (c : List Int) (d : List api_Rect × Int × Int × List api_Box) (a : Int × List api_Box) : Option ((Int × List api_Box) ⊕ (List api_Box)):=
  cond (decide (a.1 < (a.2.length : Int))) ((idx c (w64 (d.2.2.1 + 1))).bind fun f=>(idx a.2 a.1).bind fun b=>some (.inl (w64 (a.1 + 1),a.2.set a.1.toNat ({Lo:=b.Lo,Hi:=({X:=b.Hi.X,Y:=b.Hi.Y,Z:=f} : qz)} : api_Box)))) (some (.inr a.2))
noncomputable def q6m (b : List api_Rect) (d : List Int) (c : List api_Rect × Int × Int × List api_Box) (a : Int × List api_Box) : Option ((Int × List api_Box) ⊕ (List api_Rect × Int × List api_Box)):=
  cond (decide (a.1 < (b.length : Int))) ((idx b a.1).bind fun f=>(idx b a.1).bind fun g=>(idx d c.2.2.1).bind fun h=>(idx b a.1).bind fun j=>(idx b a.1).bind fun k=>(idx d (w64 (c.2.2.1 + 1))).bind fun l=>(app 48 a.2 [({Lo:=({X:=f.X0,Y:=g.Y0,Z:=h} : qz),Hi:=({X:=j.X1,Y:=k.Y1,Z:=l} : qz)} : api_Box)]).bind fun m=>some (.inl (w64 (a.1 + 1),m))) (some (.inr (b,(c.2.2.2.length : Int),a.2)))
noncomputable def q4z (b : List Int) (f : List api_Box) (g : List api_Box) (h : Int) (a : List api_Rect × Int × Int × List api_Box) : Option ((List api_Rect × Int × Int × List api_Box) ⊕ ((List api_Box) ⊕ (List api_Box × Bool))):=
  cond (decide ((w64 (a.2.2.1 + 1)) < (b.length : Int))) (((idx b a.2.2.1).bind fun j=>(q7l f j).bind fun k=>(idx b a.2.2.1).bind fun l=>(q7l g l).bind fun m=>(q4s h k m).bind fun c=>(cond (decide ((c.length : Int) > 400)) (some true) ((idx b a.2.2.1).bind fun n=>(q7l f n).bind fun o=>(q4s 2 o []).bind fun p=>some (decide ((p.length : Int) > 400)))).bind fun q=>(cond q (some true) ((idx b a.2.2.1).bind fun r=>(q7l g r).bind fun s=>(q4s 2 s []).bind fun t=>some (decide ((t.length : Int) > 400)))).bind fun u=>cond u (some (.inr ([],false))) ((cond (decide (a.2.2.1 > 0)) ((q6l c a.1).bind fun v=>some v) (some false)).bind fun w=>cond w ((loop (q5z b a) (a.2.1,a.2.2.2)).bind fun x=>some (.inl (a.1,a.2.1,x))) ((loop (q6m c b a) (0,a.2.2.2)).bind fun y=>some (.inl y))) : Option ((List api_Rect × Int × List api_Box) ⊕ (List api_Box × Bool))).bind fun z=>(match z with | .inl d=>some (.inl (d.1,d.2.1,w64 (a.2.2.1 + 1),d.2.2)) | .inr x1=>some (.inr (.inr x1)))) (some (.inr (.inl a.2.2.2)))
noncomputable def q6r (d : Int) (a : List api_Box) (b : List api_Box) : Option (List api_Box × Bool):=
  (qbu a b).bind fun f=>(loop (q4z f a b d) ([],0,0,[]) : Option ((List api_Box) ⊕ (List api_Box × Bool))).bind fun g=>(match g with | .inl c=>some (c,decide ((c.length : Int)≤400)) | .inr h=>some h)
noncomputable def q7v (b : List api_Box) (a : Int) : Option ((Int) ⊕ ((Unit) ⊕ (List api_Box × Int))):=
  cond (decide (a < (b.length : Int))) ((idx b a).bind fun c=>(q9r c).bind fun d=>cond (!d) (some (.inr (.inr ([],8)))) (some (.inl (w64 (a + 1))))) (some (.inr (.inl ())))
noncomputable def qbv (a : List api_Box) : Option (List api_Box × Int):=
  cond (decide ((a.length : Int) > 400)) (some ([],4)) ((loop (q7v a) 0 : Option ((Unit) ⊕ (List api_Box × Int))).bind fun c=>(match c with | .inl _=>(q6r 2 a []).bind fun b=>cond (!b.2) (some ([],4)) (some (b.1,0)) | .inr d=>some d))
noncomputable def qw (b : List api_Box) (c : api_Box→Option Bool) (a : Int) : Option ((Int) ⊕ ((Unit) ⊕ (Int))):=
  cond (decide (a < (b.length : Int))) ((idx b a).bind fun d=>(c d).bind fun f=>cond f (some (.inr (.inr a))) (some (.inl (w64 (a + 1))))) (some (.inr (.inl ())))
noncomputable def q3o (a : List api_Box) (b : api_Box→Option Bool) : Option Int:=
  (loop (qw a b) 0 : Option ((Unit) ⊕ (Int))).bind fun c=>(match c with | .inl _=>some (-1) | .inr d=>some d)
noncomputable def q1k (a : List api_Box) (b : api_Box→Option Bool) : Option Bool:=
  (q3o a b).bind fun c=>some (decide (c ≥ 0))
noncomputable def q5f (a : api_Box) : Option Bool:=
  (q7t a).bind fun b=>some (!b)
noncomputable def q4v (d : List api_Box) (f : List api_Box) (c : Int) : Option ((Int) ⊕ ((Unit) ⊕ (Bool))):=
  cond (decide (c < (d.length : Int))) ((idx d c).bind fun a=>(idx f c).bind fun b=>cond (!((a.Lo.X == b.Lo.X) && ((a.Lo.Y == b.Lo.Y) && ((a.Lo.Z == b.Lo.Z) && ((a.Hi.X == b.Hi.X) && ((a.Hi.Y == b.Hi.Y) && ((a.Hi.Z == b.Hi.Z) && true))))))) (some (.inr (.inr false))) (some (.inl (w64 (c + 1))))) (some (.inr (.inl ())))
noncomputable def q40 (a : List api_Box) (b : List api_Box) : Option Bool:=
  cond ((a.length : Int) != (b.length : Int)) (some false) ((loop (q4v a b) 0 : Option ((Unit) ⊕ (Bool))).bind fun c=>(match c with | .inl _=>some true | .inr d=>some d))
noncomputable def q7w (a : List api_Box) : Option Int:=
  cond (decide ((a.length : Int) > 400)) (some 4) ((q1k a (fun c=>q5f c)).bind fun d=>cond d (some 8) ((q4r a).bind fun b=>(cond (b.2 != 0) (some true) ((q40 b.1 a).bind fun f=>some (!f))).bind fun g=>cond g (some 8) (some 0)))
noncomputable def qbe (a : api_Box) : Option (Int × Int × Int):=
  some (w64 (a.Hi.X - a.Lo.X),w64 (a.Hi.Y - a.Lo.Y),w64 (a.Hi.Z - a.Lo.Z))
noncomputable def q5r (c : List api_Box) (a : Int × Int) : Option ((Int × Int) ⊕ (Int)):=
  cond (decide (a.2 < (c.length : Int))) ((idx c a.2).bind fun d=>(qbe d).bind fun b=>some (.inl (w64 (a.1 + (w64 ((w64 (b.1 * b.2.1)) * b.2.2))),w64 (a.2 + 1)))) (some (.inr a.1))
noncomputable def q8l (a : List api_Box) : Option (Int × Int):=
  (q7w a).bind fun b=>cond (b != 0) (some (0,b)) ((loop (q5r a) (0,0)).bind fun c=>some (c,0))
noncomputable def q7e (d : List api_Box) (f : List api_Box) (c : Int) : Option ((Int) ⊕ ((Unit) ⊕ (Bool))):=
  cond (decide (c < (d.length : Int))) ((idx d c).bind fun a=>(idx f c).bind fun b=>cond (!((a.Lo.X == b.Lo.X) && ((a.Lo.Y == b.Lo.Y) && ((a.Lo.Z == b.Lo.Z) && ((a.Hi.X == b.Hi.X) && ((a.Hi.Y == b.Hi.Y) && ((a.Hi.Z == b.Hi.Z) && true))))))) (some (.inr (.inr false))) (some (.inl (w64 (c + 1))))) (some (.inr (.inl ())))
noncomputable def q60 (a : List api_Box) (b : List api_Box) : Option Bool:=
  cond ((a.length : Int) != (b.length : Int)) (some false) ((loop (q7e a b) 0 : Option ((Unit) ⊕ (Bool))).bind fun c=>(match c with | .inl _=>some true | .inr d=>some d))
noncomputable def q76 (b : List api_Box) (a : Int) : Option ((Int) ⊕ ((Unit) ⊕ (Int))):=
  cond (decide (a < (b.length : Int))) ((idx b a).bind fun c=>(q9r c).bind fun d=>cond (!d) (some (.inr (.inr 8))) (some (.inl (w64 (a + 1))))) (some (.inr (.inl ())))
noncomputable def q8m (a : List api_Box) : Option Int:=
  cond (decide ((a.length : Int) > 400)) (some 4) ((loop (q76 a) 0 : Option ((Unit) ⊕ (Int))).bind fun c=>(match c with | .inl _=>(q6r 2 a []).bind fun b=>(cond (!b.2) (some true) ((q60 b.1 a).bind fun d=>some (!d))).bind fun f=>cond f (some 8) (some 0) | .inr g=>some g))
noncomputable def q6n (b : List api_Box) (a : Int × Int) : Option ((Int × Int) ⊕ (Int)):=
  cond (decide (a.2 < (b.length : Int))) ((idx b a.2).bind fun c=>(idx b a.2).bind fun d=>(idx b a.2).bind fun f=>(idx b a.2).bind fun g=>(idx b a.2).bind fun h=>(idx b a.2).bind fun j=>some (.inl (w64 (a.1 + (w64 ((w64 ((w64 (c.Hi.X - d.Lo.X)) * (w64 (f.Hi.Y - g.Lo.Y)))) * (w64 (h.Hi.Z - j.Lo.Z))))),w64 (a.2 + 1)))) (some (.inr a.1))
noncomputable def qa6 (a : List api_Box) : Option (Int × Int):=
  (q8m a).bind fun b=>cond (b != 0) ((q8m a).bind fun c=>some (0,c)) ((loop (q6n a) (0,0)).bind fun d=>some (d,0))
noncomputable def q7x (a : api_Box) (b : qz) : Option Bool:=
  (cond (decide (a.Lo.X≤b.X)) (some (decide (b.X < a.Hi.X))) (some false)).bind fun c=>(cond c (some (decide (a.Lo.Y≤b.Y))) (some false)).bind fun d=>(cond d (some (decide (b.Y < a.Hi.Y))) (some false)).bind fun f=>(cond f (some (decide (a.Lo.Z≤b.Z))) (some false)).bind fun g=>(cond g (some (decide (b.Z < a.Hi.Z))) (some false)).bind fun h=>some h
noncomputable def qb3 (a : List api_Box) (b : qz) : Option Bool:=
  (q1k a (fun c=>q7x c b)).bind fun d=>some d
noncomputable def qf3 (a : api_Box) (b : qz) : Option Bool:=
  (cond (decide (a.Lo.X≤b.X)) (some (decide (b.X < a.Hi.X))) (some false)).bind fun c=>(cond c (some (decide (a.Lo.Y≤b.Y))) (some false)).bind fun d=>(cond d (some (decide (b.Y < a.Hi.Y))) (some false)).bind fun f=>(cond f (some (decide (a.Lo.Z≤b.Z))) (some false)).bind fun g=>(cond g (some (decide (b.Z < a.Hi.Z))) (some false)).bind fun h=>some h
noncomputable def q8x (b : List api_Box) (c : qz) (a : Int) : Option ((Int) ⊕ ((Unit) ⊕ (Bool))):=
  cond (decide (a < (b.length : Int))) ((idx b a).bind fun d=>(qf3 d c).bind fun f=>cond f (some (.inr (.inr true))) (some (.inl (w64 (a + 1))))) (some (.inr (.inl ())))
noncomputable def qd0 (a : List api_Box) (b : qz) : Option Bool:=
  (loop (q8x a b) 0 : Option ((Unit) ⊕ (Bool))).bind fun c=>(match c with | .inl _=>some false | .inr d=>some d)
noncomputable def qa7 (a : List api_Box) (b : List api_Box) : Option Bool:=
  (q40 a b).bind fun c=>some c
noncomputable def q8y (a : List api_Box) (c : List api_Box) (d : qz) : Option Bool:=
  (q9o a).bind fun k=>(cond k (some true) ((q9o c).bind fun l=>some l)).bind fun m=>cond m (some true) ((qbt a).bind fun b=>(qa5 b).bind fun f=>(qbv a).bind fun g=>(q8l b).bind fun h=>(qa6 a).bind fun j=>(q7w b).bind fun n=>(q8m a).bind fun o=>(cond (n == o) ((q60 f.1 g.1).bind fun p=>some p) (some false)).bind fun q=>(cond q (some (f.2 == g.2)) (some false)).bind fun r=>(cond r (some (h.1 == j.1)) (some false)).bind fun s=>(cond s (some (h.2 == j.2)) (some false)).bind fun t=>(cond t ((qb3 b d).bind fun u=>(qd0 a d).bind fun v=>some (u == v)) (some false)).bind fun w=>(cond w ((qa7 b c).bind fun x=>(q60 a c).bind fun y=>some (x == y)) (some false)).bind fun z=>(cond z ((q60 b a).bind fun aa=>some aa) (some false)).bind fun ab=>some ab)
noncomputable def q61 (b : List api_Span) (a : Int) : Option ((Int) ⊕ ((Unit) ⊕ (Int))):=
  cond (decide (a < (b.length : Int))) ((idx b a).bind fun c=>(span_valid c).bind fun d=>(cond (!d) (some true) ((cond (decide (a > 0)) ((idx b (w64 (a - 1))).bind fun f=>some (decide (f.Hi ≥ c.Lo))) (some false)).bind fun g=>some g)).bind fun h=>cond h (some (.inr (.inr 8))) (some (.inl (w64 (a + 1))))) (some (.inr (.inl ())))
noncomputable def qbf (a : List api_Span) : Option Int:=
  cond (decide ((a.length : Int) > 400)) (some 4) ((loop (q61 a) 0 : Option ((Unit) ⊕ (Int))).bind fun b=>(match b with | .inl _=>some 0 | .inr c=>some c))
structure qvk where
  Turn : Int
  At : qz
  deriving DecidableEq
def qo4 (x : qz) : List DV:=[.int .i64 x.X,.int .i64 x.Y,.int .i64 x.Z]
noncomputable def qkg (a : api_Span) : Option Bool:=
  (cond (decide (a.Lo < a.Hi)) (some (decide (a.Lo ≥ (-1000000)))) (some false)).bind fun b=>(cond b (some (decide (a.Hi≤1000000))) (some false)).bind fun c=>some c
noncomputable def qbw (b : List api_Span) (a : Int) : Option ((Int) ⊕ ((Unit) ⊕ (Int))):=
  cond (decide (a < (b.length : Int))) ((idx b a).bind fun c=>(qkg c).bind fun d=>(cond (!d) (some true) ((cond (decide (a > 0)) ((idx b (w64 (a - 1))).bind fun f=>(idx b a).bind fun g=>some (decide (f.Hi ≥ g.Lo))) (some false)).bind fun h=>some h)).bind fun j=>cond j (some (.inr (.inr 8))) (some (.inl (w64 (a + 1))))) (some (.inr (.inl ())))
noncomputable def qcc (a : List api_Span) : Option Int:=
  cond (decide ((a.length : Int) > 400)) (some 4) ((loop (qbw a) 0 : Option ((Unit) ⊕ (Int))).bind fun b=>(match b with | .inl _=>some 0 | .inr c=>some c))
noncomputable def q9b (b : List api_Span) (a : Int × List Int) : Option ((Int × List Int) ⊕ (List Int)):=
  cond (decide (a.1 < (b.length : Int))) ((idx b a.1).bind fun c=>(idx b a.1).bind fun d=>(app 8 a.2 [c.Lo,d.Hi]).bind fun f=>some (.inl (w64 (a.1 + 1),f))) (some (.inr a.2))
noncomputable def qh0 (b : List api_Span) (a : Int × List Int) : Option ((Int × List Int) ⊕ (List Int)):=
  cond (decide (a.1 < (b.length : Int))) ((idx b a.1).bind fun c=>(idx b a.1).bind fun d=>(app 8 a.2 [c.Lo,d.Hi]).bind fun f=>some (.inl (w64 (a.1 + 1),f))) (some (.inr a.2))
noncomputable def qhr (a : List api_Span) (b : List api_Span) : Option (List Int):=
  (loop (q9b a) (0,[])).bind fun c=>(loop (qh0 b) (0,c)).bind fun d=>(q4y d).bind fun f=>some f
noncomputable def qa8 (b : List api_Span) (c : Int) (a : Int) : Option ((Int) ⊕ ((Unit) ⊕ (Bool))):=
  cond (decide (a < (b.length : Int))) ((idx b a).bind fun d=>(cond (decide (d.Lo≤c)) ((idx b a).bind fun f=>some (decide (c < f.Hi))) (some false)).bind fun g=>cond g (some (.inr (.inr true))) (some (.inl (w64 (a + 1))))) (some (.inr (.inl ())))
noncomputable def qg1 (a : List api_Span) (b : Int) : Option Bool:=
  (loop (qa8 a b) 0 : Option ((Unit) ⊕ (Bool))).bind fun c=>(match c with | .inl _=>some false | .inr d=>some d)
noncomputable def q7m (b : List Int) (c : List api_Span) (d : List api_Span) (f : Int) (a : Int × List Bool) : Option ((Int × List Bool) ⊕ (List Bool)):=
  cond (decide (a.1 < (b.length : Int))) ((idx b a.1).bind fun g=>(qg1 c g).bind fun h=>(idx b a.1).bind fun j=>(qg1 d j).bind fun k=>(q9t f h k).bind fun l=>(app 1 a.2 [l]).bind fun m=>some (.inl (w64 (a.1 + 1),m))) (some (.inr a.2))
noncomputable def qbg (d : Int) (a : List api_Span) (b : List api_Span) : Option (List api_Span):=
  (qhr a b).bind fun c=>(loop (q7m c a b d) (0,[])).bind fun f=>(q8k c f).bind fun g=>some g
noncomputable def q77 (b : List api_Span) (a : Int × Int) : Option ((Int × Int) ⊕ (Int)):=
  cond (decide (a.2 < (b.length : Int))) ((idx b a.2).bind fun c=>some (.inl (w64 (a.1 + (w64 (c.Hi - c.Lo))),w64 (a.2 + 1)))) (some (.inr a.1))
noncomputable def qh1 (a : List api_Span) : Option (Int × Int):=
  (qbf a).bind fun b=>cond (b != 0) (some (0,b)) ((loop (q77 a) (0,0)).bind fun c=>some (c,0))
noncomputable def q7n (b : List api_Span) (a : Int × Int) : Option ((Int × Int) ⊕ (Int)):=
  cond (decide (a.2 < (b.length : Int))) ((idx b a.2).bind fun c=>(idx b a.2).bind fun d=>some (.inl (w64 ((w64 (a.1 + c.Hi)) - d.Lo),w64 (a.2 + 1)))) (some (.inr a.1))
noncomputable def qis (a : List api_Span) : Option (Int × Int):=
  (qcc a).bind fun b=>cond (b != 0) ((qcc a).bind fun c=>some (0,c)) ((loop (q7n a) (0,0)).bind fun d=>some (d,0))
end Go.Sh
namespace Go.Sh
open Go Go.Am
def has (s : List api_Span) (x : Int) : Prop:=∃ t∈s,t.Lo≤x∧x < t.Hi
def Can (s : List api_Span) : Prop:=(∀ t∈s,t.Lo < t.Hi)∧s.Pairwise (fun a b=>a.Hi < b.Lo)
def vld (t : api_Span) : Prop:=t.Lo < t.Hi∧-1000000≤t.Lo∧t.Hi≤1000000
instance (t : api_Span) : Decidable (vld t):=by unfold vld;exact inferInstance
def Good (s : List api_Span) : Prop:=(∀ t∈s,vld t)∧s.Pairwise (fun a b=>a.Hi < b.Lo)
theorem Good.can {s : List api_Span} (h : Good s) : Can s:=⟨fun t ht=>(h.1 t ht).1,h.2⟩
theorem q8z (x : Int) : ¬ has [] x:=by rintro ⟨t,h,_⟩;cases h
theorem q50 {a : api_Span} {s : List api_Span} {x : Int} : has (a::s) x↔(a.Lo≤x∧x < a.Hi)∨has s x:=by
  constructor
  · rintro ⟨t,ht,h⟩
    rcases List.mem_cons.1 ht with rfl | ht
    · exact .inl h
    · exact .inr ⟨t,ht,h⟩
  · rintro (h | ⟨t,ht,h⟩)
    · exact ⟨a,by simp,h⟩
    · exact ⟨t,by simp [ht],h⟩
theorem qpy {a b : List api_Span} {x : Int} : has (a ++ b) x↔has a x∨has b x:=by
  induction a with
  | nil=>simp [q8z]
  | cons t r ih=>simp only [List.cons_append,q50,ih,or_assoc]
theorem Can.tail {a : api_Span} {s : List api_Span} (h : Can (a::s)) : Can s:=⟨fun t ht=>h.1 t (by simp [ht]),(List.pairwise_cons.1 h.2).2⟩
theorem Can.lt {a : api_Span} {s : List api_Span} (h : Can (a::s)) : ∀ t∈s,a.Hi < t.Lo:=(List.pairwise_cons.1 h.2).1
theorem Can.tail_gt {a : api_Span} {s : List api_Span} (h : Can (a::s)) {x : Int} (hx : has s x) : a.Hi < x:=by
  obtain ⟨t,ht,h1,h2⟩:=hx
  have:=h.lt t ht
  omega
theorem qa9 : ∀ {s t : List api_Span},Can s→Can t→(∀ x,has s x↔has t x)→s = t
  | [],[],_,_,_=>rfl
  | [],b::t,_,ht,h=>absurd ((h b.Lo).2 (q50.2 (.inl ⟨Int.le_refl _,ht.1 b (by simp)⟩))) (q8z _)
  | a::s,[],hs,_,h=>absurd ((h a.Lo).1 (q50.2 (.inl ⟨Int.le_refl _,hs.1 a (by simp)⟩))) (q8z _)
  | a::s,b::t,hs,ht,h=>by
    have ha:=hs.1 a (by simp)
    have hb:=ht.1 b (by simp)
    have lo : ∀ {a b : api_Span} {s t : List api_Span},Can (a::s)→Can (b::t)→(∀ x,has (a::s) x↔has (b::t) x)→b.Lo≤a.Lo:=by
      intro a b s t hs ht h
      rcases q50.1 ((h a.Lo).1 (q50.2 (.inl ⟨Int.le_refl _,hs.1 a (by simp)⟩))) with h1 | h1
      · exact h1.1
      · have:=ht.tail_gt h1;have:=ht.1 b (by simp);omega
    have e1 : a.Lo = b.Lo:=Int.le_antisymm (lo ht hs fun x=>(h x).symm) (lo hs ht h)
    have hi : ∀ {a b : api_Span} {s t : List api_Span},Can (a::s)→Can (b::t)→(∀ x,has (a::s) x↔has (b::t) x)→a.Lo = b.Lo→b.Hi≤a.Hi:=by
      intro a b s t hs ht h e
      have ha:=hs.1 a (by simp)
      have hb:=ht.1 b (by simp)
      refine Int.not_lt.1 fun hlt=>?_
      rcases q50.1 ((h a.Hi).2 (q50.2 (.inl ⟨by omega,hlt⟩))) with h1 | h1
      · omega
      · have:=hs.tail_gt h1;omega
    have e2 : a.Hi = b.Hi:=Int.le_antisymm (hi ht hs (fun x=>(h x).symm) e1.symm) (hi hs ht h e1)
    have e : a = b:=by cases a;cases b;simp at e1 e2;simp [e1,e2]
    subst e
    congr 1
    refine qa9 hs.tail ht.tail fun x=>⟨fun hx=>?_,fun hx=>?_⟩
    · have h1:=hs.tail_gt hx
      rcases q50.1 ((h x).1 (q50.2 (.inr hx))) with h2 | h2
      · omega
      · exact h2
    · have h1:=ht.tail_gt hx
      rcases q50.1 ((h x).2 (q50.2 (.inr hx))) with h2 | h2
      · omega
      · exact h2
theorem qmm (t : api_Span) : span_valid t = some (decide (vld t)):=by
  unfold span_valid vld
  by_cases h1 : t.Lo < t.Hi <;> by_cases h2 : -1000000≤t.Lo <;> by_cases h3 : t.Hi≤1000000 <;> simp [h1,h2,h3]
open Classical in
noncomputable def checkS (s : List api_Span) : Int:=if 400 < s.length then 4 else if Good s then 0 else 8
def GoodTo (s : List api_Span) (k : Nat) : Prop:=(∀ i (h : i < s.length),i < k→vld s[i])∧∀ i (h : i + 1 < s.length),i + 1 < k→s[i].Hi < s[i+1].Lo
theorem qpz {s : List api_Span} (h : GoodTo s s.length) : Good s:=by
  refine ⟨fun t ht=>?_,?_⟩
  · obtain ⟨i,hi,rfl⟩:=List.mem_iff_getElem.1 ht
    exact h.1 i hi hi
  · have key : ∀ i j (hi : i < s.length) (hj : j < s.length),i < j→s[i].Hi < s[j].Lo:=by
      intro i j hi hj hij
      induction j with
      | zero=>omega
      | succ j ih=>
        have h1:=h.2 j hj hj
        by_cases e : i = j
        · subst e;exact h1
        · have h2:=ih (by omega) (by omega)
          have h3:=(h.1 j (by omega) (by omega)).1
          omega
    rw [List.pairwise_iff_getElem]
    exact key
theorem Good.get {s : List api_Span} (h : Good s) (i : Nat) (hi : i < s.length) : vld s[i]:=h.1 _ (List.getElem_mem hi)
theorem Good.nxt {s : List api_Span} (h : Good s) (i j : Nat) (hi : i < s.length) (hj : j < s.length) (hij : i < j) : s[i].Hi < s[j].Lo:=List.pairwise_iff_getElem.1 h.2 i j hi hj hij
theorem qmn (s : List api_Span) : qbf s = some (checkS s):=by
  unfold qbf checkS
  by_cases hl : 400 < s.length
  · have : decide ((s.length : Int) > 400) = true:=by simp;omega
    simp [this,hl]
  · have hd : decide ((s.length : Int) > 400) = false:=by simp;omega
    simp only [hd,hl,if_false,cond_false]
    have:=q5u (f:=q61 s) (σ:=Unit) (fun k _=>(k : Int)) s.length (fun k _=>GoodTo s k) (fun b=>(b = .inl ()∧Good s)∨(b = .inr 8∧¬ Good s)) ?_ ?_ (k0:=0) (c0:=()) (by omega) ⟨fun i _ h=>by omega,fun i _ h=>by omega⟩
    · obtain ⟨b,h1,h2⟩:=this
      have h1 : loop (q61 s) 0 = some b:=h1
      rw [h1]
      rcases h2 with ⟨rfl,h2⟩ | ⟨rfl,h2⟩ <;> simp [h2]
    · intro k _ hk hg
      have hb : decide ((k : Int) < (s.length : Int)) = true:=by simp;omega
      simp only [q61,hb,cond_true,qx hk,Option.bind_some,qmm]
      have bad : ¬ Good s→∃ b,(some (Sum.inr (Sum.inr 8)) : Option (Int ⊕ (Unit ⊕ Int))) = some (.inr b)∧((b = .inl ()∧Good s)∨(b = .inr 8∧¬ Good s)):=fun h=>⟨_,rfl,.inr ⟨rfl,h⟩⟩
      by_cases hv : vld s[k]
      · simp only [hv,decide_true,Bool.not_true,cond_false]
        by_cases h0 : k = 0
        · subst h0
          refine .inl ⟨(),by simp [qt],⟨fun i hi h=>?_,fun i hi h=>by omega⟩⟩
          (obtain rfl : i = 0:=by omega)
          exact hv
        · obtain ⟨j,rfl⟩ : ∃ j,k = j + 1:=⟨k - 1,by omega⟩
          have hp : decide (((j + 1 : Nat) : Int) > 0) = true:=decide_eq_true (by omega)
          have hj : idx s (w64 (((j + 1 : Nat) : Int) - 1)) = some (s[j]'(by omega)):=by
            rw [qt (by omega)];exact qa2 (by omega) (by omega)
          simp only [hp,cond_true,hj,Option.bind_some]
          by_cases hlt : s[j].Hi < s[j+1].Lo
          · have : decide (s[j].Hi ≥ s[j+1].Lo) = false:=by simp;omega
            simp only [this,cond_false]
            rw [qt (by omega)]
            refine .inl ⟨(),rfl,⟨fun i hi h=>?_,fun i hi h=>?_⟩⟩
            · by_cases e : i = j + 1
              · subst e;exact hv
              · exact hg.1 i hi (by omega)
            · by_cases e : i = j
              · subst e;exact hlt
              · exact hg.2 i hi (by omega)
          · have : decide (s[j].Hi ≥ s[j+1].Lo) = true:=by simp;omega
            simp only [this,cond_true]
            exact .inr (bad fun h=>hlt (h.nxt j (j + 1) (by omega) hk (by omega)))
      · simp only [hv,decide_false,Bool.not_false,cond_true,Option.bind_some]
        exact .inr (bad fun h=>hv (h.get k hk))
    · intro _ hg
      have hb : decide ((s.length : Int) < (s.length : Int)) = false:=by simp
      simp only [q61,hb,cond_false]
      exact ⟨_,rfl,.inl ⟨rfl,qpz hg⟩⟩
theorem ql3 : qkg = span_valid:=rfl
theorem qit (s : List api_Span) : qbw s = q61 s:=by
  funext a
  unfold qbw q61
  cases h : idx s a <;> simp [h,ql3]
theorem qmo (s : List api_Span) : qcc s = some (checkS s):=by
  rw [← qmn];unfold qcc qbf;rw [qit]
open Classical in
theorem qiu (s : List api_Span) (x : Int) (hl : s.length≤1000000) : qg1 s x = some (decide (has s x)):=by
  have:=q5u (f:=qa8 s x) (σ:=Unit) (fun k _=>(k : Int)) s.length (fun k _=>∀ i (h : i < s.length),i < k→¬ (s[i].Lo≤x∧x < s[i].Hi)) (fun b=>(b = .inl ()∧¬ has s x)∨(b = .inr true∧has s x)) ?_ ?_ (k0:=0) (c0:=()) (by omega) (fun i _ h=>by omega)
  · obtain ⟨b,h1,h2⟩:=this
    have h1 : loop (qa8 s x) 0 = some b:=h1
    unfold qg1
    rw [h1]
    rcases h2 with ⟨rfl,h2⟩ | ⟨rfl,h2⟩ <;> simp [h2]
  · intro k _ hk hg
    have hb : decide ((k : Int) < (s.length : Int)) = true:=decide_eq_true (by omega)
    simp only [qa8,hb,cond_true,qx hk,Option.bind_some]
    by_cases h1 : s[k].Lo≤x <;> by_cases h2 : x < s[k].Hi
    · exact .inr ⟨.inr true,by simp [h1,h2],.inr ⟨rfl,s[k],List.getElem_mem hk,h1,h2⟩⟩
    all_goals
      refine .inl ⟨(),by simp [h1,h2];exact qt (by omega),fun i hi h=>?_⟩
      by_cases e : i = k
      · subst e;omega
      · exact hg i hi (by omega)
  · intro _ hg
    have hb : decide ((s.length : Int) < (s.length : Int)) = false:=decide_eq_false (by omega)
    simp only [qa8,hb,cond_false]
    refine ⟨_,rfl,.inl ⟨rfl,?_⟩⟩
    rintro ⟨t,ht,h⟩
    obtain ⟨i,hi,rfl⟩:=List.mem_iff_getElem.1 ht
    exact hg i hi hi h
end Go.Sh
