/- PX -/
import Derived.Test.YtjjmcdlnadkjbaaGreatK7
namespace Go.Sh
open Go Go.Am
structure ql where
  X : Int
  Y : Int
  Z : Int
  deriving DecidableEq
structure qd where
  Lo : ql
  Hi : ql
  deriving DecidableEq
def qr (x : qd) : List DV:=[.int .i64 x.Lo.X,.int .i64 x.Lo.Y,.int .i64 x.Lo.Z,.int .i64 x.Hi.X,.int .i64 x.Hi.Y,.int .i64 x.Hi.Z]
noncomputable def q79 (a : List qd) : Option Bool:=
  (cond (decide ((a.length : Int) > 30)) (some (decide ((a.length : Int)≤400))) (some false)).bind fun b=>(cond b (some true) (some (decide ((a.length : Int) > 420)))).bind fun c=>some c
noncomputable def q38 (b : List qd) (c : qd→Option Bool) (a : Int) : Option ((Int) ⊕ ((Unit) ⊕ (Int))):=
  cond (decide (a < (b.length : Int))) ((idx b a).bind fun d=>(c d).bind fun f=>cond f (some (.inr (.inr a))) (some (.inl (w64 (a + 1))))) (some (.inr (.inl ())))
noncomputable def qam (a : List qd) (b : qd→Option Bool) : Option Int:=
  (loop (q38 a b) 0 : Option ((Unit) ⊕ (Int))).bind fun c=>(match c with | .inl _=>some (-1) | .inr d=>some d)
noncomputable def q7o (a : List qd) (b : qd→Option Bool) : Option Bool:=
  (qam a b).bind fun c=>some (decide (c ≥ 0))
noncomputable def q63 (a : ql) : Option Bool:=
  (cond (decide ((min (min a.X a.Y) a.Z) ≥ (-1000000))) (some (decide ((max (max a.X a.Y) a.Z)≤1000000))) (some false)).bind fun b=>some b
noncomputable def q64 (a : qd) : Option Bool:=
  (cond (decide (a.Lo.X < a.Hi.X)) (some (decide (a.Lo.Y < a.Hi.Y))) (some false)).bind fun b=>(cond b (some (decide (a.Lo.Z < a.Hi.Z))) (some false)).bind fun c=>(cond c ((q63 a.Lo).bind fun d=>some d) (some false)).bind fun f=>(cond f ((q63 a.Hi).bind fun g=>some g) (some false)).bind fun h=>some h
noncomputable def q21 (a : qd) : Option Bool:=
  (q64 a).bind fun b=>some (!b)
def K9 (x : List qd) : List DV:=[.sl 6 (x.map qr)]
def qax : ByteArray:=⟨#[0,1,2,2,3,3,3,3,4,4,4,4,4,4,4,4,5,5,5,5,5,5,5,5,5,5,5,5,5,5,5,5,6,6,6,6,6,6,6,6,6,6,6,6,6,6,6,6,6,6,6,6,6,6,6,6,6,6,6,6,6,6,6,6,7,7,7,7,7,7,7,7,7,7,7,7,7,7,7,7,7,7,7,7,7,7,7,7,7,7,7,7,7,7,7,7,7,7,7,7,7,7,7,7,7,7,7,7,7,7,7,7,7,7,7,7,7,7,7,7,7,7,7,7,7,7,7,7,8,8,8,8,8,8,8,8,8,8,8,8,8,8,8,8,8,8,8,8,8,8,8,8,8,8,8,8,8,8,8,8,8,8,8,8,8,8,8,8,8,8,8,8,8,8,8,8,8,8,8,8,8,8,8,8,8,8,8,8,8,8,8,8,8,8,8,8,8,8,8,8,8,8,8,8,8,8,8,8,8,8,8,8,8,8,8,8,8,8,8,8,8,8,8,8,8,8,8,8,8,8,8,8,8,8,8,8,8,8,8,8,8,8,8,8,8,8,8,8,8,8,8,8,8,8,8,8]⟩
noncomputable def q1h (c : Int) : Option Int:=
  (cond (decide (c ≥ 4294967296)) (some (Int.fdiv c (2 ^ 32),32)) (some (c,0))).bind fun a=>(cond (decide (a.1 ≥ 65536)) (some (Int.fdiv a.1 (2 ^ 16),w64 (a.2 + 16))) (some (a.1,a.2))).bind fun b=>(cond (decide (b.1 ≥ 256)) (some (Int.fdiv b.1 (2 ^ 8),w64 (b.2 + 8))) (some (b.1,b.2))).bind fun d=>(q3s qax (IntKind.wrap .u8 d.1)).bind fun f=>some (w64 (d.2 + (w64 f)))
noncomputable def Jw (a : Int) : Option Int:=
  (q1h a).bind fun b=>some b
noncomputable def q6d (a : Int) : Option Bool:=
  some (a != a)
noncomputable def Yh (a : Int) (b : Int) : Option Bool:=
  (q6d a).bind fun c=>(cond c ((q6d b).bind fun d=>some (!d)) (some false)).bind fun f=>(cond f (some true) (some (decide (a < b)))).bind fun g=>some g
noncomputable def q5e (c : Int) (a : Int × List Int) : Option ((Int × List Int) ⊕ (List Int)):=
  (cond (decide (a.1 > c)) ((idx a.2 a.1).bind fun d=>(idx a.2 (w64 (a.1 - 1))).bind fun f=>(Yh d f).bind fun g=>some g) (some false)).bind fun h=>cond h ((idx a.2 (w64 (a.1 - 1))).bind fun b=>(idx a.2 a.1).bind fun j=>(idx a.2 a.1).bind fun _=>(idx (a.2.set a.1.toNat b) (w64 (a.1 - 1))).bind fun _=>some (.inl (w64 (a.1 - 1),(a.2.set a.1.toNat b).set (w64 (a.1 - 1)).toNat j))) (some (.inr a.2))
noncomputable def q5d (b : Int) (c : Int) (a : Int × List Int) : Option ((Int × List Int) ⊕ (List Int)):=
  cond (decide (a.1 < b)) (((loop (q5e c) (a.1,a.2)).bind fun d=>some d).bind fun f=>some (.inl (w64 (a.1 + 1),f))) (some (.inr a.2))
noncomputable def q5c (b : List Int) (a : Int) (c : Int) : Option (List Int):=
  (loop (q5d c a) (w64 (a + 1),b)).bind fun d=>some d
noncomputable def q60 (d : Int) (b : Int) (a : Int × List Int) : Option ((Int × List Int) ⊕ (List Int)):=
  cond (decide ((w64 ((w64 (2 * a.1)) + 1)) ≥ d)) (some (.inr a.2)) ((cond (decide ((w64 ((w64 ((w64 (2 * a.1)) + 1)) + 1)) < d)) ((idx a.2 (w64 (b + (w64 ((w64 (2 * a.1)) + 1))))).bind fun g=>(idx a.2 (w64 ((w64 (b + (w64 ((w64 (2 * a.1)) + 1)))) + 1))).bind fun h=>(Yh g h).bind fun j=>some j) (some false)).bind fun k=>(cond k (some (w64 ((w64 ((w64 (2 * a.1)) + 1)) + 1))) (some (w64 ((w64 (2 * a.1)) + 1)))).bind fun c=>(idx a.2 (w64 (b + a.1))).bind fun l=>(idx a.2 (w64 (b + c))).bind fun m=>(Yh l m).bind fun n=>cond (!n) (some (.inr a.2)) ((idx a.2 (w64 (b + c))).bind fun f=>(idx a.2 (w64 (b + a.1))).bind fun o=>(idx a.2 (w64 (b + a.1))).bind fun _=>(idx (a.2.set (w64 (b + a.1)).toNat f) (w64 (b + c))).bind fun _=>some (.inl (c,(a.2.set (w64 (b + a.1)).toNat f).set (w64 (b + c)).toNat o))))
noncomputable def q3i (a : List Int) (b : Int) (c : Int) (d : Int) : Option (List Int):=
  (loop (q60 c d) (b,a)).bind fun f=>some f
noncomputable def q5a (d : Int) (b : Int) (a : Int × List Int) : Option ((Int × List Int) ⊕ (List Int)):=
  cond (decide (a.1 ≥ 0)) ((q3i a.2 a.1 (w64 (d - b)) b).bind fun c=>(Qj c.length a.2.length).bind fun _=>some (.inl (w64 (a.1 - 1),c))) (some (.inr a.2))
noncomputable def q5b (b : Int) (a : Int × List Int) : Option ((Int × List Int) ⊕ (List Int)):=
  cond (decide (a.1 ≥ 0)) ((idx a.2 (w64 (b + a.1))).bind fun c=>(idx a.2 b).bind fun d=>(idx a.2 b).bind fun _=>(idx (a.2.set b.toNat c) (w64 (b + a.1))).bind fun _=>(q3i ((a.2.set b.toNat c).set (w64 (b + a.1)).toNat d) 0 a.1 b).bind fun f=>(Qj f.length ((a.2.set b.toNat c).set (w64 (b + a.1)).toNat d).length).bind fun _=>some (.inl (w64 (a.1 - 1),f))) (some (.inr a.2))
noncomputable def q59 (c : List Int) (a : Int) (b : Int) : Option (List Int):=
  (loop (q5a b a) (w64 (Int.tdiv (w64 ((w64 (b - a)) - 1)) 2),c)).bind fun d=>(loop (q5b a) (w64 ((w64 (b - a)) - 1),d)).bind fun f=>some f
noncomputable def q1y (c : List Int) (a : Int) (b : Int) (d : Int) : Option (Int × Int × Int):=
  (idx c b).bind fun f=>(idx c a).bind fun g=>(Yh f g).bind fun h=>cond h (some (b,a,w64 (d + 1))) (some (a,b,d))
noncomputable def q3c (a : List Int) (f : Int) (g : Int) (h : Int) (j : Int) : Option (Int × Int):=
  (q1y a f g j).bind fun b=>(q1y a b.2.1 h b.2.2).bind fun c=>(q1y a b.1 c.1 c.2.2).bind fun d=>some (d.2.1,d.2.2)
noncomputable def q1x (c : List Int) (a : Int) (d : Int) : Option (Int × Int):=
  (q3c c (w64 (a - 1)) a (w64 (a + 1)) d).bind fun b=>some (b.1,b.2)
noncomputable def q58 (d : List Int) (a : Int) (b : Int) : Option (Int × Int):=
  (cond (decide ((w64 (b - a)) ≥ 8)) ((cond (decide ((w64 (b - a)) ≥ 50)) ((q1x d (w64 (a + (w64 ((w64 (Int.tdiv (w64 (b - a)) 4)) * 1)))) 0).bind fun g=>(q1x d (w64 (a + (w64 ((w64 (Int.tdiv (w64 (b - a)) 4)) * 2)))) g.2).bind fun h=>(q1x d (w64 (a + (w64 ((w64 (Int.tdiv (w64 (b - a)) 4)) * 3)))) h.2).bind fun j=>some (g.1,h.1,j.1,j.2)) (some (w64 (a + (w64 ((w64 (Int.tdiv (w64 (b - a)) 4)) * 1))),w64 (a + (w64 ((w64 (Int.tdiv (w64 (b - a)) 4)) * 2))),w64 (a + (w64 ((w64 (Int.tdiv (w64 (b - a)) 4)) * 3))),0))).bind fun f=>(q3c d f.1 f.2.1 f.2.2.1 f.2.2.2).bind fun k=>some (k.1,k.2)) (some (w64 (a + (w64 ((w64 (Int.tdiv (w64 (b - a)) 4)) * 2))),0))).bind fun c=>cond (c.2 == 0) (some (c.1,1)) (cond (c.2 == 12) (some (c.1,2)) (some (c.1,0)))
noncomputable def q8k (a : Int × Int × List Int) : Option ((Int × Int × List Int) ⊕ (List Int)):=
  cond (decide (a.1 < a.2.1)) ((idx a.2.2 a.2.1).bind fun b=>(idx a.2.2 a.1).bind fun c=>(idx a.2.2 a.1).bind fun _=>(idx (a.2.2.set a.1.toNat b) a.2.1).bind fun _=>some (.inl (w64 (a.1 + 1),w64 (a.2.1 - 1),(a.2.2.set a.1.toNat b).set a.2.1.toNat c))) (some (.inr a.2.2))
noncomputable def q5y (a : List Int) (b : Int) (c : Int) : Option (List Int):=
  (loop q8k (b,w64 (c - 1),a)).bind fun d=>some d
noncomputable def q5i (c : Int) (b : Int × Int × List Int) (a : Int) : Option ((Int) ⊕ (Int)):=
  (cond (decide (a < c)) ((idx b.2.2 a).bind fun d=>(idx b.2.2 (w64 (a - 1))).bind fun f=>(Yh d f).bind fun g=>some (!g)) (some false)).bind fun h=>cond h (some (.inl (w64 (a + 1)))) (some (.inr a))
noncomputable def q87 (a : Int × List Int) : Option ((Int × List Int) ⊕ (List Int)):=
  cond (decide (a.1 ≥ 1)) ((idx a.2 a.1).bind fun c=>(idx a.2 (w64 (a.1 - 1))).bind fun d=>(Yh c d).bind fun f=>cond (!f) (some (.inr a.2)) ((idx a.2 (w64 (a.1 - 1))).bind fun b=>(idx a.2 a.1).bind fun g=>(idx a.2 a.1).bind fun _=>(idx (a.2.set a.1.toNat b) (w64 (a.1 - 1))).bind fun _=>some (.inl (w64 (a.1 - 1),(a.2.set a.1.toNat b).set (w64 (a.1 - 1)).toNat g)))) (some (.inr a.2))
noncomputable def q5j (d : Int) (b : Int) (a : Int × List Int) : Option ((Int × List Int) ⊕ (Int × List Int)):=
  cond (decide (a.1 < d)) ((idx a.2 a.1).bind fun f=>(idx a.2 (w64 (a.1 - 1))).bind fun g=>(Yh f g).bind fun h=>cond (!h) (some (.inr (b,a.2))) ((idx a.2 (w64 (a.1 - 1))).bind fun c=>(idx a.2 a.1).bind fun j=>(idx a.2 a.1).bind fun _=>(idx (a.2.set a.1.toNat c) (w64 (a.1 - 1))).bind fun _=>some (.inl (w64 (a.1 + 1),(a.2.set a.1.toNat c).set (w64 (a.1 - 1)).toNat j)))) (some (.inr (b,a.2)))
noncomputable def q3f (c : Int) (g : Int) (b : Int × Int × List Int) : Option ((Int × Int × List Int) ⊕ ((List Int) ⊕ (Bool × List Int))):=
  cond (decide (b.2.1 < 5)) (((loop (q5i c b) b.1).bind fun a=>cond (a == c) (some (.inr (true,b.2.2))) (cond (decide ((w64 (c - g)) < 50)) (some (.inr (false,b.2.2))) ((idx b.2.2 (w64 (a - 1))).bind fun d=>(idx b.2.2 a).bind fun h=>(idx b.2.2 a).bind fun _=>(idx (b.2.2.set a.toNat d) (w64 (a - 1))).bind fun _=>(cond (decide ((w64 (a - g)) ≥ 2)) ((loop q87 (w64 (a - 1),(b.2.2.set a.toNat d).set (w64 (a - 1)).toNat h)).bind fun f=>some f) (some ((b.2.2.set a.toNat d).set (w64 (a - 1)).toNat h))).bind fun j=>cond (decide ((w64 (c - a)) ≥ 2)) ((loop (q5j c a) (w64 (a + 1),j)).bind fun f=>some (.inl f)) (some (.inl (a,j))))) : Option ((Int × List Int) ⊕ (Bool × List Int))).bind fun l=>(match l with | .inl k=>some (.inl (k.1,w64 (b.2.1 + 1),k.2)) | .inr m=>some (.inr (.inr m)))) (some (.inr (.inl b.2.2)))
noncomputable def q3e (b : List Int) (a : Int) (c : Int) : Option (Bool × List Int):=
  (loop (q3f c a) (w64 (a + 1),0,b) : Option ((List Int) ⊕ (Bool × List Int))).bind fun d=>(match d with | .inl f=>some (false,f) | .inr g=>some g)
noncomputable def q5m (b : Int × Int × List Int) (c : Int) (a : Int) : Option ((Int) ⊕ (Int)):=
  (cond (decide (a≤b.2.1)) ((idx b.2.2 c).bind fun d=>(idx b.2.2 a).bind fun f=>(Yh d f).bind fun g=>some (!g)) (some false)).bind fun h=>cond h (some (.inl (w64 (a + 1)))) (some (.inr a))
noncomputable def q5n (c : Int) (b : Int × Int × List Int) (d : Int) (a : Int) : Option ((Int) ⊕ (Int)):=
  (cond (decide (c≤a)) ((idx b.2.2 d).bind fun f=>(idx b.2.2 a).bind fun g=>(Yh f g).bind fun h=>some h) (some false)).bind fun j=>cond j (some (.inl (w64 (a - 1)))) (some (.inr a))
noncomputable def q5l (d : Int) (a : Int × Int × List Int) : Option ((Int × Int × List Int) ⊕ (Int × List Int)):=
  (loop (q5m a d) a.1).bind fun b=>(loop (q5n b a d) a.2.1).bind fun c=>cond (decide (b > c)) (some (.inr (b,a.2.2))) ((idx a.2.2 c).bind fun f=>(idx a.2.2 b).bind fun g=>(idx a.2.2 b).bind fun _=>(idx (a.2.2.set b.toNat f) c).bind fun _=>some (.inl (w64 (b + 1),w64 (c - 1),(a.2.2.set b.toNat f).set c.toNat g)))
noncomputable def q5k (b : List Int) (a : Int) (g : Int) (c : Int) : Option (Int × List Int):=
  (idx b c).bind fun d=>(idx b a).bind fun h=>(idx b a).bind fun _=>(idx (b.set a.toNat d) c).bind fun _=>(loop (q5l a) (w64 (a + 1),w64 (g - 1),(b.set a.toNat d).set c.toNat h)).bind fun f=>some (f.1,f.2)
noncomputable def q5p (h : Int) (c : List Int) (b : Int) (d : Int) (f : Int) (g : Int) (a : Int) : Option ((Int) ⊕ (Int)):=
  (cond (decide (a≤(w64 (h - 1)))) ((idx ((c.set b.toNat d).set f.toNat g) a).bind fun j=>(idx ((c.set b.toNat d).set f.toNat g) b).bind fun k=>(Yh j k).bind fun l=>some l) (some false)).bind fun m=>cond m (some (.inl (w64 (a + 1)))) (some (.inr a))
noncomputable def q5q (h : Int) (c : List Int) (b : Int) (d : Int) (f : Int) (g : Int) (a : Int) : Option ((Int) ⊕ (Int)):=
  (cond (decide (h≤a)) ((idx ((c.set b.toNat d).set f.toNat g) a).bind fun j=>(idx ((c.set b.toNat d).set f.toNat g) b).bind fun k=>(Yh j k).bind fun l=>some (!l)) (some false)).bind fun m=>cond m (some (.inl (w64 (a - 1)))) (some (.inr a))
noncomputable def q5s (b : Int × Int × List Int) (c : Int) (a : Int) : Option ((Int) ⊕ (Int)):=
  (cond (decide (a≤b.2.1)) ((idx b.2.2 a).bind fun d=>(idx b.2.2 c).bind fun f=>(Yh d f).bind fun g=>some g) (some false)).bind fun h=>cond h (some (.inl (w64 (a + 1)))) (some (.inr a))
noncomputable def q5t (c : Int) (b : Int × Int × List Int) (d : Int) (a : Int) : Option ((Int) ⊕ (Int)):=
  (cond (decide (c≤a)) ((idx b.2.2 a).bind fun f=>(idx b.2.2 d).bind fun g=>(Yh f g).bind fun h=>some (!h)) (some false)).bind fun j=>cond j (some (.inl (w64 (a - 1)))) (some (.inr a))
noncomputable def q5r (d : Int) (a : Int × Int × List Int) : Option ((Int × Int × List Int) ⊕ (Int × List Int)):=
  (loop (q5s a d) a.1).bind fun b=>(loop (q5t b a d) a.2.1).bind fun c=>cond (decide (b > c)) (some (.inr (c,a.2.2))) ((idx a.2.2 c).bind fun f=>(idx a.2.2 b).bind fun g=>(idx a.2.2 b).bind fun _=>(idx (a.2.2.set b.toNat f) c).bind fun _=>some (.inl (w64 (b + 1),w64 (c - 1),(a.2.2.set b.toNat f).set c.toNat g)))
noncomputable def q5o (b : List Int) (a : Int) (k : Int) (c : Int) : Option (Int × Bool × List Int):=
  (idx b c).bind fun d=>(idx b a).bind fun f=>(idx b a).bind fun _=>(idx (b.set a.toNat d) c).bind fun _=>(loop (q5p k b a d c f) (w64 (a + 1))).bind fun j=>(loop (q5q j b a d c f) (w64 (k - 1))).bind fun g=>cond (decide (j > g)) ((idx ((b.set a.toNat d).set c.toNat f) a).bind fun l=>(idx ((b.set a.toNat d).set c.toNat f) g).bind fun o=>(idx ((b.set a.toNat d).set c.toNat f) g).bind fun _=>(idx (((b.set a.toNat d).set c.toNat f).set g.toNat l) a).bind fun _=>some (g,true,(((b.set a.toNat d).set c.toNat f).set g.toNat l).set a.toNat o)) ((idx ((b.set a.toNat d).set c.toNat f) g).bind fun m=>(idx ((b.set a.toNat d).set c.toNat f) j).bind fun p=>(idx ((b.set a.toNat d).set c.toNat f) j).bind fun _=>(idx (((b.set a.toNat d).set c.toNat f).set j.toNat m) g).bind fun _=>(loop (q5r a) (w64 (j + 1),w64 (g - 1),(((b.set a.toNat d).set c.toNat f).set j.toNat m).set g.toNat p)).bind fun h=>(idx h.2 a).bind fun n=>(idx h.2 h.1).bind fun q=>(idx h.2 h.1).bind fun _=>(idx (h.2.set h.1.toNat n) a).bind fun _=>some (h.1,false,(h.2.set h.1.toNat n).set a.toNat q))
noncomputable def Uv (a : Int) : Option Int:=
  (Jw (IntKind.wrap .u64 a)).bind fun b=>(shlK .u64 1 b).bind fun c=>some c
noncomputable def Uw (a : Int) : Option Int:=
  some (xorI .u64 (xorI .u64 (xorI .u64 a (IntKind.wrap .u64 (a * (2 ^ 13)))) (Int.fdiv (xorI .u64 a (IntKind.wrap .u64 (a * (2 ^ 13)))) (2 ^ 7))) (IntKind.wrap .u64 ((xorI .u64 (xorI .u64 a (IntKind.wrap .u64 (a * (2 ^ 13)))) (Int.fdiv (xorI .u64 a (IntKind.wrap .u64 (a * (2 ^ 13)))) (2 ^ 7))) * (2 ^ 17))))
noncomputable def q57 (b : Int) (d : Int) (f : Int) (a : Int × List Int × Int) : Option ((Int × List Int × Int) ⊕ (List Int)):=
  cond (decide (a.1≤(w64 ((w64 (b + (w64 ((w64 (Int.tdiv (w64 (d - b)) 4)) * 2)))) + 1)))) ((Uw a.2.2).bind fun c=>(cond (decide ((w64 (andI .u64 c (IntKind.wrap .u64 (f - 1)))) ≥ (w64 (d - b)))) (some (w64 ((w64 (andI .u64 c (IntKind.wrap .u64 (f - 1)))) - (w64 (d - b))))) (some (w64 (andI .u64 c (IntKind.wrap .u64 (f - 1)))))).bind fun g=>(idx a.2.1 (w64 (b + g))).bind fun h=>(idx a.2.1 a.1).bind fun j=>(idx a.2.1 a.1).bind fun _=>(idx (a.2.1.set a.1.toNat h) (w64 (b + g))).bind fun _=>some (.inl (w64 (a.1 + 1),(a.2.1.set a.1.toNat h).set (w64 (b + g)).toNat j,c))) (some (.inr a.2.1))
noncomputable def q56 (c : List Int) (a : Int) (b : Int) : Option (List Int):=
  cond (decide ((w64 (b - a)) ≥ 8)) ((Uv (w64 (b - a))).bind fun d=>(loop (q57 a b d) (w64 ((w64 (a + (w64 ((w64 (Int.tdiv (w64 (b - a)) 4)) * 2)))) - 1),c,IntKind.wrap .u64 (w64 (b - a)))).bind fun f=>some f) (some c)
noncomputable def q3g (rec : List Int→Int→Int→Int→Option (List Int)) (a : Int × Int × Int × Bool × Bool × List Int) : Option ((Int × Int × Int × Bool × Bool × List Int) ⊕ (List Int)):=
  cond (decide ((w64 (a.2.1 - a.1))≤12)) ((q5c a.2.2.2.2.2 a.1 a.2.1).bind fun k=>(Qj k.length a.2.2.2.2.2.length).bind fun _=>some (.inr k)) (cond (a.2.2.1 == 0) ((q59 a.2.2.2.2.2 a.1 a.2.1).bind fun l=>(Qj l.length a.2.2.2.2.2.length).bind fun _=>some (.inr l)) ((cond (!a.2.2.2.1) ((q56 a.2.2.2.2.2 a.1 a.2.1).bind fun m=>(Qj m.length a.2.2.2.2.2.length).bind fun _=>some (w64 (a.2.2.1 - 1),m)) (some (a.2.2.1,a.2.2.2.2.2))).bind fun c=>(q58 c.2 a.1 a.2.1).bind fun g=>(cond (g.2 == 2) ((q5y c.2 a.1 a.2.1).bind fun n=>(Qj n.length c.2.length).bind fun _=>some (w64 ((w64 (a.2.1 - 1)) - (w64 (g.1 - a.1))),1,n)) (some (g.1,g.2,c.2))).bind fun d=>(cond a.2.2.2.1 (some a.2.2.2.2.1) (some false)).bind fun q=>(cond q (some (d.2.1 == 1)) (some false)).bind fun r=>(cond r ((q3e d.2.2 a.1 a.2.1).bind fun h=>(Qj h.2.length d.2.2.length).bind fun _=>cond h.1 (some (.inr h.2)) (some (.inl h.2))) (some (.inl d.2.2)) : Option ((List Int) ⊕ (List Int))).bind fun s=>(match s with | .inl f=>(cond (decide (a.1 > 0)) ((idx f (w64 (a.1 - 1))).bind fun t=>(idx f d.1).bind fun u=>(Yh t u).bind fun v=>some (!v)) (some false)).bind fun w=>cond w ((q5k f a.1 a.2.1 d.1).bind fun j=>(Qj j.2.length f.length).bind fun _=>some (.inl (j.1,a.2.1,c.1,a.2.2.2.1,a.2.2.2.2.1,j.2))) ((q5o f a.1 a.2.1 d.1).bind fun b=>(Qj b.2.2.length f.length).bind fun _=>cond (decide ((w64 (b.1 - a.1)) < (w64 (a.2.1 - b.1)))) ((rec b.2.2 a.1 b.1 c.1).bind fun o=>(Qj o.length b.2.2.length).bind fun _=>some (.inl (w64 (b.1 + 1),a.2.1,c.1,decide ((w64 (b.1 - a.1)) ≥ (w64 (Int.tdiv (w64 (a.2.1 - a.1)) 8))),b.2.1,o))) ((rec b.2.2 (w64 (b.1 + 1)) a.2.1 c.1).bind fun p=>(Qj p.length b.2.2.length).bind fun _=>some (.inl (a.1,b.1,c.1,decide ((w64 (a.2.1 - b.1)) ≥ (w64 (Int.tdiv (w64 (a.2.1 - a.1)) 8))),b.2.1,p)))) | .inr x=>some (.inr x))))
noncomputable def q3h (rec : List Int→Int→Int→Int→Option (List Int)) (a : List Int) (b : Int) (c : Int) (d : Int) : Option (List Int):=
  (loop (q3g rec) (b,c,d,true,true,a)).bind fun f=>some f
noncomputable def q5x : Nat→List Int→Int→Int→Int→Option (List Int)
  | 0,_,_,_,_=>none
  | n + 1,a,b,c,d=>q3h (q5x n)  a b c d
noncomputable def U2 (a : List Int) : Option (List Int):=
  (Jw (IntKind.wrap .u64 (a.length : Int))).bind fun c=>(lim (fun n=>q5x n a 0 (a.length : Int) c)).bind fun b=>(Qj b.length a.length).bind fun _=>some b
noncomputable def Uu (a : Int × (Nat × Nat) × Int × List Int) : Option ((Int × (Nat × Nat) × Int × List Int) ⊕ (Int × List Int)):=
  cond (decide (a.2.2.1 < (a.2.1.2 : Int))) (((idxW a.2.2.2 a.2.1 a.2.2.1).bind fun c=>(idxW a.2.2.2 a.2.1 (w64 (a.2.2.1 - 1))).bind fun d=>cond (c != d) ((idxW a.2.2.2 a.2.1 a.2.2.1).bind fun f=>(idx a.2.2.2 a.1).bind fun _=>some (w64 (a.1 + 1),a.2.1,a.2.2.2.set a.1.toNat f)) (some (a.1,a.2.1,a.2.2.2))).bind fun b=>some (.inl (b.1,b.2.1,w64 (a.2.2.1 + 1),b.2.2))) (some (.inr (a.1,a.2.2.2)))
noncomputable def Zj (a : List Int) (b : Int) : Option ((Int) ⊕ ((Unit) ⊕ ((Nat × Nat) × List Int))):=
  cond (decide (b < (a.length : Int))) ((idx a b).bind fun d=>(idx a (w64 (b - 1))).bind fun f=>cond (d == f) ((sub2 a.length b a.length).bind fun g=>(loop Uu (b,g,1,a)).bind fun c=>(sub2 c.2.length c.1 c.2.length).bind fun h=>(sub2 c.2.length 0 c.1).bind fun j=>some (.inr (.inr (j,clrw c.2 h 0)))) (some (.inl (w64 (b + 1))))) (some (.inr (.inl ())))
noncomputable def q1v (a : List Int) : Option ((Nat × Nat) × List Int):=
  cond (decide ((a.length : Int) < 2)) (some ((0,a.length),a)) ((loop (Zj a) 1 : Option ((Unit) ⊕ ((Nat × Nat) × List Int))).bind fun b=>(match b with | .inl _=>some ((0,a.length),a) | .inr c=>some c))
structure qh where
  X0 : Int
  Y0 : Int
  X1 : Int
  Y1 : Int
  deriving DecidableEq
def qs (x : qh) : List DV:=[.int .i64 x.X0,.int .i64 x.Y0,.int .i64 x.X1,.int .i64 x.Y1]
noncomputable def q39 (b : List qh) (c : qh→Option Bool) (a : Int) : Option ((Int) ⊕ ((Unit) ⊕ (Int))):=
  cond (decide (a < (b.length : Int))) ((idx b a).bind fun d=>(c d).bind fun f=>cond f (some (.inr (.inr a))) (some (.inl (w64 (a + 1))))) (some (.inr (.inl ())))
noncomputable def qan (a : List qh) (b : qh→Option Bool) : Option Int:=
  (loop (q39 a b) 0 : Option ((Unit) ⊕ (Int))).bind fun c=>(match c with | .inl _=>some (-1) | .inr d=>some d)
noncomputable def q7p (a : List qh) (b : qh→Option Bool) : Option Bool:=
  (qan a b).bind fun c=>some (decide (c ≥ 0))
noncomputable def q1p (a : Int) : Option Bool:=
  (cond (decide (a ≥ (-1000000))) (some (decide (a≤1000000))) (some false)).bind fun b=>some b
noncomputable def q7j (a : qh) : Option Bool:=
  (cond (decide (a.X0 < a.X1)) (some (decide (a.Y0 < a.Y1))) (some false)).bind fun b=>(cond b ((q1p a.X0).bind fun c=>some c) (some false)).bind fun d=>(cond d ((q1p a.X1).bind fun f=>some f) (some false)).bind fun g=>(cond g ((q1p a.Y0).bind fun h=>some h) (some false)).bind fun j=>(cond j ((q1p a.Y1).bind fun k=>some k) (some false)).bind fun l=>some l
noncomputable def q1o (a : qh) : Option Bool:=
  (q7j a).bind fun b=>some (!b)
def Yy (x : List qh) : List DV:=[.sl 4 (x.map qs)]
structure qi where
  Lo : Int
  Hi : Int
  deriving DecidableEq
def Qc (x : qi) : List DV:=[.int .i64 x.Lo,.int .i64 x.Hi]
noncomputable def q1w (b : List qi) (c : qi→Option Bool) (a : Int) : Option ((Int) ⊕ ((Unit) ⊕ (Int))):=
  cond (decide (a < (b.length : Int))) ((idx b a).bind fun d=>(c d).bind fun f=>cond f (some (.inr (.inr a))) (some (.inl (w64 (a + 1))))) (some (.inr (.inl ())))
noncomputable def q7u (a : List qi) (b : qi→Option Bool) : Option Int:=
  (loop (q1w a b) 0 : Option ((Unit) ⊕ (Int))).bind fun c=>(match c with | .inl _=>some (-1) | .inr d=>some d)
noncomputable def q7r (a : List qi) (b : qi→Option Bool) : Option Bool:=
  (q7u a b).bind fun c=>some (decide (c ≥ 0))
noncomputable def q23 (a : qi) : Option Bool:=
  (cond (decide (a.Lo < a.Hi)) (some (decide (a.Lo ≥ (-1000000)))) (some false)).bind fun b=>(cond b (some (decide (a.Hi≤1000000))) (some false)).bind fun c=>some c
noncomputable def qaw (a : qi) : Option Bool:=
  (q23 a).bind fun b=>some (!b)
def Jk (x : List qi) : List DV:=[.sl 2 (x.map Qc)]
structure qg where
  at_ : Int
  list_ : Int
  by_ : Int
  deriving DecidableEq
def Q0 (x : qg) : List DV:=[.int .i64 x.at_,.int .i64 x.list_,.int .i64 x.by_]
noncomputable def q8v (a : qg) (b : qg) : Option Int:=
  some (w64 (a.at_ - b.at_))
noncomputable def q83 (c : Int) (d : qg→qg→Option Int) (a : Int × List qg) : Option ((Int × List qg) ⊕ (List qg)):=
  (cond (decide (a.1 > c)) ((idx a.2 a.1).bind fun f=>(idx a.2 (w64 (a.1 - 1))).bind fun g=>(d f g).bind fun h=>some (decide (h < 0))) (some false)).bind fun j=>cond j ((idx a.2 (w64 (a.1 - 1))).bind fun b=>(idx a.2 a.1).bind fun k=>(idx a.2 a.1).bind fun _=>(idx (a.2.set a.1.toNat b) (w64 (a.1 - 1))).bind fun _=>some (.inl (w64 (a.1 - 1),(a.2.set a.1.toNat b).set (w64 (a.1 - 1)).toNat k))) (some (.inr a.2))
noncomputable def q82 (b : Int) (c : Int) (d : qg→qg→Option Int) (a : Int × List qg) : Option ((Int × List qg) ⊕ (List qg)):=
  cond (decide (a.1 < b)) (((loop (q83 c d) (a.1,a.2)).bind fun f=>some f).bind fun g=>some (.inl (w64 (a.1 + 1),g))) (some (.inr a.2))
noncomputable def q81 (b : qg→qg→Option Int) (c : List qg) (a : Int) (d : Int) : Option (List qg):=
  (loop (q82 d a b) (w64 (a + 1),c)).bind fun f=>some f
noncomputable def q8l (d : Int) (b : Int) (f : qg→qg→Option Int) (a : Int × List qg) : Option ((Int × List qg) ⊕ (List qg)):=
  cond (decide ((w64 ((w64 (2 * a.1)) + 1)) ≥ d)) (some (.inr a.2)) ((cond (decide ((w64 ((w64 ((w64 (2 * a.1)) + 1)) + 1)) < d)) ((idx a.2 (w64 (b + (w64 ((w64 (2 * a.1)) + 1))))).bind fun h=>(idx a.2 (w64 ((w64 (b + (w64 ((w64 (2 * a.1)) + 1)))) + 1))).bind fun j=>(f h j).bind fun k=>some (decide (k < 0))) (some false)).bind fun l=>(cond l (some (w64 ((w64 ((w64 (2 * a.1)) + 1)) + 1))) (some (w64 ((w64 (2 * a.1)) + 1)))).bind fun c=>(idx a.2 (w64 (b + a.1))).bind fun m=>(idx a.2 (w64 (b + c))).bind fun n=>(f m n).bind fun o=>cond (!(decide (o < 0))) (some (.inr a.2)) ((idx a.2 (w64 (b + c))).bind fun g=>(idx a.2 (w64 (b + a.1))).bind fun p=>(idx a.2 (w64 (b + a.1))).bind fun _=>(idx (a.2.set (w64 (b + a.1)).toNat g) (w64 (b + c))).bind fun _=>some (.inl (c,(a.2.set (w64 (b + a.1)).toNat g).set (w64 (b + c)).toNat p))))
noncomputable def q5z (a : qg→qg→Option Int) (b : List qg) (c : Int) (d : Int) (f : Int) : Option (List qg):=
  (loop (q8l d f a) (c,b)).bind fun g=>some g
noncomputable def q7z (d : qg→qg→Option Int) (f : Int) (b : Int) (a : Int × List qg) : Option ((Int × List qg) ⊕ (List qg)):=
  cond (decide (a.1 ≥ 0)) ((q5z d a.2 a.1 (w64 (f - b)) b).bind fun c=>(Qj c.length a.2.length).bind fun _=>some (.inl (w64 (a.1 - 1),c))) (some (.inr a.2))
noncomputable def q80 (b : Int) (g : qg→qg→Option Int) (a : Int × List qg) : Option ((Int × List qg) ⊕ (List qg)):=
  cond (decide (a.1 ≥ 0)) ((idx a.2 (w64 (b + a.1))).bind fun c=>(idx a.2 b).bind fun d=>(idx a.2 b).bind fun _=>(idx (a.2.set b.toNat c) (w64 (b + a.1))).bind fun _=>(q5z g ((a.2.set b.toNat c).set (w64 (b + a.1)).toNat d) 0 a.1 b).bind fun f=>(Qj f.length ((a.2.set b.toNat c).set (w64 (b + a.1)).toNat d).length).bind fun _=>some (.inl (w64 (a.1 - 1),f))) (some (.inr a.2))
noncomputable def q7y (c : qg→qg→Option Int) (d : List qg) (a : Int) (b : Int) : Option (List qg):=
  (loop (q7z c b a) (w64 (Int.tdiv (w64 ((w64 (b - a)) - 1)) 2),d)).bind fun f=>(loop (q80 a c) (w64 ((w64 (b - a)) - 1),f)).bind fun g=>some g
noncomputable def q3d (f : qg→qg→Option Int) (c : List qg) (a : Int) (b : Int) (d : Int) : Option (Int × Int × Int):=
  (idx c b).bind fun g=>(idx c a).bind fun h=>(f g h).bind fun j=>cond (decide (j < 0)) (some (b,a,w64 (d + 1))) (some (a,b,d))
noncomputable def q5f (a : qg→qg→Option Int) (b : List qg) (g : Int) (h : Int) (j : Int) (k : Int) : Option (Int × Int):=
  (q3d a b g h k).bind fun c=>(q3d a b c.2.1 j c.2.2).bind fun d=>(q3d a b c.1 d.1 d.2.2).bind fun f=>some (f.2.1,f.2.2)
noncomputable def q3b (c : qg→qg→Option Int) (d : List qg) (a : Int) (f : Int) : Option (Int × Int):=
  (q5f c d (w64 (a - 1)) a (w64 (a + 1)) f).bind fun b=>some (b.1,b.2)
noncomputable def q7x (d : List qg) (a : Int) (b : Int) (f : qg→qg→Option Int) : Option (Int × Int):=
  (cond (decide ((w64 (b - a)) ≥ 8)) ((cond (decide ((w64 (b - a)) ≥ 50)) ((q3b f d (w64 (a + (w64 ((w64 (Int.tdiv (w64 (b - a)) 4)) * 1)))) 0).bind fun h=>(q3b f d (w64 (a + (w64 ((w64 (Int.tdiv (w64 (b - a)) 4)) * 2)))) h.2).bind fun j=>(q3b f d (w64 (a + (w64 ((w64 (Int.tdiv (w64 (b - a)) 4)) * 3)))) j.2).bind fun k=>some (h.1,j.1,k.1,k.2)) (some (w64 (a + (w64 ((w64 (Int.tdiv (w64 (b - a)) 4)) * 1))),w64 (a + (w64 ((w64 (Int.tdiv (w64 (b - a)) 4)) * 2))),w64 (a + (w64 ((w64 (Int.tdiv (w64 (b - a)) 4)) * 3))),0))).bind fun g=>(q5f f d g.1 g.2.1 g.2.2.1 g.2.2.2).bind fun l=>some (l.1,l.2)) (some (w64 (a + (w64 ((w64 (Int.tdiv (w64 (b - a)) 4)) * 2))),0))).bind fun c=>cond (c.2 == 0) (some (c.1,1)) (cond (c.2 == 12) (some (c.1,2)) (some (c.1,0)))
noncomputable def q8j (a : Int × Int × List qg) : Option ((Int × Int × List qg) ⊕ (List qg)):=
  cond (decide (a.1 < a.2.1)) ((idx a.2.2 a.2.1).bind fun b=>(idx a.2.2 a.1).bind fun c=>(idx a.2.2 a.1).bind fun _=>(idx (a.2.2.set a.1.toNat b) a.2.1).bind fun _=>some (.inl (w64 (a.1 + 1),w64 (a.2.1 - 1),(a.2.2.set a.1.toNat b).set a.2.1.toNat c))) (some (.inr a.2.2))
noncomputable def q8i (f : qg→qg→Option Int) (a : List qg) (b : Int) (c : Int) : Option (List qg):=
  (loop q8j (b,w64 (c - 1),a)).bind fun d=>some d
noncomputable def q84 (c : Int) (b : Int × Int × List qg) (d : qg→qg→Option Int) (a : Int) : Option ((Int) ⊕ (Int)):=
  (cond (decide (a < c)) ((idx b.2.2 a).bind fun f=>(idx b.2.2 (w64 (a - 1))).bind fun g=>(d f g).bind fun h=>some (!(decide (h < 0)))) (some false)).bind fun j=>cond j (some (.inl (w64 (a + 1)))) (some (.inr a))
noncomputable def q85 (c : qg→qg→Option Int) (a : Int × List qg) : Option ((Int × List qg) ⊕ (List qg)):=
  cond (decide (a.1 ≥ 1)) ((idx a.2 a.1).bind fun d=>(idx a.2 (w64 (a.1 - 1))).bind fun f=>(c d f).bind fun g=>cond (!(decide (g < 0))) (some (.inr a.2)) ((idx a.2 (w64 (a.1 - 1))).bind fun b=>(idx a.2 a.1).bind fun h=>(idx a.2 a.1).bind fun _=>(idx (a.2.set a.1.toNat b) (w64 (a.1 - 1))).bind fun _=>some (.inl (w64 (a.1 - 1),(a.2.set a.1.toNat b).set (w64 (a.1 - 1)).toNat h)))) (some (.inr a.2))
noncomputable def q86 (d : Int) (f : qg→qg→Option Int) (b : Int) (a : Int × List qg) : Option ((Int × List qg) ⊕ (Int × List qg)):=
  cond (decide (a.1 < d)) ((idx a.2 a.1).bind fun g=>(idx a.2 (w64 (a.1 - 1))).bind fun h=>(f g h).bind fun j=>cond (!(decide (j < 0))) (some (.inr (b,a.2))) ((idx a.2 (w64 (a.1 - 1))).bind fun c=>(idx a.2 a.1).bind fun k=>(idx a.2 a.1).bind fun _=>(idx (a.2.set a.1.toNat c) (w64 (a.1 - 1))).bind fun _=>some (.inl (w64 (a.1 + 1),(a.2.set a.1.toNat c).set (w64 (a.1 - 1)).toNat k)))) (some (.inr (b,a.2)))
noncomputable def q5h (c : Int) (d : qg→qg→Option Int) (h : Int) (b : Int × Int × List qg) : Option ((Int × Int × List qg) ⊕ ((List qg) ⊕ (Bool × List qg))):=
  cond (decide (b.2.1 < 5)) (((loop (q84 c b d) b.1).bind fun a=>cond (a == c) (some (.inr (true,b.2.2))) (cond (decide ((w64 (c - h)) < 50)) (some (.inr (false,b.2.2))) ((idx b.2.2 (w64 (a - 1))).bind fun f=>(idx b.2.2 a).bind fun j=>(idx b.2.2 a).bind fun _=>(idx (b.2.2.set a.toNat f) (w64 (a - 1))).bind fun _=>(cond (decide ((w64 (a - h)) ≥ 2)) ((loop (q85 d) (w64 (a - 1),(b.2.2.set a.toNat f).set (w64 (a - 1)).toNat j)).bind fun g=>some g) (some ((b.2.2.set a.toNat f).set (w64 (a - 1)).toNat j))).bind fun k=>cond (decide ((w64 (c - a)) ≥ 2)) ((loop (q86 c d a) (w64 (a + 1),k)).bind fun g=>some (.inl g)) (some (.inl (a,k))))) : Option ((Int × List qg) ⊕ (Bool × List qg))).bind fun m=>(match m with | .inl l=>some (.inl (l.1,w64 (b.2.1 + 1),l.2)) | .inr n=>some (.inr (.inr n)))) (some (.inr (.inl b.2.2)))
noncomputable def q5g (b : qg→qg→Option Int) (c : List qg) (a : Int) (d : Int) : Option (Bool × List qg):=
  (loop (q5h d b a) (w64 (a + 1),0,c) : Option ((List qg) ⊕ (Bool × List qg))).bind fun f=>(match f with | .inl g=>some (false,g) | .inr h=>some h)
noncomputable def q8g (b : Int × Int × List qg) (c : Int) (d : qg→qg→Option Int) (a : Int) : Option ((Int) ⊕ (Int)):=
  (cond (decide (a≤b.2.1)) ((idx b.2.2 c).bind fun f=>(idx b.2.2 a).bind fun g=>(d f g).bind fun h=>some (!(decide (h < 0)))) (some false)).bind fun j=>cond j (some (.inl (w64 (a + 1)))) (some (.inr a))
noncomputable def q8h (c : Int) (b : Int × Int × List qg) (d : Int) (f : qg→qg→Option Int) (a : Int) : Option ((Int) ⊕ (Int)):=
  (cond (decide (c≤a)) ((idx b.2.2 d).bind fun g=>(idx b.2.2 a).bind fun h=>(f g h).bind fun j=>some (decide (j < 0))) (some false)).bind fun k=>cond k (some (.inl (w64 (a - 1)))) (some (.inr a))
noncomputable def q8f (d : Int) (f : qg→qg→Option Int) (a : Int × Int × List qg) : Option ((Int × Int × List qg) ⊕ (Int × List qg)):=
  (loop (q8g a d f) a.1).bind fun b=>(loop (q8h b a d f) a.2.1).bind fun c=>cond (decide (b > c)) (some (.inr (b,a.2.2))) ((idx a.2.2 c).bind fun g=>(idx a.2.2 b).bind fun h=>(idx a.2.2 b).bind fun _=>(idx (a.2.2.set b.toNat g) c).bind fun _=>some (.inl (w64 (b + 1),w64 (c - 1),(a.2.2.set b.toNat g).set c.toNat h)))
noncomputable def q8e (g : qg→qg→Option Int) (b : List qg) (a : Int) (h : Int) (c : Int) : Option (Int × List qg):=
  (idx b c).bind fun d=>(idx b a).bind fun j=>(idx b a).bind fun _=>(idx (b.set a.toNat d) c).bind fun _=>(loop (q8f a g) (w64 (a + 1),w64 (h - 1),(b.set a.toNat d).set c.toNat j)).bind fun f=>some (f.1,f.2)
noncomputable def q89 (h : Int) (c : List qg) (b : Int) (d : qg) (f : Int) (g : qg) (j : qg→qg→Option Int) (a : Int) : Option ((Int) ⊕ (Int)):=
  (cond (decide (a≤(w64 (h - 1)))) ((idx ((c.set b.toNat d).set f.toNat g) a).bind fun k=>(idx ((c.set b.toNat d).set f.toNat g) b).bind fun l=>(j k l).bind fun m=>some (decide (m < 0))) (some false)).bind fun n=>cond n (some (.inl (w64 (a + 1)))) (some (.inr a))
noncomputable def q8a (h : Int) (c : List qg) (b : Int) (d : qg) (f : Int) (g : qg) (j : qg→qg→Option Int) (a : Int) : Option ((Int) ⊕ (Int)):=
  (cond (decide (h≤a)) ((idx ((c.set b.toNat d).set f.toNat g) a).bind fun k=>(idx ((c.set b.toNat d).set f.toNat g) b).bind fun l=>(j k l).bind fun m=>some (!(decide (m < 0)))) (some false)).bind fun n=>cond n (some (.inl (w64 (a - 1)))) (some (.inr a))
noncomputable def q8c (b : Int × Int × List qg) (c : Int) (d : qg→qg→Option Int) (a : Int) : Option ((Int) ⊕ (Int)):=
  (cond (decide (a≤b.2.1)) ((idx b.2.2 a).bind fun f=>(idx b.2.2 c).bind fun g=>(d f g).bind fun h=>some (decide (h < 0))) (some false)).bind fun j=>cond j (some (.inl (w64 (a + 1)))) (some (.inr a))
noncomputable def q8d (c : Int) (b : Int × Int × List qg) (d : Int) (f : qg→qg→Option Int) (a : Int) : Option ((Int) ⊕ (Int)):=
  (cond (decide (c≤a)) ((idx b.2.2 a).bind fun g=>(idx b.2.2 d).bind fun h=>(f g h).bind fun j=>some (!(decide (j < 0)))) (some false)).bind fun k=>cond k (some (.inl (w64 (a - 1)))) (some (.inr a))
noncomputable def q8b (d : Int) (f : qg→qg→Option Int) (a : Int × Int × List qg) : Option ((Int × Int × List qg) ⊕ (Int × List qg)):=
  (loop (q8c a d f) a.1).bind fun b=>(loop (q8d b a d f) a.2.1).bind fun c=>cond (decide (b > c)) (some (.inr (c,a.2.2))) ((idx a.2.2 c).bind fun g=>(idx a.2.2 b).bind fun h=>(idx a.2.2 b).bind fun _=>(idx (a.2.2.set b.toNat g) c).bind fun _=>some (.inl (w64 (b + 1),w64 (c - 1),(a.2.2.set b.toNat g).set c.toNat h)))
noncomputable def q88 (k : qg→qg→Option Int) (b : List qg) (a : Int) (l : Int) (c : Int) : Option (Int × Bool × List qg):=
  (idx b c).bind fun d=>(idx b a).bind fun f=>(idx b a).bind fun _=>(idx (b.set a.toNat d) c).bind fun _=>(loop (q89 l b a d c f k) (w64 (a + 1))).bind fun j=>(loop (q8a j b a d c f k) (w64 (l - 1))).bind fun g=>cond (decide (j > g)) ((idx ((b.set a.toNat d).set c.toNat f) a).bind fun m=>(idx ((b.set a.toNat d).set c.toNat f) g).bind fun p=>(idx ((b.set a.toNat d).set c.toNat f) g).bind fun _=>(idx (((b.set a.toNat d).set c.toNat f).set g.toNat m) a).bind fun _=>some (g,true,(((b.set a.toNat d).set c.toNat f).set g.toNat m).set a.toNat p)) ((idx ((b.set a.toNat d).set c.toNat f) g).bind fun n=>(idx ((b.set a.toNat d).set c.toNat f) j).bind fun q=>(idx ((b.set a.toNat d).set c.toNat f) j).bind fun _=>(idx (((b.set a.toNat d).set c.toNat f).set j.toNat n) g).bind fun _=>(loop (q8b a k) (w64 (j + 1),w64 (g - 1),(((b.set a.toNat d).set c.toNat f).set j.toNat n).set g.toNat q)).bind fun h=>(idx h.2 a).bind fun o=>(idx h.2 h.1).bind fun r=>(idx h.2 h.1).bind fun _=>(idx (h.2.set h.1.toNat o) a).bind fun _=>some (h.1,false,(h.2.set h.1.toNat o).set a.toNat r))
noncomputable def q7w (b : Int) (d : Int) (f : Int) (a : Int × List qg × Int) : Option ((Int × List qg × Int) ⊕ (List qg)):=
  cond (decide (a.1≤(w64 ((w64 (b + (w64 ((w64 (Int.tdiv (w64 (d - b)) 4)) * 2)))) + 1)))) ((Uw a.2.2).bind fun c=>(cond (decide ((w64 (andI .u64 c (IntKind.wrap .u64 (f - 1)))) ≥ (w64 (d - b)))) (some (w64 ((w64 (andI .u64 c (IntKind.wrap .u64 (f - 1)))) - (w64 (d - b))))) (some (w64 (andI .u64 c (IntKind.wrap .u64 (f - 1)))))).bind fun g=>(idx a.2.1 (w64 (b + g))).bind fun h=>(idx a.2.1 a.1).bind fun j=>(idx a.2.1 a.1).bind fun _=>(idx (a.2.1.set a.1.toNat h) (w64 (b + g))).bind fun _=>some (.inl (w64 (a.1 + 1),(a.2.1.set a.1.toNat h).set (w64 (b + g)).toNat j,c))) (some (.inr a.2.1))
noncomputable def q7v (g : qg→qg→Option Int) (c : List qg) (a : Int) (b : Int) : Option (List qg):=
  cond (decide ((w64 (b - a)) ≥ 8)) ((Uv (w64 (b - a))).bind fun d=>(loop (q7w a b d) (w64 ((w64 (a + (w64 ((w64 (Int.tdiv (w64 (b - a)) 4)) * 2)))) - 1),c,IntKind.wrap .u64 (w64 (b - a)))).bind fun f=>some f) (some c)
noncomputable def q5v (c : qg→qg→Option Int) (rec : List qg→Int→Int→Int→Option (List qg)) (a : Int × Int × Int × Bool × Bool × List qg) : Option ((Int × Int × Int × Bool × Bool × List qg) ⊕ (List qg)):=
  cond (decide ((w64 (a.2.1 - a.1))≤12)) ((q81 c a.2.2.2.2.2 a.1 a.2.1).bind fun l=>(Qj l.length a.2.2.2.2.2.length).bind fun _=>some (.inr l)) (cond (a.2.2.1 == 0) ((q7y c a.2.2.2.2.2 a.1 a.2.1).bind fun m=>(Qj m.length a.2.2.2.2.2.length).bind fun _=>some (.inr m)) ((cond (!a.2.2.2.1) ((q7v c a.2.2.2.2.2 a.1 a.2.1).bind fun n=>(Qj n.length a.2.2.2.2.2.length).bind fun _=>some (w64 (a.2.2.1 - 1),n)) (some (a.2.2.1,a.2.2.2.2.2))).bind fun d=>(q7x d.2 a.1 a.2.1 c).bind fun h=>(cond (h.2 == 2) ((q8i c d.2 a.1 a.2.1).bind fun o=>(Qj o.length d.2.length).bind fun _=>some (w64 ((w64 (a.2.1 - 1)) - (w64 (h.1 - a.1))),1,o)) (some (h.1,h.2,d.2))).bind fun f=>(cond a.2.2.2.1 (some a.2.2.2.2.1) (some false)).bind fun r=>(cond r (some (f.2.1 == 1)) (some false)).bind fun s=>(cond s ((q5g c f.2.2 a.1 a.2.1).bind fun j=>(Qj j.2.length f.2.2.length).bind fun _=>cond j.1 (some (.inr j.2)) (some (.inl j.2))) (some (.inl f.2.2)) : Option ((List qg) ⊕ (List qg))).bind fun t=>(match t with | .inl g=>(cond (decide (a.1 > 0)) ((idx g (w64 (a.1 - 1))).bind fun u=>(idx g f.1).bind fun v=>(c u v).bind fun w=>some (!(decide (w < 0)))) (some false)).bind fun x=>cond x ((q8e c g a.1 a.2.1 f.1).bind fun k=>(Qj k.2.length g.length).bind fun _=>some (.inl (k.1,a.2.1,d.1,a.2.2.2.1,a.2.2.2.2.1,k.2))) ((q88 c g a.1 a.2.1 f.1).bind fun b=>(Qj b.2.2.length g.length).bind fun _=>cond (decide ((w64 (b.1 - a.1)) < (w64 (a.2.1 - b.1)))) ((rec b.2.2 a.1 b.1 d.1).bind fun p=>(Qj p.length b.2.2.length).bind fun _=>some (.inl (w64 (b.1 + 1),a.2.1,d.1,decide ((w64 (b.1 - a.1)) ≥ (w64 (Int.tdiv (w64 (a.2.1 - a.1)) 8))),b.2.1,p))) ((rec b.2.2 (w64 (b.1 + 1)) a.2.1 d.1).bind fun q=>(Qj q.length b.2.2.length).bind fun _=>some (.inl (a.1,b.1,d.1,decide ((w64 (a.2.1 - b.1)) ≥ (w64 (Int.tdiv (w64 (a.2.1 - a.1)) 8))),b.2.1,q)))) | .inr y=>some (.inr y))))
noncomputable def q5w (rec : List qg→Int→Int→Int→Option (List qg)) (a : qg→qg→Option Int) (b : List qg) (c : Int) (d : Int) (f : Int) : Option (List qg):=
  (loop (q5v a rec) (c,d,f,true,true,b)).bind fun g=>some g
noncomputable def q5u : Nat→(qg→qg→Option Int)→List qg→Int→Int→Int→Option (List qg)
  | 0,_,_,_,_,_=>none
  | n + 1,a,b,c,d,f=>q5w (q5u n a) a b c d f
noncomputable def q55 (c : qg→qg→Option Int) (a : List qg) : Option (List qg):=
  (Jw (IntKind.wrap .u64 (a.length : Int))).bind fun d=>(lim (fun n=>q5u n c a 0 (a.length : Int) d)).bind fun b=>(Qj b.length a.length).bind fun _=>some b
noncomputable def qap (a : List qg) : Option (List qg):=
  some a
noncomputable def q3q (b : List qi) (c : Int × List qg) (a : Int × List qg) : Option ((Int × List qg) ⊕ (List qg)):=
  cond (decide (a.1 < (b.length : Int))) ((idx b a.1).bind fun d=>(app 24 a.2 [({at_:=d.Lo,list_:=c.1,by_:=1} : qg),({at_:=d.Hi,list_:=c.1,by_:=(-1)} : qg)]).bind fun f=>some (.inl (w64 (a.1 + 1),f))) (some (.inr a.2))
noncomputable def U3 (b : List (List qi)) (a : Int × List qg) : Option ((Int × List qg) ⊕ (List qg)):=
  cond (decide (a.1 < (b.length : Int))) (((idx b a.1).bind fun c=>(loop (q3q c a) (0,a.2)).bind fun d=>some d).bind fun f=>some (.inl (w64 (a.1 + 1),f))) (some (.inr a.2))
noncomputable def q8w (b : List (List qi)) : Option (List (List qi) × List qg):=
  (loop (U3 b) (0,[])).bind fun c=>(q55 (fun f g=>q8v f g) c).bind fun a=>(Qj a.length c.length).bind fun _=>(qap a).bind fun d=>(Qj d.length a.length).bind fun _=>some (b,d)
noncomputable def q8x (d : Int) (c : Bool) (b : Int) (a : List qi) : Option (Bool × Int × List qi):=
  (cond (!c) (some true) (some (b == d))).bind fun f=>cond f (some (c,b,a)) ((cond (decide ((a.length : Int) > 0)) ((idx a (w64 ((a.length : Int) - 1))).bind fun g=>some (g.Hi == b)) (some false)).bind fun h=>cond h ((idx a (w64 ((a.length : Int) - 1))).bind fun j=>some (c,b,a.set (w64 ((a.length : Int) - 1)).toNat ({Lo:=j.Lo,Hi:=d} : qi))) ((app 16 a [({Lo:=b,Hi:=d} : qi)]).bind fun k=>some (c,b,k)))
noncomputable def q3r (f : List (List qi) × List qg) (g : Bool→Bool→Option Bool) (a : Int × List Int × Int × Bool × List qi) : Option ((Int × List Int × Int × Bool × List qi) ⊕ (List qi)):=
  cond (decide (a.1 < (f.2.length : Int))) ((idx f.2 a.1).bind fun b=>((q8x b.at_ a.2.2.2.1 a.2.2.1 a.2.2.2.2).bind fun h=>(idxA 2 a.2.1 b.list_).bind fun c=>(idxA 2 a.2.1 b.list_).bind fun _=>(idxA 2 (a.2.1.set b.list_.toNat (w64 (c + b.by_))) 0).bind fun j=>(idxA 2 (a.2.1.set b.list_.toNat (w64 (c + b.by_))) 1).bind fun k=>(g (decide (j > 0)) (decide (k > 0))).bind fun l=>some (a.2.1.set b.list_.toNat (w64 (c + b.by_)),l,h.2.2)).bind fun d=>some (.inl (w64 (a.1 + 1),d.1,b.at_,d.2.1,d.2.2))) (some (.inr a.2.2.2.2))
noncomputable def q67 (a : List qi) (b : List qi) (d : Bool→Bool→Option Bool) : Option (List qi):=
  (q8w [a,b]).bind fun c=>(Qj c.1.length [a,b].length).bind fun _=>((loop (q3r c d) (0,[0,0],0,false,[])).bind fun f=>some f).bind fun g=>some g
noncomputable def q8u (a : Bool) (b : Bool) : Option Bool:=
  some a
noncomputable def q66 (a : List qi) : Option (List qi × Int):=
  cond (decide ((a.length : Int) > 400)) (some ([],4)) ((q7r a (fun b=>qaw b)).bind fun c=>cond c (some ([],8)) ((q67 a [] (fun b d=>q8u b d)).bind fun f=>some (f,0)))
noncomputable def qal (b : List qi) (f : List qi) (a : Int) : Option ((Int) ⊕ ((Unit) ⊕ (Bool))):=
  cond (decide (a < (b.length : Int))) ((idx b a).bind fun c=>(idx f a).bind fun d=>cond (!((c.Lo == d.Lo) && ((c.Hi == d.Hi) && true))) (some (.inr (.inr false))) (some (.inl (w64 (a + 1))))) (some (.inr (.inl ())))
noncomputable def q7t (a : List qi) (b : List qi) : Option Bool:=
  cond ((a.length : Int) != (b.length : Int)) (some false) ((loop (qal a b) 0 : Option ((Unit) ⊕ (Bool))).bind fun c=>(match c with | .inl _=>some true | .inr d=>some d))
noncomputable def q4z (c : Int) (a : Int × List qh) : Option ((Int × List qh) ⊕ (List qh)):=
  cond (decide (a.1 < (a.2.length : Int))) ((idx a.2 a.1).bind fun b=>some (.inl (w64 (a.1 + 1),a.2.set a.1.toNat ({X0:=b.X0,Y0:=b.Y0,X1:=c,Y1:=b.Y1} : qh)))) (some (.inr a.2))
noncomputable def q50 (b : List qi) (f : Int) (c : Int) (g : List qh) (a : Int × List qh) : Option ((Int × List qh) ⊕ (List qi × Int × Int × List qh)):=
  cond (decide (a.1 < (b.length : Int))) ((idx b a.1).bind fun d=>(app 32 a.2 [({X0:=f,Y0:=d.Lo,X1:=c,Y1:=d.Hi} : qh)]).bind fun h=>some (.inl (w64 (a.1 + 1),h))) (some (.inr (b,(g.length : Int),c,a.2)))
noncomputable def q7h (a : List qh) (d : List qi) (f : Int) (h : Int) (g : Int) (b : Int) (c : List qi) : Option (List qi × Int × Int × List qh):=
  (cond (decide ((c.length : Int) > 0)) (some (h == g)) (some false)).bind fun j=>(cond j ((q7t d c).bind fun k=>some k) (some false)).bind fun l=>cond l ((loop (q4z b) (f,a)).bind fun m=>some (d,f,b,m)) ((loop (q50 c g b a) (0,a)).bind fun n=>some n)
noncomputable def q1q (b : List qh) (a : Int × List Int) : Option ((Int × List Int) ⊕ (List Int)):=
  cond (decide (a.1 < (b.length : Int))) ((idx b a.1).bind fun c=>(app 8 a.2 [c.X0,c.X1]).bind fun d=>some (.inl (w64 (a.1 + 1),d))) (some (.inr a.2))
noncomputable def q35 (c : List qh) (d : Int) (a : Int × List qi) : Option ((Int × List qi) ⊕ (List qi)):=
  cond (decide (a.1 < (c.length : Int))) (((idx c a.1).bind fun b=>(cond (decide (b.X0≤d)) (some (decide (d < b.X1))) (some false)).bind fun f=>cond f ((app 16 a.2 [({Lo:=b.Y0,Hi:=b.Y1} : qi)]).bind fun g=>some g) (some a.2)).bind fun h=>some (.inl (w64 (a.1 + 1),h))) (some (.inr a.2))
noncomputable def q1r (d : List Int) (g : List qh) (a : Int × List qi × Int × Int × List qh) : Option ((Int × List qi × Int × Int × List qh) ⊕ (List qi × Int × Int × List qh)):=
  cond (decide (a.1 < (d.length : Int))) ((idx d (w64 (a.1 - 1))).bind fun f=>(idx d a.1).bind fun h=>((idx [g] 0).bind fun j=>(loop (q35 j f) (0,[])).bind fun k=>some k).bind fun l=>((q66 l).bind fun m=>(q7h a.2.2.2.2 a.2.1 a.2.2.1 a.2.2.2.1 f h m.1).bind fun b=>some (b.1,b.2.1,b.2.2.1,b.2.2.2)).bind fun c=>some (.inl (w64 (a.1 + 1),c.1,c.2.1,c.2.2.1,c.2.2.2))) (some (.inr (a.2.1,a.2.2.1,a.2.2.2.1,a.2.2.2.2)))
noncomputable def q7i (d : List qh) : Option (List qh × Int):=
  (((idx [d] 0).bind fun j=>(loop (q1q j) (0,[])).bind fun b=>some b).bind fun f=>(U2 f).bind fun c=>(Qj c.length f.length).bind fun _=>(q1v c).bind fun a=>(Qj a.2.length c.length).bind fun _=>(q24 a.2.length a.1).bind fun _=>some ((a.2.drop a.1.1).take a.1.2)).bind fun k=>((loop (q1r k d) (1,[],0,0,[])).bind fun b=>some b).bind fun g=>(cond (decide ((g.2.2.2.length : Int) > 400)) (some (4,[])) (some (0,g.2.2.2))).bind fun h=>some (h.2,h.1)
noncomputable def q4y (a : List qh) : Option (List qh × Int):=
  cond (decide ((a.length : Int) > 400)) (some ([],4)) ((q7p a (fun c=>q1o c)).bind fun d=>cond d (some ([],8)) ((q7i a).bind fun b=>some (b.1,b.2)))
noncomputable def qaj (d : List qh) (f : List qh) (a : Int) : Option ((Int) ⊕ ((Unit) ⊕ (Bool))):=
  cond (decide (a < (d.length : Int))) ((idx d a).bind fun b=>(idx f a).bind fun c=>cond (!((b.X0 == c.X0) && ((b.Y0 == c.Y0) && ((b.X1 == c.X1) && ((b.Y1 == c.Y1) && true))))) (some (.inr (.inr false))) (some (.inl (w64 (a + 1))))) (some (.inr (.inl ())))
noncomputable def q7s (a : List qh) (b : List qh) : Option Bool:=
  cond ((a.length : Int) != (b.length : Int)) (some false) ((loop (qaj a b) 0 : Option ((Unit) ⊕ (Bool))).bind fun c=>(match c with | .inl _=>some true | .inr d=>some d))
noncomputable def q61 (c : Int) (a : Int × List qd) : Option ((Int × List qd) ⊕ (List qd)):=
  cond (decide (a.1 < (a.2.length : Int))) ((idx a.2 a.1).bind fun b=>some (.inl (w64 (a.1 + 1),a.2.set a.1.toNat ({Lo:=b.Lo,Hi:=({X:=b.Hi.X,Y:=b.Hi.Y,Z:=c} : ql)} : qd)))) (some (.inr a.2))
noncomputable def q62 (c : List qh) (f : Int) (d : Int) (g : List qd) (a : Int × List qd) : Option ((Int × List qd) ⊕ (List qh × Int × Int × List qd)):=
  cond (decide (a.1 < (c.length : Int))) ((idx c a.1).bind fun b=>(app 48 a.2 [({Lo:=({X:=b.X0,Y:=b.Y0,Z:=f} : ql),Hi:=({X:=b.X1,Y:=b.Y1,Z:=d} : ql)} : qd)]).bind fun h=>some (.inl (w64 (a.1 + 1),h))) (some (.inr (c,(g.length : Int),d,a.2)))
noncomputable def q8r (a : List qd) (d : List qh) (f : Int) (h : Int) (g : Int) (b : Int) (c : List qh) : Option (List qh × Int × Int × List qd):=
  (cond (decide ((c.length : Int) > 0)) (some (h == g)) (some false)).bind fun j=>(cond j ((q7s d c).bind fun k=>some k) (some false)).bind fun l=>cond l ((loop (q61 b) (f,a)).bind fun m=>some (d,f,b,m)) ((loop (q62 c g b a) (0,a)).bind fun n=>some n)
noncomputable def q3n (b : List qd) (a : Int × List Int) : Option ((Int × List Int) ⊕ (List Int)):=
  cond (decide (a.1 < (b.length : Int))) ((idx b a.1).bind fun c=>(app 8 a.2 [c.Lo.Z,c.Hi.Z]).bind fun d=>some (.inl (w64 (a.1 + 1),d))) (some (.inr a.2))
noncomputable def q22 (c : List qd) (d : Int) (a : Int × List qh) : Option ((Int × List qh) ⊕ (List qh)):=
  cond (decide (a.1 < (c.length : Int))) (((idx c a.1).bind fun b=>(cond (decide (b.Lo.Z≤d)) (some (decide (d < b.Hi.Z))) (some false)).bind fun f=>cond f ((app 32 a.2 [({X0:=b.Lo.X,Y0:=b.Lo.Y,X1:=b.Hi.X,Y1:=b.Hi.Y} : qh)]).bind fun g=>some g) (some a.2)).bind fun h=>some (.inl (w64 (a.1 + 1),h))) (some (.inr a.2))
noncomputable def q3o (d : List Int) (h : List qd) (a : Int × List qh × Int × Int × List qd) : Option ((Int × List qh × Int × Int × List qd) ⊕ ((List qh × Int × Int × List qd) ⊕ (List qd × Int))):=
  cond (decide (a.1 < (d.length : Int))) ((idx d (w64 (a.1 - 1))).bind fun g=>(idx d a.1).bind fun j=>((idx [h] 0).bind fun k=>(loop (q22 k g) (0,[])).bind fun l=>some l).bind fun m=>((q4y m).bind fun f=>cond (f.2 != 0) (some (.inr ([],f.2))) ((q8r a.2.2.2.2 a.2.1 a.2.2.1 a.2.2.2.1 g j f.1).bind fun b=>some (.inl (b.1,b.2.1,b.2.2.1,b.2.2.2))) : Option ((List qh × Int × Int × List qd) ⊕ (List qd × Int))).bind fun n=>(match n with | .inl c=>some (.inl (w64 (a.1 + 1),c.1,c.2.1,c.2.2.1,c.2.2.2)) | .inr o=>some (.inr (.inr o)))) (some (.inr (.inl (a.2.1,a.2.2.1,a.2.2.2.1,a.2.2.2.2))))
noncomputable def q65 (f : List qd) : Option (List qd × Int):=
  (((idx [f] 0).bind fun j=>(loop (q3n j) (0,[])).bind fun b=>some b).bind fun g=>(U2 g).bind fun c=>(Qj c.length g.length).bind fun _=>(q1v c).bind fun a=>(Qj a.2.length c.length).bind fun _=>(q24 a.2.length a.1).bind fun _=>some ((a.2.drop a.1.1).take a.1.2)).bind fun k=>((loop (q3o k f) (1,[],0,0,[]) : Option ((List qh × Int × Int × List qd) ⊕ (List qd × Int))).bind fun l=>(match l with | .inl b=>some (.inl b) | .inr d=>some (.inr d)) : Option ((List qh × Int × Int × List qd) ⊕ (List qd × Int))).bind fun m=>(match m with | .inl h=>cond (decide ((h.2.2.2.length : Int) > 400)) (some ([],4)) (some (h.2.2.2,0)) | .inr d=>some d)
noncomputable def q8n (a : List qd) : Option (List qd × Int):=
  cond (decide ((a.length : Int) > 400)) (some ([],4)) ((q7o a (fun c=>q21 c)).bind fun d=>cond d (some ([],8)) ((q65 a).bind fun b=>some (b.1,b.2)))
noncomputable def Uo (a : ql) (b : Int) : Option Bool:=
  (cond (decide (a.X ≥ b)) (some (decide (a.Y ≥ b))) (some false)).bind fun c=>(cond c (some (decide (a.Z ≥ b))) (some false)).bind fun d=>(cond d (some (decide (a.X≤1000000))) (some false)).bind fun f=>(cond f (some (decide (a.Y≤1000000))) (some false)).bind fun g=>(cond g (some (decide (a.Z≤1000000))) (some false)).bind fun h=>some h
noncomputable def q34 (a : qd) : Option Bool:=
  (Uo a.Lo (-1000000)).bind fun b=>(cond b ((Uo a.Hi (-1000000)).bind fun c=>some c) (some false)).bind fun d=>(cond d (some (decide (a.Lo.X < a.Hi.X))) (some false)).bind fun f=>(cond f (some (decide (a.Lo.Y < a.Hi.Y))) (some false)).bind fun g=>(cond g (some (decide (a.Lo.Z < a.Hi.Z))) (some false)).bind fun h=>some h
noncomputable def q2o (b : Int × List Int) (c : List Int) (a : Int) : Option ((Int) ⊕ (Int)):=
  (cond (decide (a > 0)) ((idx b.2 (w64 (a - 1))).bind fun d=>(idx c b.1).bind fun f=>some (decide (d > f))) (some false)).bind fun g=>cond g (some (.inl (w64 (a - 1)))) (some (.inr a))
noncomputable def q2n (d : List Int) (a : Int × List Int) : Option ((Int × List Int) ⊕ (List Int)):=
  cond (decide (a.1 < (d.length : Int))) (((loop (q2o a d) (a.2.length : Int)).bind fun c=>(cond (decide (c > 0)) ((idx a.2 (w64 (c - 1))).bind fun h=>(idx d a.1).bind fun j=>some (h == j)) (some false)).bind fun k=>cond k (some a.2) ((app 8 a.2 [0]).bind fun b=>(sub2 b.length (w64 (c + 1)) b.length).bind fun g=>(sub2 b.length c b.length).bind fun f=>(idx d a.1).bind fun l=>(idx (cpyw b g ((b.drop f.1).take f.2)) c).bind fun _=>some ((cpyw b g ((b.drop f.1).take f.2)).set c.toNat l))).bind fun m=>some (.inl (w64 (a.1 + 1),m))) (some (.inr a.2))
noncomputable def Zz (a : List Int) : Option (List Int):=
  (loop (q2n a) (0,[])).bind fun b=>some b
noncomputable def q2y (b : List qd) (a : Int × List Int) : Option ((Int × List Int) ⊕ (List Int)):=
  cond (decide (a.1 < (b.length : Int))) ((idx b a.1).bind fun c=>(idx b a.1).bind fun d=>(app 8 a.2 [c.Lo.Z,d.Hi.Z]).bind fun f=>some (.inl (w64 (a.1 + 1),f))) (some (.inr a.2))
noncomputable def q2z (b : List qd) (a : Int × List Int) : Option ((Int × List Int) ⊕ (List Int)):=
  cond (decide (a.1 < (b.length : Int))) ((idx b a.1).bind fun c=>(idx b a.1).bind fun d=>(app 8 a.2 [c.Lo.Z,d.Hi.Z]).bind fun f=>some (.inl (w64 (a.1 + 1),f))) (some (.inr a.2))
noncomputable def q78 (a : List qd) (b : List qd) : Option (List Int):=
  (loop (q2y a) (0,[])).bind fun c=>(loop (q2z b) (0,c)).bind fun d=>(Zz d).bind fun f=>some f
noncomputable def q4s (b : List qd) (c : Int) (a : Int × List qh) : Option ((Int × List qh) ⊕ (List qh)):=
  cond (decide (a.1 < (b.length : Int))) (((idx b a.1).bind fun d=>(cond (decide (d.Lo.Z≤c)) ((idx b a.1).bind fun f=>some (decide (c < f.Hi.Z))) (some false)).bind fun g=>cond g ((idx b a.1).bind fun h=>(idx b a.1).bind fun j=>(idx b a.1).bind fun k=>(idx b a.1).bind fun l=>(app 32 a.2 [({X0:=h.Lo.X,Y0:=j.Lo.Y,X1:=k.Hi.X,Y1:=l.Hi.Y} : qh)]).bind fun m=>some m) (some a.2)).bind fun n=>some (.inl (w64 (a.1 + 1),n))) (some (.inr a.2))
noncomputable def Zi (a : List qd) (b : Int) : Option (List qh):=
  (loop (q4s a b) (0,[])).bind fun c=>some c
noncomputable def q2t (b : List qh) (a : Int × List Int) : Option ((Int × List Int) ⊕ (List Int)):=
  cond (decide (a.1 < (b.length : Int))) ((idx b a.1).bind fun c=>(idx b a.1).bind fun d=>(app 8 a.2 [c.X0,d.X1]).bind fun f=>some (.inl (w64 (a.1 + 1),f))) (some (.inr a.2))
noncomputable def q2u (b : List qh) (a : Int × List Int) : Option ((Int × List Int) ⊕ (List Int)):=
  cond (decide (a.1 < (b.length : Int))) ((idx b a.1).bind fun c=>(idx b a.1).bind fun d=>(app 8 a.2 [c.X0,d.X1]).bind fun f=>some (.inl (w64 (a.1 + 1),f))) (some (.inr a.2))
noncomputable def q71 (a : List qh) (b : List qh) : Option (List Int):=
  (loop (q2t a) (0,[])).bind fun c=>(loop (q2u b) (0,c)).bind fun d=>(Zz d).bind fun f=>some f
noncomputable def q2v (b : List qh) (a : Int × List Int) : Option ((Int × List Int) ⊕ (List Int)):=
  cond (decide (a.1 < (b.length : Int))) ((idx b a.1).bind fun c=>(idx b a.1).bind fun d=>(app 8 a.2 [c.Y0,d.Y1]).bind fun f=>some (.inl (w64 (a.1 + 1),f))) (some (.inr a.2))
noncomputable def q2w (b : List qh) (a : Int × List Int) : Option ((Int × List Int) ⊕ (List Int)):=
  cond (decide (a.1 < (b.length : Int))) ((idx b a.1).bind fun c=>(idx b a.1).bind fun d=>(app 8 a.2 [c.Y0,d.Y1]).bind fun f=>some (.inl (w64 (a.1 + 1),f))) (some (.inr a.2))
noncomputable def q72 (a : List qh) (b : List qh) : Option (List Int):=
  (loop (q2v a) (0,[])).bind fun c=>(loop (q2w b) (0,c)).bind fun d=>(Zz d).bind fun f=>some f
noncomputable def q1j (b : List qh) (c : Int) (d : Int) (a : Int) : Option ((Int) ⊕ ((Unit) ⊕ (Bool))):=
  cond (decide (a < (b.length : Int))) ((idx b a).bind fun f=>(cond (decide (f.X0≤c)) ((idx b a).bind fun g=>some (decide (c < g.X1))) (some false)).bind fun h=>(cond h ((idx b a).bind fun j=>some (decide (j.Y0≤d))) (some false)).bind fun k=>(cond k ((idx b a).bind fun l=>some (decide (d < l.Y1))) (some false)).bind fun m=>cond m (some (.inr (.inr true))) (some (.inl (w64 (a + 1))))) (some (.inr (.inl ())))
noncomputable def q4n (a : List qh) (b : Int) (c : Int) : Option Bool:=
  (loop (q1j a b c) 0 : Option ((Unit) ⊕ (Bool))).bind fun d=>(match d with | .inl _=>some false | .inr f=>some f)
noncomputable def q4l (c : Int) (a : Bool) (b : Bool) : Option Bool:=
  cond (c == 1) ((cond a (some b) (some false)).bind fun d=>some d) (cond (c == 2) ((cond a (some true) (some b)).bind fun f=>some f) ((cond a (some (!b)) (some false)).bind fun g=>some g))
noncomputable def q2m (b : List Int) (c : List Bool) (a : Int × List qi) : Option ((Int × List qi) ⊕ (List qi)):=
  cond (decide ((w64 (a.1 + 1)) < (b.length : Int))) (((idx c a.1).bind fun d=>cond (!d) (some a.2) ((cond (decide ((a.2.length : Int) > 0)) ((idx a.2 (w64 ((a.2.length : Int) - 1))).bind fun f=>(idx b a.1).bind fun g=>some (f.Hi == g)) (some false)).bind fun h=>cond h ((idx b (w64 (a.1 + 1))).bind fun j=>(idx a.2 (w64 ((a.2.length : Int) - 1))).bind fun k=>some (a.2.set (w64 ((a.2.length : Int) - 1)).toNat ({Lo:=k.Lo,Hi:=j} : qi))) ((idx b a.1).bind fun l=>(idx b (w64 (a.1 + 1))).bind fun m=>(app 16 a.2 [({Lo:=l,Hi:=m} : qi)]).bind fun n=>some n))).bind fun o=>some (.inl (w64 (a.1 + 1),o))) (some (.inr a.2))
noncomputable def q2l (a : List Int) (b : List Bool) : Option (List qi):=
  (loop (q2m a b) (0,[])).bind fun c=>some c
noncomputable def qa8 (b : List qi) (f : List qi) (a : Int) : Option ((Int) ⊕ ((Unit) ⊕ (Bool))):=
  cond (decide (a < (b.length : Int))) ((idx b a).bind fun c=>(idx f a).bind fun d=>cond (!((c.Lo == d.Lo) && ((c.Hi == d.Hi) && true))) (some (.inr (.inr false))) (some (.inl (w64 (a + 1))))) (some (.inr (.inl ())))
noncomputable def q4m (a : List qi) (b : List qi) : Option Bool:=
  cond ((a.length : Int) != (b.length : Int)) (some false) ((loop (qa8 a b) 0 : Option ((Unit) ⊕ (Bool))).bind fun c=>(match c with | .inl _=>some true | .inr d=>some d))
noncomputable def q2p (b : List Int) (c : List Int) (d : List qi × Int × Int × List qh) (f : List qh) (g : List qh) (h : Int) (a : Int × List Bool) : Option ((Int × List Bool) ⊕ (List Bool)):=
  cond (decide (a.1 < (b.length : Int))) ((idx c d.2.2.1).bind fun j=>(idx b a.1).bind fun k=>(q4n f j k).bind fun l=>(idx c d.2.2.1).bind fun m=>(idx b a.1).bind fun n=>(q4n g m n).bind fun o=>(q4l h l o).bind fun p=>(app 1 a.2 [p]).bind fun q=>some (.inl (w64 (a.1 + 1),q))) (some (.inr a.2))
noncomputable def q2q (c : List Int) (d : List qi × Int × Int × List qh) (a : Int × List qh) : Option ((Int × List qh) ⊕ (List qh)):=
  cond (decide (a.1 < (a.2.length : Int))) ((idx c (w64 (d.2.2.1 + 1))).bind fun f=>(idx a.2 a.1).bind fun b=>some (.inl (w64 (a.1 + 1),a.2.set a.1.toNat ({X0:=b.X0,Y0:=b.Y0,X1:=f,Y1:=b.Y1} : qh)))) (some (.inr a.2))
noncomputable def q4o (b : List qi) (d : List Int) (c : List qi × Int × Int × List qh) (a : Int × List qh) : Option ((Int × List qh) ⊕ (List qi × Int × List qh)):=
  cond (decide (a.1 < (b.length : Int))) ((idx d c.2.2.1).bind fun f=>(idx b a.1).bind fun g=>(idx d (w64 (c.2.2.1 + 1))).bind fun h=>(idx b a.1).bind fun j=>(app 32 a.2 [({X0:=f,Y0:=g.Lo,X1:=h,Y1:=j.Hi} : qh)]).bind fun k=>some (.inl (w64 (a.1 + 1),k))) (some (.inr (b,(c.2.2.2.length : Int),a.2)))
noncomputable def q1k (b : List Int) (d : List Int) (g : List qh) (h : List qh) (j : Int) (a : List qi × Int × Int × List qh) : Option ((List qi × Int × Int × List qh) ⊕ (List qh)):=
  cond (decide ((w64 (a.2.2.1 + 1)) < (b.length : Int))) (((loop (q2p d b a g h j) (0,[])).bind fun k=>(q2l d k).bind fun f=>(cond (decide (a.2.2.1 > 0)) ((q4m f a.1).bind fun l=>some l) (some false)).bind fun m=>cond m ((loop (q2q b a) (a.2.1,a.2.2.2)).bind fun n=>some (a.1,a.2.1,n)) ((loop (q4o f b a) (0,a.2.2.2)).bind fun o=>some o)).bind fun c=>some (.inl (c.1,c.2.1,w64 (a.2.2.1 + 1),c.2.2))) (some (.inr a.2.2.2))
noncomputable def Z7 (c : Int) (a : List qh) (b : List qh) : Option (List qh):=
  (q71 a b).bind fun d=>(q72 a b).bind fun f=>(loop (q1k d f a b c) ([],0,0,[])).bind fun g=>some g
noncomputable def qaa (d : List qh) (f : List qh) (a : Int) : Option ((Int) ⊕ ((Unit) ⊕ (Bool))):=
  cond (decide (a < (d.length : Int))) ((idx d a).bind fun b=>(idx f a).bind fun c=>cond (!((b.X0 == c.X0) && ((b.Y0 == c.Y0) && ((b.X1 == c.X1) && ((b.Y1 == c.Y1) && true))))) (some (.inr (.inr false))) (some (.inl (w64 (a + 1))))) (some (.inr (.inl ())))
noncomputable def q2s (a : List qh) (b : List qh) : Option Bool:=
  cond ((a.length : Int) != (b.length : Int)) (some false) ((loop (qaa a b) 0 : Option ((Unit) ⊕ (Bool))).bind fun c=>(match c with | .inl _=>some true | .inr d=>some d))
noncomputable def q31 (c : List Int) (d : List qh × Int × Int × List qd) (a : Int × List qd) : Option ((Int × List qd) ⊕ (List qd)):=
  cond (decide (a.1 < (a.2.length : Int))) ((idx c (w64 (d.2.2.1 + 1))).bind fun f=>(idx a.2 a.1).bind fun b=>some (.inl (w64 (a.1 + 1),a.2.set a.1.toNat ({Lo:=b.Lo,Hi:=({X:=b.Hi.X,Y:=b.Hi.Y,Z:=f} : ql)} : qd)))) (some (.inr a.2))
noncomputable def q4v (b : List qh) (d : List Int) (c : List qh × Int × Int × List qd) (a : Int × List qd) : Option ((Int × List qd) ⊕ (List qh × Int × List qd)):=
  cond (decide (a.1 < (b.length : Int))) ((idx b a.1).bind fun f=>(idx b a.1).bind fun g=>(idx d c.2.2.1).bind fun h=>(idx b a.1).bind fun j=>(idx b a.1).bind fun k=>(idx d (w64 (c.2.2.1 + 1))).bind fun l=>(app 48 a.2 [({Lo:=({X:=f.X0,Y:=g.Y0,Z:=h} : ql),Hi:=({X:=j.X1,Y:=k.Y1,Z:=l} : ql)} : qd)]).bind fun m=>some (.inl (w64 (a.1 + 1),m))) (some (.inr (b,(c.2.2.2.length : Int),a.2)))
noncomputable def Up (b : List Int) (f : List qd) (g : List qd) (h : Int) (a : List qh × Int × Int × List qd) : Option ((List qh × Int × Int × List qd) ⊕ ((List qd) ⊕ (List qd × Bool))):=
  cond (decide ((w64 (a.2.2.1 + 1)) < (b.length : Int))) (((idx b a.2.2.1).bind fun j=>(Zi f j).bind fun k=>(idx b a.2.2.1).bind fun l=>(Zi g l).bind fun m=>(Z7 h k m).bind fun c=>(cond (decide ((c.length : Int) > 400)) (some true) ((idx b a.2.2.1).bind fun n=>(Zi f n).bind fun o=>(Z7 2 o []).bind fun p=>some (decide ((p.length : Int) > 400)))).bind fun q=>(cond q (some true) ((idx b a.2.2.1).bind fun r=>(Zi g r).bind fun s=>(Z7 2 s []).bind fun t=>some (decide ((t.length : Int) > 400)))).bind fun u=>cond u (some (.inr ([],false))) ((cond (decide (a.2.2.1 > 0)) ((q2s c a.1).bind fun v=>some v) (some false)).bind fun w=>cond w ((loop (q31 b a) (a.2.1,a.2.2.2)).bind fun x=>some (.inl (a.1,a.2.1,x))) ((loop (q4v c b a) (0,a.2.2.2)).bind fun y=>some (.inl y))) : Option ((List qh × Int × List qd) ⊕ (List qd × Bool))).bind fun z=>(match z with | .inl d=>some (.inl (d.1,d.2.1,w64 (a.2.2.1 + 1),d.2.2)) | .inr x1=>some (.inr (.inr x1)))) (some (.inr (.inl a.2.2.2)))
noncomputable def q1m (d : Int) (a : List qd) (b : List qd) : Option (List qd × Bool):=
  (q78 a b).bind fun f=>(loop (Up f a b d) ([],0,0,[]) : Option ((List qd) ⊕ (List qd × Bool))).bind fun g=>(match g with | .inl c=>some (c,decide ((c.length : Int)≤400)) | .inr h=>some h)
noncomputable def q4w (b : List qd) (a : Int) : Option ((Int) ⊕ ((Unit) ⊕ (List qd × Int))):=
  cond (decide (a < (b.length : Int))) ((idx b a).bind fun c=>(q34 c).bind fun d=>cond (!d) (some (.inr (.inr ([],8)))) (some (.inl (w64 (a + 1))))) (some (.inr (.inl ())))
noncomputable def q7b (a : List qd) : Option (List qd × Int):=
  cond (decide ((a.length : Int) > 400)) (some ([],4)) ((loop (q4w a) 0 : Option ((Unit) ⊕ (List qd × Int))).bind fun c=>(match c with | .inl _=>(q1m 2 a []).bind fun b=>cond (!b.2) (some ([],4)) (some (b.1,0)) | .inr d=>some d))
noncomputable def q3a (b : List qd) (c : qd→Option Bool) (a : Int) : Option ((Int) ⊕ ((Unit) ⊕ (Int))):=
  cond (decide (a < (b.length : Int))) ((idx b a).bind fun d=>(c d).bind fun f=>cond f (some (.inr (.inr a))) (some (.inl (w64 (a + 1))))) (some (.inr (.inl ())))
noncomputable def qao (a : List qd) (b : qd→Option Bool) : Option Int:=
  (loop (q3a a b) 0 : Option ((Unit) ⊕ (Int))).bind fun c=>(match c with | .inl _=>some (-1) | .inr d=>some d)
noncomputable def q7q (a : List qd) (b : qd→Option Bool) : Option Bool:=
  (qao a b).bind fun c=>some (decide (c ≥ 0))
noncomputable def q20 (a : qd) : Option Bool:=
  (q64 a).bind fun b=>some (!b)
noncomputable def qdx (d : List qd) (f : List qd) (c : Int) : Option ((Int) ⊕ ((Unit) ⊕ (Bool))):=
  cond (decide (c < (d.length : Int))) ((idx d c).bind fun a=>(idx f c).bind fun b=>cond (!((a.Lo.X == b.Lo.X) && ((a.Lo.Y == b.Lo.Y) && ((a.Lo.Z == b.Lo.Z) && ((a.Hi.X == b.Hi.X) && ((a.Hi.Y == b.Hi.Y) && ((a.Hi.Z == b.Hi.Z) && true))))))) (some (.inr (.inr false))) (some (.inl (w64 (c + 1))))) (some (.inr (.inl ())))
noncomputable def qak (a : List qd) (b : List qd) : Option Bool:=
  cond ((a.length : Int) != (b.length : Int)) (some false) ((loop (qdx a b) 0 : Option ((Unit) ⊕ (Bool))).bind fun c=>(match c with | .inl _=>some true | .inr d=>some d))
noncomputable def q1z (a : List qd) : Option Int:=
  cond (decide ((a.length : Int) > 400)) (some 4) ((q7q a (fun c=>q20 c)).bind fun d=>cond d (some 8) ((q65 a).bind fun b=>(cond (b.2 != 0) (some true) ((qak b.1 a).bind fun f=>some (!f))).bind fun g=>cond g (some 8) (some 0)))
noncomputable def qau (a : qd) : Option (Int × Int × Int):=
  some (w64 (a.Hi.X - a.Lo.X),w64 (a.Hi.Y - a.Lo.Y),w64 (a.Hi.Z - a.Lo.Z))
noncomputable def qae (d : List qd) (f : List qd) (c : Int) : Option ((Int) ⊕ ((Unit) ⊕ (Bool))):=
  cond (decide (c < (d.length : Int))) ((idx d c).bind fun a=>(idx f c).bind fun b=>cond (!((a.Lo.X == b.Lo.X) && ((a.Lo.Y == b.Lo.Y) && ((a.Lo.Z == b.Lo.Z) && ((a.Hi.X == b.Hi.X) && ((a.Hi.Y == b.Hi.Y) && ((a.Hi.Z == b.Hi.Z) && true))))))) (some (.inr (.inr false))) (some (.inl (w64 (c + 1))))) (some (.inr (.inl ())))
noncomputable def q7e (a : List qd) (b : List qd) : Option Bool:=
  cond ((a.length : Int) != (b.length : Int)) (some false) ((loop (qae a b) 0 : Option ((Unit) ⊕ (Bool))).bind fun c=>(match c with | .inl _=>some true | .inr d=>some d))
noncomputable def q4t (b : List qd) (a : Int) : Option ((Int) ⊕ ((Unit) ⊕ (Int))):=
  cond (decide (a < (b.length : Int))) ((idx b a).bind fun c=>(q34 c).bind fun d=>cond (!d) (some (.inr (.inr 8))) (some (.inl (w64 (a + 1))))) (some (.inr (.inl ())))
noncomputable def J0 (a : List qd) : Option Int:=
  cond (decide ((a.length : Int) > 400)) (some 4) ((loop (q4t a) 0 : Option ((Unit) ⊕ (Int))).bind fun c=>(match c with | .inl _=>(q1m 2 a []).bind fun b=>(cond (!b.2) (some true) ((q7e b.1 a).bind fun d=>some (!d))).bind fun f=>cond f (some 8) (some 0) | .inr g=>some g))
noncomputable def q3p (b : List qi) (a : Int) : Option ((Int) ⊕ ((Unit) ⊕ (Int))):=
  cond (decide (a < (b.length : Int))) ((idx b a).bind fun c=>(q23 c).bind fun d=>(cond (!d) (some true) ((cond (decide (a > 0)) ((idx b (w64 (a - 1))).bind fun f=>some (decide (f.Hi ≥ c.Lo))) (some false)).bind fun g=>some g)).bind fun h=>cond h (some (.inr (.inr 8))) (some (.inl (w64 (a + 1))))) (some (.inr (.inl ())))
noncomputable def qav (a : List qi) : Option Int:=
  cond (decide ((a.length : Int) > 400)) (some 4) ((loop (q3p a) 0 : Option ((Unit) ⊕ (Int))).bind fun b=>(match b with | .inl _=>some 0 | .inr c=>some c))
structure Qx where
  Turn : Int
  At : ql
  deriving DecidableEq
noncomputable def q3j (c : List qd) (a : Int × Int × Int × Int × Int × Int × Int) : Option ((Int × Int × Int × Int × Int × Int × Int) ⊕ (Int × Int × Int × Int × Int × Int)):=
  cond (decide (a.1 < (c.length : Int))) ((idx c a.1).bind fun b=>some (.inl (w64 (a.1 + 1),min a.2.1 b.Lo.X,min a.2.2.1 b.Lo.Y,min a.2.2.2.1 b.Lo.Z,max a.2.2.2.2.1 b.Hi.X,max a.2.2.2.2.2.1 b.Hi.Y,max a.2.2.2.2.2.2 b.Hi.Z))) (some (.inr (a.2.1,a.2.2.1,a.2.2.2.1,a.2.2.2.2.1,a.2.2.2.2.2.1,a.2.2.2.2.2.2)))
noncomputable def q8m (c : List qd) : Option (qd × Int):=
  (q1z c).bind fun d=>cond (d != 0) (some (({Lo:=({X:=0,Y:=0,Z:=0} : ql),Hi:=({X:=0,Y:=0,Z:=0} : ql)} : qd),d)) (cond ((c.length : Int) == 0) (some (({Lo:=({X:=0,Y:=0,Z:=0} : ql),Hi:=({X:=0,Y:=0,Z:=0} : ql)} : qd),6)) ((idx c 0).bind fun a=>(loop (q3j c) (0,a.Lo.X,a.Lo.Y,a.Lo.Z,a.Hi.X,a.Hi.Y,a.Hi.Z)).bind fun b=>some (({Lo:=({X:=b.1,Y:=b.2.1,Z:=b.2.2.1} : ql),Hi:=({X:=b.2.2.2.1,Y:=b.2.2.2.2.1,Z:=b.2.2.2.2.2} : ql)} : qd),0)))
noncomputable def q30 (b : List qd) (a : Int × Int × Int × Int × Int × Int × Int) : Option ((Int × Int × Int × Int × Int × Int × Int) ⊕ (Int × Int × Int × Int × Int × Int)):=
  cond (decide (a.1 < (b.length : Int))) ((idx b a.1).bind fun c=>(idx b a.1).bind fun d=>(idx b a.1).bind fun f=>(idx b a.1).bind fun g=>(idx b a.1).bind fun h=>(idx b a.1).bind fun j=>some (.inl (w64 (a.1 + 1),min a.2.1 c.Lo.X,min a.2.2.1 d.Lo.Y,min a.2.2.2.1 f.Lo.Z,max a.2.2.2.2.1 g.Hi.X,max a.2.2.2.2.2.1 h.Hi.Y,max a.2.2.2.2.2.2 j.Hi.Z))) (some (.inr (a.2.1,a.2.2.1,a.2.2.2.1,a.2.2.2.2.1,a.2.2.2.2.2.1,a.2.2.2.2.2.2)))
noncomputable def q7a (c : List qd) : Option (qd × Int):=
  (J0 c).bind fun d=>cond (d != 0) ((J0 c).bind fun f=>some (({Lo:=({X:=0,Y:=0,Z:=0} : ql),Hi:=({X:=0,Y:=0,Z:=0} : ql)} : qd),f)) (cond ((c.length : Int) == 0) (some (({Lo:=({X:=0,Y:=0,Z:=0} : ql),Hi:=({X:=0,Y:=0,Z:=0} : ql)} : qd),6)) ((idx c 0).bind fun a=>(loop (q30 c) (1,a.Lo.X,a.Lo.Y,a.Lo.Z,a.Hi.X,a.Hi.Y,a.Hi.Z)).bind fun b=>some (({Lo:=({X:=b.1,Y:=b.2.1,Z:=b.2.2.1} : ql),Hi:=({X:=b.2.2.2.1,Y:=b.2.2.2.2.1,Z:=b.2.2.2.2.2} : ql)} : qd),0)))
noncomputable def qat (c : List qd) (d : Int) (a : Int × List qh) : Option ((Int × List qh) ⊕ (List qh)):=
  cond (decide (a.1 < (c.length : Int))) (((idx c a.1).bind fun b=>(cond (decide (b.Lo.Z≤d)) (some (decide (d < b.Hi.Z))) (some false)).bind fun f=>cond f ((app 32 a.2 [({X0:=b.Lo.X,Y0:=b.Lo.Y,X1:=b.Hi.X,Y1:=b.Hi.Y} : qh)]).bind fun g=>some g) (some a.2)).bind fun h=>some (.inl (w64 (a.1 + 1),h))) (some (.inr a.2))
noncomputable def q8p (a : List qd) (c : Int) : Option (List qh × Int):=
  (q1z a).bind fun b=>cond (b != 0) (some ([],b)) ((loop (qat a c) (0,[])).bind fun d=>some (d,0))
noncomputable def q7f (a : List qd) (b : Int) : Option (List qh × Int):=
  (J0 a).bind fun c=>cond (c != 0) ((J0 a).bind fun d=>some ([],d)) ((Zi a b).bind fun f=>(Z7 2 f []).bind fun g=>some (g,0))
noncomputable def q8s (a : qd) (b : qd) : Option Int:=
  (cond ((w64 ((min a.Hi.X b.Hi.X) - (max a.Lo.X b.Lo.X))) == 0) (some (decide ((w64 ((min a.Hi.Y b.Hi.Y) - (max a.Lo.Y b.Lo.Y))) > 0))) (some false)).bind fun c=>(cond c (some (decide ((w64 ((min a.Hi.Z b.Hi.Z) - (max a.Lo.Z b.Lo.Z))) > 0))) (some false)).bind fun d=>cond d (some (w64 ((w64 ((min a.Hi.Y b.Hi.Y) - (max a.Lo.Y b.Lo.Y))) * (w64 ((min a.Hi.Z b.Hi.Z) - (max a.Lo.Z b.Lo.Z)))))) ((cond (decide ((w64 ((min a.Hi.X b.Hi.X) - (max a.Lo.X b.Lo.X))) > 0)) (some ((w64 ((min a.Hi.Y b.Hi.Y) - (max a.Lo.Y b.Lo.Y))) == 0)) (some false)).bind fun f=>(cond f (some (decide ((w64 ((min a.Hi.Z b.Hi.Z) - (max a.Lo.Z b.Lo.Z))) > 0))) (some false)).bind fun g=>cond g (some (w64 ((w64 ((min a.Hi.X b.Hi.X) - (max a.Lo.X b.Lo.X))) * (w64 ((min a.Hi.Z b.Hi.Z) - (max a.Lo.Z b.Lo.Z)))))) ((cond (decide ((w64 ((min a.Hi.X b.Hi.X) - (max a.Lo.X b.Lo.X))) > 0)) (some (decide ((w64 ((min a.Hi.Y b.Hi.Y) - (max a.Lo.Y b.Lo.Y))) > 0))) (some false)).bind fun h=>(cond h (some ((w64 ((min a.Hi.Z b.Hi.Z) - (max a.Lo.Z b.Lo.Z))) == 0)) (some false)).bind fun j=>cond j (some (w64 ((w64 ((min a.Hi.X b.Hi.X) - (max a.Lo.X b.Lo.X))) * (w64 ((min a.Hi.Y b.Hi.Y) - (max a.Lo.Y b.Lo.Y)))))) (some 0)))
noncomputable def q3m (b : List qd) (c : qd) (a : Int × Int) : Option ((Int × Int) ⊕ (Int)):=
  cond (decide (a.2 < (b.length : Int))) ((idx b a.2).bind fun d=>(q8s c d).bind fun f=>some (.inl (w64 (a.1 - (w64 (2 * f))),w64 (a.2 + 1)))) (some (.inr a.1))
noncomputable def q3l (c : List qd) (a : Int × Int) : Option ((Int × Int) ⊕ (Int)):=
  cond (decide (a.2 < (c.length : Int))) (((idx c a.2).bind fun d=>(qau d).bind fun b=>(slc c 0 a.2).bind fun f=>(loop (q3m f d) (w64 (a.1 + (w64 (2 * (w64 ((w64 ((w64 (b.1 * b.2.1)) + (w64 (b.1 * b.2.2)))) + (w64 (b.2.1 * b.2.2))))))),0)).bind fun g=>some g).bind fun h=>some (.inl (h,w64 (a.2 + 1)))) (some (.inr a.1))
noncomputable def q8q (a : List qd) : Option (Int × Int):=
  (q1z a).bind fun b=>cond (b != 0) (some (0,b)) ((loop (q3l a) (0,0)).bind fun c=>some (c,0))
noncomputable def Uq (a : qd) : Option Int:=
  some (w64 ((w64 ((w64 (a.Hi.X - a.Lo.X)) * (w64 (a.Hi.Y - a.Lo.Y)))) * (w64 (a.Hi.Z - a.Lo.Z))))
noncomputable def q4u (a : qd) (b : qd) : Option qd:=
  (cond (decide ((max a.Lo.X b.Lo.X) ≥ (min a.Hi.X b.Hi.X))) (some true) (some (decide ((max a.Lo.Y b.Lo.Y) ≥ (min a.Hi.Y b.Hi.Y))))).bind fun c=>(cond c (some true) (some (decide ((max a.Lo.Z b.Lo.Z) ≥ (min a.Hi.Z b.Hi.Z))))).bind fun d=>cond d (some ({Lo:=({X:=0,Y:=0,Z:=0} : ql),Hi:=({X:=0,Y:=0,Z:=0} : ql)} : qd)) (some ({Lo:=({X:=max a.Lo.X b.Lo.X,Y:=max a.Lo.Y b.Lo.Y,Z:=max a.Lo.Z b.Lo.Z} : ql),Hi:=({X:=min a.Hi.X b.Hi.X,Y:=min a.Hi.Y b.Hi.Y,Z:=min a.Hi.Z b.Hi.Z} : ql)} : qd))
noncomputable def Ur (c : List qd) (a : Int × Int × Int × Int × Int × Int) (b : Int × Int) : Option ((Int × Int) ⊕ (Int)):=
  cond (decide (b.2 < (c.length : Int))) ((idx c b.2).bind fun d=>(q4u ({Lo:=({X:=a.1,Y:=a.2.1,Z:=a.2.2.1} : ql),Hi:=({X:=a.2.2.2.1,Y:=a.2.2.2.2.1,Z:=a.2.2.2.2.2} : ql)} : qd) d).bind fun f=>(Uq f).bind fun g=>some (.inl (w64 (b.1 - g),w64 (b.2 + 1)))) (some (.inr b.1))
noncomputable def Z8 (d : Int) (a : qd) (f : List qd) (b : Int × Int) : Option ((Int × Int) ⊕ (Int)):=
  cond (decide (b.2 < 2)) ((((cond (d == 0) (some (b.2 == 0)) (some false)).bind fun g=>cond g (some (a.Hi.X,a.Lo.Y,a.Lo.Z,w64 (a.Hi.X + 1),a.Hi.Y,a.Hi.Z)) (cond (d == 0) (some (w64 (a.Lo.X - 1),a.Lo.Y,a.Lo.Z,a.Lo.X,a.Hi.Y,a.Hi.Z)) ((cond (d == 1) (some (b.2 == 0)) (some false)).bind fun h=>cond h (some (a.Lo.X,a.Hi.Y,a.Lo.Z,a.Hi.X,w64 (a.Hi.Y + 1),a.Hi.Z)) (cond (d == 1) (some (a.Lo.X,w64 (a.Lo.Y - 1),a.Lo.Z,a.Hi.X,a.Lo.Y,a.Hi.Z)) (cond (b.2 == 0) (some (a.Lo.X,a.Lo.Y,a.Hi.Z,a.Hi.X,a.Hi.Y,w64 (a.Hi.Z + 1))) (some (a.Lo.X,a.Lo.Y,w64 (a.Lo.Z - 1),a.Hi.X,a.Hi.Y,a.Lo.Z))))))).bind fun c=>(Uq ({Lo:=({X:=c.1,Y:=c.2.1,Z:=c.2.2.1} : ql),Hi:=({X:=c.2.2.2.1,Y:=c.2.2.2.2.1,Z:=c.2.2.2.2.2} : ql)} : qd)).bind fun j=>(loop (Ur f c) (w64 (b.1 + j),0)).bind fun k=>some k).bind fun l=>some (.inl (l,w64 (b.2 + 1)))) (some (.inr b.1))
noncomputable def q1n (a : List qd) (b : qd) (c : Int) : Option Int:=
  (loop (Z8 c b a) (0,0)).bind fun d=>some d
noncomputable def Jz (b : List qd) (c : Int × Int) (a : Int × Int) : Option ((Int × Int) ⊕ (Int)):=
  cond (decide (a.2 < 3)) ((idx b c.2).bind fun d=>(q1n b d a.2).bind fun f=>some (.inl (w64 (a.1 + f),w64 (a.2 + 1)))) (some (.inr a.1))
noncomputable def q33 (b : List qd) (a : Int × Int) : Option ((Int × Int) ⊕ (Int)):=
  cond (decide (a.2 < (b.length : Int))) (((loop (Jz b a) (a.1,0)).bind fun c=>some c).bind fun d=>some (.inl (d,w64 (a.2 + 1)))) (some (.inr a.1))
noncomputable def q7g (a : List qd) : Option (Int × Int):=
  (J0 a).bind fun b=>cond (b != 0) ((J0 a).bind fun c=>some (0,c)) ((loop (q33 a) (0,0)).bind fun d=>some (d,0))
noncomputable def q2e (a : ql) (b : Int) : Option Bool:=
  (cond (decide ((min (min a.X a.Y) a.Z) ≥ b)) (some (decide ((max (max a.X a.Y) a.Z)≤1000000))) (some false)).bind fun c=>some c
noncomputable def q48 (a : Qx) : Option Int:=
  (cond (decide (a.Turn ≥ 24)) (some true) ((q2e a.At (-1000000)).bind fun b=>some (!b))).bind fun c=>cond c (some 8) (some 0)
noncomputable def q9t (a : Int) : Option ql:=
  cond ((IntKind.wrap .u8 (Int.tdiv a 2)) == 0) (some ({X:=w64 (1 - (w64 (2 * (w64 (Int.tmod a 2))))),Y:=0,Z:=0} : ql)) (cond ((IntKind.wrap .u8 (Int.tdiv a 2)) == 1) (some ({X:=0,Y:=w64 (1 - (w64 (2 * (w64 (Int.tmod a 2))))),Z:=0} : ql)) (some ({X:=0,Y:=0,Z:=w64 (1 - (w64 (2 * (w64 (Int.tmod a 2)))))} : ql)))
noncomputable def qc8 (a : ql) (b : ql) : Option ql:=
  some ({X:=w64 ((w64 (a.Y * b.Z)) - (w64 (a.Z * b.Y))),Y:=w64 ((w64 (a.Z * b.X)) - (w64 (a.X * b.Z))),Z:=w64 ((w64 (a.X * b.Y)) - (w64 (a.Y * b.X)))} : ql)
noncomputable def q6p (a : Int) : Option (ql × ql × ql):=
  (cond (decide ((Int.tmod a 4) ≥ (IntKind.wrap .u8 ((IntKind.wrap .u8 (Int.tdiv (IntKind.wrap .u8 (Int.tdiv a 4)) 2)) * 2)))) (some (IntKind.wrap .u8 ((Int.tmod a 4) + 2))) (some (Int.tmod a 4))).bind fun d=>(q9t (IntKind.wrap .u8 (Int.tdiv a 4))).bind fun b=>(q9t d).bind fun c=>(qc8 b c).bind fun f=>some (b,c,f)
noncomputable def q6r (a : ql × ql × ql) (b : ql) : Option ql:=
  some ({X:=w64 ((w64 ((w64 (b.X * a.1.X)) + (w64 (b.Y * a.2.1.X)))) + (w64 (b.Z * a.2.2.X))),Y:=w64 ((w64 ((w64 (b.X * a.1.Y)) + (w64 (b.Y * a.2.1.Y)))) + (w64 (b.Z * a.2.2.Y))),Z:=w64 ((w64 ((w64 (b.X * a.1.Z)) + (w64 (b.Y * a.2.1.Z)))) + (w64 (b.Z * a.2.2.Z)))} : ql)
noncomputable def q6q (a : Qx) (c : ql) : Option ql:=
  (q6p a.Turn).bind fun d=>(q6r d c).bind fun b=>some ({X:=w64 (b.X + a.At.X),Y:=w64 (b.Y + a.At.Y),Z:=w64 (b.Z + a.At.Z)} : ql)
noncomputable def q47 (a : Qx) (b : ql) : Option (ql × Int):=
  (q48 a).bind fun c=>cond (c != 0) (some (({X:=0,Y:=0,Z:=0} : ql),c)) ((q2e b (-1000000)).bind fun f=>cond (!f) (some (({X:=0,Y:=0,Z:=0} : ql),2)) ((q6q a b).bind fun d=>(q2e d (-1000000)).bind fun g=>cond (!g) (some (({X:=0,Y:=0,Z:=0} : ql),16)) (some (d,0))))
noncomputable def q3k (d : List qd) (f : Qx) (c : Int × List qd) : Option ((Int × List qd) ⊕ ((List qd) ⊕ (List qd × Int))):=
  cond (decide (c.1 < (d.length : Int))) ((idx d c.1).bind fun g=>(q47 f g.Lo).bind fun a=>(q47 f g.Hi).bind fun b=>(cond (a.2 != 0) (some true) (some (b.2 != 0))).bind fun h=>cond h (some (.inr (.inr ([],16)))) ((app 48 c.2 [({Lo:=({X:=min a.1.X b.1.X,Y:=min a.1.Y b.1.Y,Z:=min a.1.Z b.1.Z} : ql),Hi:=({X:=max a.1.X b.1.X,Y:=max a.1.Y b.1.Y,Z:=max a.1.Z b.1.Z} : ql)} : qd)]).bind fun j=>some (.inl (w64 (c.1 + 1),j)))) (some (.inr (.inl c.2)))
noncomputable def q8o (a : List qd) (b : Qx) : Option (List qd × Int):=
  (q1z a).bind fun c=>cond (c != 0) (some ([],c)) ((q48 b).bind fun d=>cond (d != 0) (some ([],d)) ((loop (q3k a b) (0,[]) : Option ((List qd) ⊕ (List qd × Int))).bind fun g=>(match g with | .inl h=>(q8n h).bind fun f=>some (f.1,f.2) | .inr j=>some j)))
noncomputable def q4p (a : Qx) : Option Int:=
  (cond (decide (a.Turn ≥ 24)) (some true) ((Uo a.At (-1000000)).bind fun b=>some (!b))).bind fun c=>cond c (some 8) (some 0)
noncomputable def Jy (a : Int) : Option ql:=
  (cond ((Int.tmod a 2) == 1) (some (-1)) (some 1)).bind fun b=>cond (decide (a < 2)) (some ({X:=b,Y:=0,Z:=0} : ql)) (cond (decide (a < 4)) (some ({X:=0,Y:=b,Z:=0} : ql)) (some ({X:=0,Y:=0,Z:=b} : ql)))
noncomputable def qab (a : ql) (b : ql) : Option ql:=
  some ({X:=w64 ((w64 (a.Y * b.Z)) - (w64 (a.Z * b.Y))),Y:=w64 ((w64 (a.Z * b.X)) - (w64 (a.X * b.Z))),Z:=w64 ((w64 (a.X * b.Y)) - (w64 (a.Y * b.X)))} : ql)
noncomputable def q74 (b : Int) (a : Int × List Int) : Option ((Int × List Int) ⊕ (List Int)):=
  cond (decide (a.1 < 6)) ((cond ((w64 (Int.tdiv a.1 2)) != (w64 (Int.tdiv (w64 (Int.tdiv b 4)) 2))) ((app 8 a.2 [a.1]).bind fun c=>some c) (some a.2)).bind fun d=>some (.inl (w64 (a.1 + 1),d))) (some (.inr a.2))
noncomputable def q73 (a : Int) : Option (ql × ql × ql):=
  (loop (q74 a) (0,[])).bind fun c=>(idx c (Int.tmod a 4)).bind fun b=>(Jy (w64 (Int.tdiv a 4))).bind fun d=>(Jy b).bind fun f=>(Jy (w64 (Int.tdiv a 4))).bind fun g=>(Jy b).bind fun h=>(qab g h).bind fun j=>some (d,f,j)
noncomputable def q4r (a : Int) (b : ql) : Option ql:=
  some ({X:=w64 (a * b.X),Y:=w64 (a * b.Y),Z:=w64 (a * b.Z)} : ql)
noncomputable def q2x (a : ql) (b : ql) : Option ql:=
  some ({X:=w64 (a.X + b.X),Y:=w64 (a.Y + b.Y),Z:=w64 (a.Z + b.Z)} : ql)
noncomputable def q75 (a : ql × ql × ql) (b : ql) : Option ql:=
  (q4r b.X a.1).bind fun c=>(q4r b.Y a.2.1).bind fun d=>(q4r b.Z a.2.2).bind fun f=>(q2x d f).bind fun g=>(q2x c g).bind fun h=>some h
noncomputable def q4q (a : Qx) (b : ql) : Option ql:=
  (q73 (w64 a.Turn)).bind fun c=>(q75 c b).bind fun d=>(q2x d a.At).bind fun f=>some f
noncomputable def q7d (c : qd) (d : Qx) : Option qd:=
  (q4q d c.Lo).bind fun a=>(q4q d c.Hi).bind fun b=>some ({Lo:=({X:=min a.X b.X,Y:=min a.Y b.Y,Z:=min a.Z b.Z} : ql),Hi:=({X:=max a.X b.X,Y:=max a.Y b.Y,Z:=max a.Z b.Z} : ql)} : qd)
noncomputable def q32 (b : List qd) (d : Qx) (a : Int × List qd) : Option ((Int × List qd) ⊕ ((List qd) ⊕ (List qd × Int))):=
  cond (decide (a.1 < (b.length : Int))) ((idx b a.1).bind fun f=>(q7d f d).bind fun g=>(app 48 a.2 [g]).bind fun c=>(idx c a.1).bind fun h=>(q34 h).bind fun j=>cond (!j) (some (.inr (.inr ([],16)))) (some (.inl (w64 (a.1 + 1),c)))) (some (.inr (.inl a.2)))
noncomputable def q7c (a : List qd) (b : Qx) : Option (List qd × Int):=
  (J0 a).bind fun d=>cond (d != 0) ((J0 a).bind fun f=>some ([],f)) ((q4p b).bind fun g=>cond (g != 0) ((q4p b).bind fun h=>some ([],h)) ((loop (q32 a b) (0,[]) : Option ((List qd) ⊕ (List qd × Int))).bind fun j=>(match j with | .inl k=>(q7b k).bind fun c=>some (c.1,c.2) | .inr l=>some l)))
noncomputable def q9y (a : List qd) (d : Qx) (f : Int) : Option Bool:=
  (q79 a).bind fun n=>cond n (some true) ((q8m a).bind fun b=>(q7a a).bind fun c=>(q8p a f).bind fun g=>(q7f a f).bind fun h=>(q8q a).bind fun j=>(q7g a).bind fun k=>(q8o a d).bind fun l=>(q7c a d).bind fun m=>(cond ((b.1.Lo.X == c.1.Lo.X) && ((b.1.Lo.Y == c.1.Lo.Y) && ((b.1.Lo.Z == c.1.Lo.Z) && ((b.1.Hi.X == c.1.Hi.X) && ((b.1.Hi.Y == c.1.Hi.Y) && ((b.1.Hi.Z == c.1.Hi.Z) && true)))))) (some (b.2 == c.2)) (some false)).bind fun o=>(cond o ((q2s g.1 h.1).bind fun p=>some p) (some false)).bind fun q=>(cond q (some (g.2 == h.2)) (some false)).bind fun r=>(cond r (some (j.1 == k.1)) (some false)).bind fun s=>(cond s (some (j.2 == k.2)) (some false)).bind fun t=>(cond t ((q7e l.1 m.1).bind fun u=>some u) (some false)).bind fun v=>(cond v (some (l.2 == m.2)) (some false)).bind fun w=>some w)
noncomputable def qih (a : qi) : Option Bool:=
  (cond (decide (a.Lo < a.Hi)) (some (decide (a.Lo ≥ (-1000000)))) (some false)).bind fun b=>(cond b (some (decide (a.Hi≤1000000))) (some false)).bind fun c=>some c
noncomputable def qde (b : List qi) (a : Int) : Option ((Int) ⊕ ((Unit) ⊕ (Int))):=
  cond (decide (a < (b.length : Int))) ((idx b a).bind fun c=>(qih c).bind fun d=>(cond (!d) (some true) ((cond (decide (a > 0)) ((idx b (w64 (a - 1))).bind fun f=>(idx b a).bind fun g=>some (decide (f.Hi ≥ g.Lo))) (some false)).bind fun h=>some h)).bind fun j=>cond j (some (.inr (.inr 8))) (some (.inl (w64 (a + 1))))) (some (.inr (.inl ())))
noncomputable def qa5 (a : List qi) : Option Int:=
  cond (decide ((a.length : Int) > 400)) (some 4) ((loop (qde a) 0 : Option ((Unit) ⊕ (Int))).bind fun b=>(match b with | .inl _=>some 0 | .inr c=>some c))
noncomputable def q6x (b : List qi) (a : Int × List Int) : Option ((Int × List Int) ⊕ (List Int)):=
  cond (decide (a.1 < (b.length : Int))) ((idx b a.1).bind fun c=>(idx b a.1).bind fun d=>(app 8 a.2 [c.Lo,d.Hi]).bind fun f=>some (.inl (w64 (a.1 + 1),f))) (some (.inr a.2))
noncomputable def qie (b : List qi) (a : Int × List Int) : Option ((Int × List Int) ⊕ (List Int)):=
  cond (decide (a.1 < (b.length : Int))) ((idx b a.1).bind fun c=>(idx b a.1).bind fun d=>(app 8 a.2 [c.Lo,d.Hi]).bind fun f=>some (.inl (w64 (a.1 + 1),f))) (some (.inr a.2))
noncomputable def qdf (a : List qi) (b : List qi) : Option (List Int):=
  (loop (q6x a) (0,[])).bind fun c=>(loop (qie b) (0,c)).bind fun d=>(Zz d).bind fun f=>some f
noncomputable def q6y (b : List qi) (c : Int) (a : Int) : Option ((Int) ⊕ ((Unit) ⊕ (Bool))):=
  cond (decide (a < (b.length : Int))) ((idx b a).bind fun d=>(cond (decide (d.Lo≤c)) ((idx b a).bind fun f=>some (decide (c < f.Hi))) (some false)).bind fun g=>cond g (some (.inr (.inr true))) (some (.inl (w64 (a + 1))))) (some (.inr (.inl ())))
noncomputable def qa6 (a : List qi) (b : Int) : Option Bool:=
  (loop (q6y a b) 0 : Option ((Unit) ⊕ (Bool))).bind fun c=>(match c with | .inl _=>some false | .inr d=>some d)
noncomputable def q6z (b : List Int) (c : List qi) (d : List qi) (f : Int) (a : Int × List Bool) : Option ((Int × List Bool) ⊕ (List Bool)):=
  cond (decide (a.1 < (b.length : Int))) ((idx b a.1).bind fun g=>(qa6 c g).bind fun h=>(idx b a.1).bind fun j=>(qa6 d j).bind fun k=>(q4l f h k).bind fun l=>(app 1 a.2 [l]).bind fun m=>some (.inl (w64 (a.1 + 1),m))) (some (.inr a.2))
noncomputable def qa7 (d : Int) (a : List qi) (b : List qi) : Option (List qi):=
  (qdf a b).bind fun c=>(loop (q6z c a b d) (0,[])).bind fun f=>(q2l c f).bind fun g=>some g
noncomputable def q8t (b : List qi) (a : Int × Int) : Option ((Int × Int) ⊕ (Int)):=
  cond (decide (a.2 < (b.length : Int))) ((idx b a.2).bind fun c=>some (.inl (w64 (a.1 + (w64 (c.Hi - c.Lo))),w64 (a.2 + 1)))) (some (.inr a.1))
noncomputable def qk0 (a : List qi) : Option (Int × Int):=
  (qav a).bind fun b=>cond (b != 0) (some (0,b)) ((loop (q8t a) (0,0)).bind fun c=>some (c,0))
noncomputable def q70 (b : List qi) (a : Int × Int) : Option ((Int × Int) ⊕ (Int)):=
  cond (decide (a.2 < (b.length : Int))) ((idx b a.2).bind fun c=>(idx b a.2).bind fun d=>some (.inl (w64 ((w64 (a.1 + c.Hi)) - d.Lo),w64 (a.2 + 1)))) (some (.inr a.1))
noncomputable def qig (a : List qi) : Option (Int × Int):=
  (qa5 a).bind fun b=>cond (b != 0) ((qa5 a).bind fun c=>some (0,c)) ((loop (q70 a) (0,0)).bind fun d=>some (d,0))
structure qer where
  Frame : Qx
  Size : ql
  deriving DecidableEq
structure qyp where
  t_ : Int
  at_ : ql
  flat_ : ql
  deriving DecidableEq
end Go.Sh
