/- PX -/
import Derived.Test.YtmekakoiicomaaaGreatK7
namespace Go.Sh
open Go Go.Am
structure Q0 where
  X : Int
  Y : Int
  Z : Int
  deriving DecidableEq
structure qk where
  Lo : Q0
  Hi : Q0
  deriving DecidableEq
def Qi (x : qk) : List DV:=[.int .i64 x.Lo.X,.int .i64 x.Lo.Y,.int .i64 x.Lo.Z,.int .i64 x.Hi.X,.int .i64 x.Hi.Y,.int .i64 x.Hi.Z]
structure qf where
  X0 : Int
  Y0 : Int
  X1 : Int
  Y1 : Int
  deriving DecidableEq
def qj (x : qf) : List DV:=[.int .i64 x.X0,.int .i64 x.Y0,.int .i64 x.X1,.int .i64 x.Y1]
noncomputable def q3e (a : Int) (b : Int) (c : Int) (d : Int) : Option (List qf):=
  some [({X0:=a,Y0:=b,X1:=c,Y1:=d} : qf)]
noncomputable def q2d (b : List qf) (c : qf→Option Bool) (a : Int) : Option ((Int) ⊕ ((Unit) ⊕ (Int))):=
  cond (decide (a < (b.length : Int))) ((idx b a).bind fun d=>(c d).bind fun f=>cond f (some (.inr (.inr a))) (some (.inl (w64 (a + 1))))) (some (.inr (.inl ())))
noncomputable def qb1 (a : List qf) (b : qf→Option Bool) : Option Int:=
  (loop (q2d a b) 0 : Option ((Unit) ⊕ (Int))).bind fun c=>(match c with | .inl _=>some (-1) | .inr d=>some d)
noncomputable def q5k (a : List qf) (b : qf→Option Bool) : Option Bool:=
  (qb1 a b).bind fun c=>some (decide (c ≥ 0))
noncomputable def q3m (a : Int) : Option Bool:=
  (cond (decide (a ≥ (-1000000))) (some (decide (a≤1000000))) (some false)).bind fun b=>some b
noncomputable def q7k (a : qf) : Option Bool:=
  (cond (decide (a.X0 < a.X1)) (some (decide (a.Y0 < a.Y1))) (some false)).bind fun b=>(cond b ((q3m a.X0).bind fun c=>some c) (some false)).bind fun d=>(cond d ((q3m a.X1).bind fun f=>some f) (some false)).bind fun g=>(cond g ((q3m a.Y0).bind fun h=>some h) (some false)).bind fun j=>(cond j ((q3m a.Y1).bind fun k=>some k) (some false)).bind fun l=>some l
noncomputable def q3k (a : qf) : Option Bool:=
  (q7k a).bind fun b=>some (!b)
def Kv (x : List qf) : List DV:=[.sl 4 (x.map qj)]
def qd2 : ByteArray:=⟨#[0,1,2,2,3,3,3,3,4,4,4,4,4,4,4,4,5,5,5,5,5,5,5,5,5,5,5,5,5,5,5,5,6,6,6,6,6,6,6,6,6,6,6,6,6,6,6,6,6,6,6,6,6,6,6,6,6,6,6,6,6,6,6,6,7,7,7,7,7,7,7,7,7,7,7,7,7,7,7,7,7,7,7,7,7,7,7,7,7,7,7,7,7,7,7,7,7,7,7,7,7,7,7,7,7,7,7,7,7,7,7,7,7,7,7,7,7,7,7,7,7,7,7,7,7,7,7,7,8,8,8,8,8,8,8,8,8,8,8,8,8,8,8,8,8,8,8,8,8,8,8,8,8,8,8,8,8,8,8,8,8,8,8,8,8,8,8,8,8,8,8,8,8,8,8,8,8,8,8,8,8,8,8,8,8,8,8,8,8,8,8,8,8,8,8,8,8,8,8,8,8,8,8,8,8,8,8,8,8,8,8,8,8,8,8,8,8,8,8,8,8,8,8,8,8,8,8,8,8,8,8,8,8,8,8,8,8,8,8,8,8,8,8,8,8,8,8,8,8,8,8,8,8,8,8,8]⟩
noncomputable def q27 (c : Int) : Option Int:=
  (cond (decide (c ≥ 4294967296)) (some (Int.fdiv c (2 ^ 32),32)) (some (c,0))).bind fun a=>(cond (decide (a.1 ≥ 65536)) (some (Int.fdiv a.1 (2 ^ 16),w64 (a.2 + 16))) (some (a.1,a.2))).bind fun b=>(cond (decide (b.1 ≥ 256)) (some (Int.fdiv b.1 (2 ^ 8),w64 (b.2 + 8))) (some (b.1,b.2))).bind fun d=>(q65 qd2 (IntKind.wrap .u8 d.1)).bind fun f=>some (w64 (d.2 + (w64 f)))
noncomputable def U3 (a : Int) : Option Int:=
  (q27 a).bind fun b=>some b
noncomputable def q99 (a : Int) : Option Bool:=
  some (a != a)
noncomputable def Zh (a : Int) (b : Int) : Option Bool:=
  (q99 a).bind fun c=>(cond c ((q99 b).bind fun d=>some (!d)) (some false)).bind fun f=>(cond f (some true) (some (decide (a < b)))).bind fun g=>some g
noncomputable def q7y (c : Int) (a : Int × List Int) : Option ((Int × List Int) ⊕ (List Int)):=
  (cond (decide (a.1 > c)) ((idx a.2 a.1).bind fun d=>(idx a.2 (w64 (a.1 - 1))).bind fun f=>(Zh d f).bind fun g=>some g) (some false)).bind fun h=>cond h ((idx a.2 (w64 (a.1 - 1))).bind fun b=>(idx a.2 a.1).bind fun j=>(idx a.2 a.1).bind fun _=>(idx (a.2.set a.1.toNat b) (w64 (a.1 - 1))).bind fun _=>some (.inl (w64 (a.1 - 1),(a.2.set a.1.toNat b).set (w64 (a.1 - 1)).toNat j))) (some (.inr a.2))
noncomputable def q7x (b : Int) (c : Int) (a : Int × List Int) : Option ((Int × List Int) ⊕ (List Int)):=
  cond (decide (a.1 < b)) (((loop (q7y c) (a.1,a.2)).bind fun d=>some d).bind fun f=>some (.inl (w64 (a.1 + 1),f))) (some (.inr a.2))
noncomputable def q7w (b : List Int) (a : Int) (c : Int) : Option (List Int):=
  (loop (q7x c a) (w64 (a + 1),b)).bind fun d=>some d
noncomputable def q8r (d : Int) (b : Int) (a : Int × List Int) : Option ((Int × List Int) ⊕ (List Int)):=
  cond (decide ((w64 ((w64 (2 * a.1)) + 1)) ≥ d)) (some (.inr a.2)) ((cond (decide ((w64 ((w64 ((w64 (2 * a.1)) + 1)) + 1)) < d)) ((idx a.2 (w64 (b + (w64 ((w64 (2 * a.1)) + 1))))).bind fun g=>(idx a.2 (w64 ((w64 (b + (w64 ((w64 (2 * a.1)) + 1)))) + 1))).bind fun h=>(Zh g h).bind fun j=>some j) (some false)).bind fun k=>(cond k (some (w64 ((w64 ((w64 (2 * a.1)) + 1)) + 1))) (some (w64 ((w64 (2 * a.1)) + 1)))).bind fun c=>(idx a.2 (w64 (b + a.1))).bind fun l=>(idx a.2 (w64 (b + c))).bind fun m=>(Zh l m).bind fun n=>cond (!n) (some (.inr a.2)) ((idx a.2 (w64 (b + c))).bind fun f=>(idx a.2 (w64 (b + a.1))).bind fun o=>(idx a.2 (w64 (b + a.1))).bind fun _=>(idx (a.2.set (w64 (b + a.1)).toNat f) (w64 (b + c))).bind fun _=>some (.inl (c,(a.2.set (w64 (b + a.1)).toNat f).set (w64 (b + c)).toNat o))))
noncomputable def q5x (a : List Int) (b : Int) (c : Int) (d : Int) : Option (List Int):=
  (loop (q8r c d) (b,a)).bind fun f=>some f
noncomputable def q7u (d : Int) (b : Int) (a : Int × List Int) : Option ((Int × List Int) ⊕ (List Int)):=
  cond (decide (a.1 ≥ 0)) ((q5x a.2 a.1 (w64 (d - b)) b).bind fun c=>(K5 c.length a.2.length).bind fun _=>some (.inl (w64 (a.1 - 1),c))) (some (.inr a.2))
noncomputable def q7v (b : Int) (a : Int × List Int) : Option ((Int × List Int) ⊕ (List Int)):=
  cond (decide (a.1 ≥ 0)) ((idx a.2 (w64 (b + a.1))).bind fun c=>(idx a.2 b).bind fun d=>(idx a.2 b).bind fun _=>(idx (a.2.set b.toNat c) (w64 (b + a.1))).bind fun _=>(q5x ((a.2.set b.toNat c).set (w64 (b + a.1)).toNat d) 0 a.1 b).bind fun f=>(K5 f.length ((a.2.set b.toNat c).set (w64 (b + a.1)).toNat d).length).bind fun _=>some (.inl (w64 (a.1 - 1),f))) (some (.inr a.2))
noncomputable def q7t (c : List Int) (a : Int) (b : Int) : Option (List Int):=
  (loop (q7u b a) (w64 (Int.tdiv (w64 ((w64 (b - a)) - 1)) 2),c)).bind fun d=>(loop (q7v a) (w64 ((w64 (b - a)) - 1),d)).bind fun f=>some f
noncomputable def q3u (c : List Int) (a : Int) (b : Int) (d : Int) : Option (Int × Int × Int):=
  (idx c b).bind fun f=>(idx c a).bind fun g=>(Zh f g).bind fun h=>cond h (some (b,a,w64 (d + 1))) (some (a,b,d))
noncomputable def q5q (a : List Int) (f : Int) (g : Int) (h : Int) (j : Int) : Option (Int × Int):=
  (q3u a f g j).bind fun b=>(q3u a b.2.1 h b.2.2).bind fun c=>(q3u a b.1 c.1 c.2.2).bind fun d=>some (d.2.1,d.2.2)
noncomputable def q3t (c : List Int) (a : Int) (d : Int) : Option (Int × Int):=
  (q5q c (w64 (a - 1)) a (w64 (a + 1)) d).bind fun b=>some (b.1,b.2)
noncomputable def q7s (d : List Int) (a : Int) (b : Int) : Option (Int × Int):=
  (cond (decide ((w64 (b - a)) ≥ 8)) ((cond (decide ((w64 (b - a)) ≥ 50)) ((q3t d (w64 (a + (w64 ((w64 (Int.tdiv (w64 (b - a)) 4)) * 1)))) 0).bind fun g=>(q3t d (w64 (a + (w64 ((w64 (Int.tdiv (w64 (b - a)) 4)) * 2)))) g.2).bind fun h=>(q3t d (w64 (a + (w64 ((w64 (Int.tdiv (w64 (b - a)) 4)) * 3)))) h.2).bind fun j=>some (g.1,h.1,j.1,j.2)) (some (w64 (a + (w64 ((w64 (Int.tdiv (w64 (b - a)) 4)) * 1))),w64 (a + (w64 ((w64 (Int.tdiv (w64 (b - a)) 4)) * 2))),w64 (a + (w64 ((w64 (Int.tdiv (w64 (b - a)) 4)) * 3))),0))).bind fun f=>(q5q d f.1 f.2.1 f.2.2.1 f.2.2.2).bind fun k=>some (k.1,k.2)) (some (w64 (a + (w64 ((w64 (Int.tdiv (w64 (b - a)) 4)) * 2))),0))).bind fun c=>cond (c.2 == 0) (some (c.1,1)) (cond (c.2 == 12) (some (c.1,2)) (some (c.1,0)))
noncomputable def qci (a : Int × Int × List Int) : Option ((Int × Int × List Int) ⊕ (List Int)):=
  cond (decide (a.1 < a.2.1)) ((idx a.2.2 a.2.1).bind fun b=>(idx a.2.2 a.1).bind fun c=>(idx a.2.2 a.1).bind fun _=>(idx (a.2.2.set a.1.toNat b) a.2.1).bind fun _=>some (.inl (w64 (a.1 + 1),w64 (a.2.1 - 1),(a.2.2.set a.1.toNat b).set a.2.1.toNat c))) (some (.inr a.2.2))
noncomputable def q8o (a : List Int) (b : Int) (c : Int) : Option (List Int):=
  (loop qci (b,w64 (c - 1),a)).bind fun d=>some d
noncomputable def q85 (c : Int) (b : Int × Int × List Int) (a : Int) : Option ((Int) ⊕ (Int)):=
  (cond (decide (a < c)) ((idx b.2.2 a).bind fun d=>(idx b.2.2 (w64 (a - 1))).bind fun f=>(Zh d f).bind fun g=>some (!g)) (some false)).bind fun h=>cond h (some (.inl (w64 (a + 1)))) (some (.inr a))
noncomputable def qbt (a : Int × List Int) : Option ((Int × List Int) ⊕ (List Int)):=
  cond (decide (a.1 ≥ 1)) ((idx a.2 a.1).bind fun c=>(idx a.2 (w64 (a.1 - 1))).bind fun d=>(Zh c d).bind fun f=>cond (!f) (some (.inr a.2)) ((idx a.2 (w64 (a.1 - 1))).bind fun b=>(idx a.2 a.1).bind fun g=>(idx a.2 a.1).bind fun _=>(idx (a.2.set a.1.toNat b) (w64 (a.1 - 1))).bind fun _=>some (.inl (w64 (a.1 - 1),(a.2.set a.1.toNat b).set (w64 (a.1 - 1)).toNat g)))) (some (.inr a.2))
noncomputable def q86 (d : Int) (b : Int) (a : Int × List Int) : Option ((Int × List Int) ⊕ (Int × List Int)):=
  cond (decide (a.1 < d)) ((idx a.2 a.1).bind fun f=>(idx a.2 (w64 (a.1 - 1))).bind fun g=>(Zh f g).bind fun h=>cond (!h) (some (.inr (b,a.2))) ((idx a.2 (w64 (a.1 - 1))).bind fun c=>(idx a.2 a.1).bind fun j=>(idx a.2 a.1).bind fun _=>(idx (a.2.set a.1.toNat c) (w64 (a.1 - 1))).bind fun _=>some (.inl (w64 (a.1 + 1),(a.2.set a.1.toNat c).set (w64 (a.1 - 1)).toNat j)))) (some (.inr (b,a.2)))
noncomputable def q5u (c : Int) (g : Int) (b : Int × Int × List Int) : Option ((Int × Int × List Int) ⊕ ((List Int) ⊕ (Bool × List Int))):=
  cond (decide (b.2.1 < 5)) (((loop (q85 c b) b.1).bind fun a=>cond (a == c) (some (.inr (true,b.2.2))) (cond (decide ((w64 (c - g)) < 50)) (some (.inr (false,b.2.2))) ((idx b.2.2 (w64 (a - 1))).bind fun d=>(idx b.2.2 a).bind fun h=>(idx b.2.2 a).bind fun _=>(idx (b.2.2.set a.toNat d) (w64 (a - 1))).bind fun _=>(cond (decide ((w64 (a - g)) ≥ 2)) ((loop qbt (w64 (a - 1),(b.2.2.set a.toNat d).set (w64 (a - 1)).toNat h)).bind fun f=>some f) (some ((b.2.2.set a.toNat d).set (w64 (a - 1)).toNat h))).bind fun j=>cond (decide ((w64 (c - a)) ≥ 2)) ((loop (q86 c a) (w64 (a + 1),j)).bind fun f=>some (.inl f)) (some (.inl (a,j))))) : Option ((Int × List Int) ⊕ (Bool × List Int))).bind fun l=>(match l with | .inl k=>some (.inl (k.1,w64 (b.2.1 + 1),k.2)) | .inr m=>some (.inr (.inr m)))) (some (.inr (.inl b.2.2)))
noncomputable def q5t (b : List Int) (a : Int) (c : Int) : Option (Bool × List Int):=
  (loop (q5u c a) (w64 (a + 1),0,b) : Option ((List Int) ⊕ (Bool × List Int))).bind fun d=>(match d with | .inl f=>some (false,f) | .inr g=>some g)
noncomputable def q89 (b : Int × Int × List Int) (c : Int) (a : Int) : Option ((Int) ⊕ (Int)):=
  (cond (decide (a≤b.2.1)) ((idx b.2.2 c).bind fun d=>(idx b.2.2 a).bind fun f=>(Zh d f).bind fun g=>some (!g)) (some false)).bind fun h=>cond h (some (.inl (w64 (a + 1)))) (some (.inr a))
noncomputable def q8a (c : Int) (b : Int × Int × List Int) (d : Int) (a : Int) : Option ((Int) ⊕ (Int)):=
  (cond (decide (c≤a)) ((idx b.2.2 d).bind fun f=>(idx b.2.2 a).bind fun g=>(Zh f g).bind fun h=>some h) (some false)).bind fun j=>cond j (some (.inl (w64 (a - 1)))) (some (.inr a))
noncomputable def q88 (d : Int) (a : Int × Int × List Int) : Option ((Int × Int × List Int) ⊕ (Int × List Int)):=
  (loop (q89 a d) a.1).bind fun b=>(loop (q8a b a d) a.2.1).bind fun c=>cond (decide (b > c)) (some (.inr (b,a.2.2))) ((idx a.2.2 c).bind fun f=>(idx a.2.2 b).bind fun g=>(idx a.2.2 b).bind fun _=>(idx (a.2.2.set b.toNat f) c).bind fun _=>some (.inl (w64 (b + 1),w64 (c - 1),(a.2.2.set b.toNat f).set c.toNat g)))
noncomputable def q87 (b : List Int) (a : Int) (g : Int) (c : Int) : Option (Int × List Int):=
  (idx b c).bind fun d=>(idx b a).bind fun h=>(idx b a).bind fun _=>(idx (b.set a.toNat d) c).bind fun _=>(loop (q88 a) (w64 (a + 1),w64 (g - 1),(b.set a.toNat d).set c.toNat h)).bind fun f=>some (f.1,f.2)
noncomputable def q8c (h : Int) (c : List Int) (b : Int) (d : Int) (f : Int) (g : Int) (a : Int) : Option ((Int) ⊕ (Int)):=
  (cond (decide (a≤(w64 (h - 1)))) ((idx ((c.set b.toNat d).set f.toNat g) a).bind fun j=>(idx ((c.set b.toNat d).set f.toNat g) b).bind fun k=>(Zh j k).bind fun l=>some l) (some false)).bind fun m=>cond m (some (.inl (w64 (a + 1)))) (some (.inr a))
noncomputable def q8d (h : Int) (c : List Int) (b : Int) (d : Int) (f : Int) (g : Int) (a : Int) : Option ((Int) ⊕ (Int)):=
  (cond (decide (h≤a)) ((idx ((c.set b.toNat d).set f.toNat g) a).bind fun j=>(idx ((c.set b.toNat d).set f.toNat g) b).bind fun k=>(Zh j k).bind fun l=>some (!l)) (some false)).bind fun m=>cond m (some (.inl (w64 (a - 1)))) (some (.inr a))
noncomputable def q8f (b : Int × Int × List Int) (c : Int) (a : Int) : Option ((Int) ⊕ (Int)):=
  (cond (decide (a≤b.2.1)) ((idx b.2.2 a).bind fun d=>(idx b.2.2 c).bind fun f=>(Zh d f).bind fun g=>some g) (some false)).bind fun h=>cond h (some (.inl (w64 (a + 1)))) (some (.inr a))
noncomputable def q8g (c : Int) (b : Int × Int × List Int) (d : Int) (a : Int) : Option ((Int) ⊕ (Int)):=
  (cond (decide (c≤a)) ((idx b.2.2 a).bind fun f=>(idx b.2.2 d).bind fun g=>(Zh f g).bind fun h=>some (!h)) (some false)).bind fun j=>cond j (some (.inl (w64 (a - 1)))) (some (.inr a))
noncomputable def q8e (d : Int) (a : Int × Int × List Int) : Option ((Int × Int × List Int) ⊕ (Int × List Int)):=
  (loop (q8f a d) a.1).bind fun b=>(loop (q8g b a d) a.2.1).bind fun c=>cond (decide (b > c)) (some (.inr (c,a.2.2))) ((idx a.2.2 c).bind fun f=>(idx a.2.2 b).bind fun g=>(idx a.2.2 b).bind fun _=>(idx (a.2.2.set b.toNat f) c).bind fun _=>some (.inl (w64 (b + 1),w64 (c - 1),(a.2.2.set b.toNat f).set c.toNat g)))
noncomputable def q8b (b : List Int) (a : Int) (k : Int) (c : Int) : Option (Int × Bool × List Int):=
  (idx b c).bind fun d=>(idx b a).bind fun f=>(idx b a).bind fun _=>(idx (b.set a.toNat d) c).bind fun _=>(loop (q8c k b a d c f) (w64 (a + 1))).bind fun j=>(loop (q8d j b a d c f) (w64 (k - 1))).bind fun g=>cond (decide (j > g)) ((idx ((b.set a.toNat d).set c.toNat f) a).bind fun l=>(idx ((b.set a.toNat d).set c.toNat f) g).bind fun o=>(idx ((b.set a.toNat d).set c.toNat f) g).bind fun _=>(idx (((b.set a.toNat d).set c.toNat f).set g.toNat l) a).bind fun _=>some (g,true,(((b.set a.toNat d).set c.toNat f).set g.toNat l).set a.toNat o)) ((idx ((b.set a.toNat d).set c.toNat f) g).bind fun m=>(idx ((b.set a.toNat d).set c.toNat f) j).bind fun p=>(idx ((b.set a.toNat d).set c.toNat f) j).bind fun _=>(idx (((b.set a.toNat d).set c.toNat f).set j.toNat m) g).bind fun _=>(loop (q8e a) (w64 (j + 1),w64 (g - 1),(((b.set a.toNat d).set c.toNat f).set j.toNat m).set g.toNat p)).bind fun h=>(idx h.2 a).bind fun n=>(idx h.2 h.1).bind fun q=>(idx h.2 h.1).bind fun _=>(idx (h.2.set h.1.toNat n) a).bind fun _=>some (h.1,false,(h.2.set h.1.toNat n).set a.toNat q))
noncomputable def q10 (a : Int) : Option Int:=
  (U3 (IntKind.wrap .u64 a)).bind fun b=>(shlK .u64 1 b).bind fun c=>some c
noncomputable def q11 (a : Int) : Option Int:=
  some (xorI .u64 (xorI .u64 (xorI .u64 a (IntKind.wrap .u64 (a * (2 ^ 13)))) (Int.fdiv (xorI .u64 a (IntKind.wrap .u64 (a * (2 ^ 13)))) (2 ^ 7))) (IntKind.wrap .u64 ((xorI .u64 (xorI .u64 a (IntKind.wrap .u64 (a * (2 ^ 13)))) (Int.fdiv (xorI .u64 a (IntKind.wrap .u64 (a * (2 ^ 13)))) (2 ^ 7))) * (2 ^ 17))))
noncomputable def q7r (b : Int) (d : Int) (f : Int) (a : Int × List Int × Int) : Option ((Int × List Int × Int) ⊕ (List Int)):=
  cond (decide (a.1≤(w64 ((w64 (b + (w64 ((w64 (Int.tdiv (w64 (d - b)) 4)) * 2)))) + 1)))) ((q11 a.2.2).bind fun c=>(cond (decide ((w64 (andI .u64 c (IntKind.wrap .u64 (f - 1)))) ≥ (w64 (d - b)))) (some (w64 ((w64 (andI .u64 c (IntKind.wrap .u64 (f - 1)))) - (w64 (d - b))))) (some (w64 (andI .u64 c (IntKind.wrap .u64 (f - 1)))))).bind fun g=>(idx a.2.1 (w64 (b + g))).bind fun h=>(idx a.2.1 a.1).bind fun j=>(idx a.2.1 a.1).bind fun _=>(idx (a.2.1.set a.1.toNat h) (w64 (b + g))).bind fun _=>some (.inl (w64 (a.1 + 1),(a.2.1.set a.1.toNat h).set (w64 (b + g)).toNat j,c))) (some (.inr a.2.1))
noncomputable def q7q (c : List Int) (a : Int) (b : Int) : Option (List Int):=
  cond (decide ((w64 (b - a)) ≥ 8)) ((q10 (w64 (b - a))).bind fun d=>(loop (q7r a b d) (w64 ((w64 (a + (w64 ((w64 (Int.tdiv (w64 (b - a)) 4)) * 2)))) - 1),c,IntKind.wrap .u64 (w64 (b - a)))).bind fun f=>some f) (some c)
noncomputable def q5v (rec : List Int→Int→Int→Int→Option (List Int)) (a : Int × Int × Int × Bool × Bool × List Int) : Option ((Int × Int × Int × Bool × Bool × List Int) ⊕ (List Int)):=
  cond (decide ((w64 (a.2.1 - a.1))≤12)) ((q7w a.2.2.2.2.2 a.1 a.2.1).bind fun k=>(K5 k.length a.2.2.2.2.2.length).bind fun _=>some (.inr k)) (cond (a.2.2.1 == 0) ((q7t a.2.2.2.2.2 a.1 a.2.1).bind fun l=>(K5 l.length a.2.2.2.2.2.length).bind fun _=>some (.inr l)) ((cond (!a.2.2.2.1) ((q7q a.2.2.2.2.2 a.1 a.2.1).bind fun m=>(K5 m.length a.2.2.2.2.2.length).bind fun _=>some (w64 (a.2.2.1 - 1),m)) (some (a.2.2.1,a.2.2.2.2.2))).bind fun c=>(q7s c.2 a.1 a.2.1).bind fun g=>(cond (g.2 == 2) ((q8o c.2 a.1 a.2.1).bind fun n=>(K5 n.length c.2.length).bind fun _=>some (w64 ((w64 (a.2.1 - 1)) - (w64 (g.1 - a.1))),1,n)) (some (g.1,g.2,c.2))).bind fun d=>(cond a.2.2.2.1 (some a.2.2.2.2.1) (some false)).bind fun q=>(cond q (some (d.2.1 == 1)) (some false)).bind fun r=>(cond r ((q5t d.2.2 a.1 a.2.1).bind fun h=>(K5 h.2.length d.2.2.length).bind fun _=>cond h.1 (some (.inr h.2)) (some (.inl h.2))) (some (.inl d.2.2)) : Option ((List Int) ⊕ (List Int))).bind fun s=>(match s with | .inl f=>(cond (decide (a.1 > 0)) ((idx f (w64 (a.1 - 1))).bind fun t=>(idx f d.1).bind fun u=>(Zh t u).bind fun v=>some (!v)) (some false)).bind fun w=>cond w ((q87 f a.1 a.2.1 d.1).bind fun j=>(K5 j.2.length f.length).bind fun _=>some (.inl (j.1,a.2.1,c.1,a.2.2.2.1,a.2.2.2.2.1,j.2))) ((q8b f a.1 a.2.1 d.1).bind fun b=>(K5 b.2.2.length f.length).bind fun _=>cond (decide ((w64 (b.1 - a.1)) < (w64 (a.2.1 - b.1)))) ((rec b.2.2 a.1 b.1 c.1).bind fun o=>(K5 o.length b.2.2.length).bind fun _=>some (.inl (w64 (b.1 + 1),a.2.1,c.1,decide ((w64 (b.1 - a.1)) ≥ (w64 (Int.tdiv (w64 (a.2.1 - a.1)) 8))),b.2.1,o))) ((rec b.2.2 (w64 (b.1 + 1)) a.2.1 c.1).bind fun p=>(K5 p.length b.2.2.length).bind fun _=>some (.inl (a.1,b.1,c.1,decide ((w64 (a.2.1 - b.1)) ≥ (w64 (Int.tdiv (w64 (a.2.1 - a.1)) 8))),b.2.1,p)))) | .inr x=>some (.inr x))))
noncomputable def q5w (rec : List Int→Int→Int→Int→Option (List Int)) (a : List Int) (b : Int) (c : Int) (d : Int) : Option (List Int):=
  (loop (q5v rec) (b,c,d,true,true,a)).bind fun f=>some f
noncomputable def q8n : Nat→List Int→Int→Int→Int→Option (List Int)
  | 0,_,_,_,_=>none
  | n + 1,a,b,c,d=>q5w (q8n n)  a b c d
noncomputable def Jm (a : List Int) : Option (List Int):=
  (U3 (IntKind.wrap .u64 (a.length : Int))).bind fun c=>(lim (fun n=>q8n n a 0 (a.length : Int) c)).bind fun b=>(K5 b.length a.length).bind fun _=>some b
noncomputable def q2z (a : Int × (Nat × Nat) × Int × List Int) : Option ((Int × (Nat × Nat) × Int × List Int) ⊕ (Int × List Int)):=
  cond (decide (a.2.2.1 < (a.2.1.2 : Int))) (((idxW a.2.2.2 a.2.1 a.2.2.1).bind fun c=>(idxW a.2.2.2 a.2.1 (w64 (a.2.2.1 - 1))).bind fun d=>cond (c != d) ((idxW a.2.2.2 a.2.1 a.2.2.1).bind fun f=>(idx a.2.2.2 a.1).bind fun _=>some (w64 (a.1 + 1),a.2.1,a.2.2.2.set a.1.toNat f)) (some (a.1,a.2.1,a.2.2.2))).bind fun b=>some (.inl (b.1,b.2.1,w64 (a.2.2.1 + 1),b.2.2))) (some (.inr (a.1,a.2.2.2)))
noncomputable def U9 (a : List Int) (b : Int) : Option ((Int) ⊕ ((Unit) ⊕ ((Nat × Nat) × List Int))):=
  cond (decide (b < (a.length : Int))) ((idx a b).bind fun d=>(idx a (w64 (b - 1))).bind fun f=>cond (d == f) ((sub2 a.length b a.length).bind fun g=>(loop q2z (b,g,1,a)).bind fun c=>(sub2 c.2.length c.1 c.2.length).bind fun h=>(sub2 c.2.length 0 c.1).bind fun j=>some (.inr (.inr (j,clrw c.2 h 0)))) (some (.inl (w64 (b + 1))))) (some (.inr (.inl ())))
noncomputable def Uz (a : List Int) : Option ((Nat × Nat) × List Int):=
  cond (decide ((a.length : Int) < 2)) (some ((0,a.length),a)) ((loop (U9 a) 1 : Option ((Unit) ⊕ ((Nat × Nat) × List Int))).bind fun b=>(match b with | .inl _=>some ((0,a.length),a) | .inr c=>some c))
structure ql where
  Lo : Int
  Hi : Int
  deriving DecidableEq
def Qj (x : ql) : List DV:=[.int .i64 x.Lo,.int .i64 x.Hi]
noncomputable def q3s (b : List ql) (c : ql→Option Bool) (a : Int) : Option ((Int) ⊕ ((Unit) ⊕ (Int))):=
  cond (decide (a < (b.length : Int))) ((idx b a).bind fun d=>(c d).bind fun f=>cond f (some (.inr (.inr a))) (some (.inl (w64 (a + 1))))) (some (.inr (.inl ())))
noncomputable def qb3 (a : List ql) (b : ql→Option Bool) : Option Int:=
  (loop (q3s a b) 0 : Option ((Unit) ⊕ (Int))).bind fun c=>(match c with | .inl _=>some (-1) | .inr d=>some d)
noncomputable def qaz (a : List ql) (b : ql→Option Bool) : Option Bool:=
  (qb3 a b).bind fun c=>some (decide (c ≥ 0))
noncomputable def q3z (a : ql) : Option Bool:=
  (cond (decide (a.Lo < a.Hi)) (some (decide (a.Lo ≥ (-1000000)))) (some false)).bind fun b=>(cond b (some (decide (a.Hi≤1000000))) (some false)).bind fun c=>some c
noncomputable def qfe (a : ql) : Option Bool:=
  (q3z a).bind fun b=>some (!b)
def q2k (x : List ql) : List DV:=[.sl 2 (x.map Qj)]
structure qv where
  at_ : Int
  list_ : Int
  by_ : Int
  deriving DecidableEq
def Qk (x : qv) : List DV:=[.int .i64 x.at_,.int .i64 x.list_,.int .i64 x.by_]
noncomputable def qcx (a : qv) (b : qv) : Option Int:=
  some (w64 (a.at_ - b.at_))
noncomputable def qbm (c : Int) (d : qv→qv→Option Int) (a : Int × List qv) : Option ((Int × List qv) ⊕ (List qv)):=
  (cond (decide (a.1 > c)) ((idx a.2 a.1).bind fun f=>(idx a.2 (w64 (a.1 - 1))).bind fun g=>(d f g).bind fun h=>some (decide (h < 0))) (some false)).bind fun j=>cond j ((idx a.2 (w64 (a.1 - 1))).bind fun b=>(idx a.2 a.1).bind fun k=>(idx a.2 a.1).bind fun _=>(idx (a.2.set a.1.toNat b) (w64 (a.1 - 1))).bind fun _=>some (.inl (w64 (a.1 - 1),(a.2.set a.1.toNat b).set (w64 (a.1 - 1)).toNat k))) (some (.inr a.2))
noncomputable def qbl (b : Int) (c : Int) (d : qv→qv→Option Int) (a : Int × List qv) : Option ((Int × List qv) ⊕ (List qv)):=
  cond (decide (a.1 < b)) (((loop (qbm c d) (a.1,a.2)).bind fun f=>some f).bind fun g=>some (.inl (w64 (a.1 + 1),g))) (some (.inr a.2))
noncomputable def qbk (b : qv→qv→Option Int) (c : List qv) (a : Int) (d : Int) : Option (List qv):=
  (loop (qbl d a b) (w64 (a + 1),c)).bind fun f=>some f
noncomputable def qck (d : Int) (b : Int) (f : qv→qv→Option Int) (a : Int × List qv) : Option ((Int × List qv) ⊕ (List qv)):=
  cond (decide ((w64 ((w64 (2 * a.1)) + 1)) ≥ d)) (some (.inr a.2)) ((cond (decide ((w64 ((w64 ((w64 (2 * a.1)) + 1)) + 1)) < d)) ((idx a.2 (w64 (b + (w64 ((w64 (2 * a.1)) + 1))))).bind fun h=>(idx a.2 (w64 ((w64 (b + (w64 ((w64 (2 * a.1)) + 1)))) + 1))).bind fun j=>(f h j).bind fun k=>some (decide (k < 0))) (some false)).bind fun l=>(cond l (some (w64 ((w64 ((w64 (2 * a.1)) + 1)) + 1))) (some (w64 ((w64 (2 * a.1)) + 1)))).bind fun c=>(idx a.2 (w64 (b + a.1))).bind fun m=>(idx a.2 (w64 (b + c))).bind fun n=>(f m n).bind fun o=>cond (!(decide (o < 0))) (some (.inr a.2)) ((idx a.2 (w64 (b + c))).bind fun g=>(idx a.2 (w64 (b + a.1))).bind fun p=>(idx a.2 (w64 (b + a.1))).bind fun _=>(idx (a.2.set (w64 (b + a.1)).toNat g) (w64 (b + c))).bind fun _=>some (.inl (c,(a.2.set (w64 (b + a.1)).toNat g).set (w64 (b + c)).toNat p))))
noncomputable def q8q (a : qv→qv→Option Int) (b : List qv) (c : Int) (d : Int) (f : Int) : Option (List qv):=
  (loop (qck d f a) (c,b)).bind fun g=>some g
noncomputable def qbf (d : qv→qv→Option Int) (f : Int) (b : Int) (a : Int × List qv) : Option ((Int × List qv) ⊕ (List qv)):=
  cond (decide (a.1 ≥ 0)) ((q8q d a.2 a.1 (w64 (f - b)) b).bind fun c=>(K5 c.length a.2.length).bind fun _=>some (.inl (w64 (a.1 - 1),c))) (some (.inr a.2))
noncomputable def qbg (b : Int) (g : qv→qv→Option Int) (a : Int × List qv) : Option ((Int × List qv) ⊕ (List qv)):=
  cond (decide (a.1 ≥ 0)) ((idx a.2 (w64 (b + a.1))).bind fun c=>(idx a.2 b).bind fun d=>(idx a.2 b).bind fun _=>(idx (a.2.set b.toNat c) (w64 (b + a.1))).bind fun _=>(q8q g ((a.2.set b.toNat c).set (w64 (b + a.1)).toNat d) 0 a.1 b).bind fun f=>(K5 f.length ((a.2.set b.toNat c).set (w64 (b + a.1)).toNat d).length).bind fun _=>some (.inl (w64 (a.1 - 1),f))) (some (.inr a.2))
noncomputable def qbe (c : qv→qv→Option Int) (d : List qv) (a : Int) (b : Int) : Option (List qv):=
  (loop (qbf c b a) (w64 (Int.tdiv (w64 ((w64 (b - a)) - 1)) 2),d)).bind fun f=>(loop (qbg a c) (w64 ((w64 (b - a)) - 1),f)).bind fun g=>some g
noncomputable def q5s (f : qv→qv→Option Int) (c : List qv) (a : Int) (b : Int) (d : Int) : Option (Int × Int × Int):=
  (idx c b).bind fun g=>(idx c a).bind fun h=>(f g h).bind fun j=>cond (decide (j < 0)) (some (b,a,w64 (d + 1))) (some (a,b,d))
noncomputable def q80 (a : qv→qv→Option Int) (b : List qv) (g : Int) (h : Int) (j : Int) (k : Int) : Option (Int × Int):=
  (q5s a b g h k).bind fun c=>(q5s a b c.2.1 j c.2.2).bind fun d=>(q5s a b c.1 d.1 d.2.2).bind fun f=>some (f.2.1,f.2.2)
noncomputable def q5p (c : qv→qv→Option Int) (d : List qv) (a : Int) (f : Int) : Option (Int × Int):=
  (q80 c d (w64 (a - 1)) a (w64 (a + 1)) f).bind fun b=>some (b.1,b.2)
noncomputable def qba (d : List qv) (a : Int) (b : Int) (f : qv→qv→Option Int) : Option (Int × Int):=
  (cond (decide ((w64 (b - a)) ≥ 8)) ((cond (decide ((w64 (b - a)) ≥ 50)) ((q5p f d (w64 (a + (w64 ((w64 (Int.tdiv (w64 (b - a)) 4)) * 1)))) 0).bind fun h=>(q5p f d (w64 (a + (w64 ((w64 (Int.tdiv (w64 (b - a)) 4)) * 2)))) h.2).bind fun j=>(q5p f d (w64 (a + (w64 ((w64 (Int.tdiv (w64 (b - a)) 4)) * 3)))) j.2).bind fun k=>some (h.1,j.1,k.1,k.2)) (some (w64 (a + (w64 ((w64 (Int.tdiv (w64 (b - a)) 4)) * 1))),w64 (a + (w64 ((w64 (Int.tdiv (w64 (b - a)) 4)) * 2))),w64 (a + (w64 ((w64 (Int.tdiv (w64 (b - a)) 4)) * 3))),0))).bind fun g=>(q80 f d g.1 g.2.1 g.2.2.1 g.2.2.2).bind fun l=>some (l.1,l.2)) (some (w64 (a + (w64 ((w64 (Int.tdiv (w64 (b - a)) 4)) * 2))),0))).bind fun c=>cond (c.2 == 0) (some (c.1,1)) (cond (c.2 == 12) (some (c.1,2)) (some (c.1,0)))
noncomputable def qch (a : Int × Int × List qv) : Option ((Int × Int × List qv) ⊕ (List qv)):=
  cond (decide (a.1 < a.2.1)) ((idx a.2.2 a.2.1).bind fun b=>(idx a.2.2 a.1).bind fun c=>(idx a.2.2 a.1).bind fun _=>(idx (a.2.2.set a.1.toNat b) a.2.1).bind fun _=>some (.inl (w64 (a.1 + 1),w64 (a.2.1 - 1),(a.2.2.set a.1.toNat b).set a.2.1.toNat c))) (some (.inr a.2.2))
noncomputable def qcg (f : qv→qv→Option Int) (a : List qv) (b : Int) (c : Int) : Option (List qv):=
  (loop qch (b,w64 (c - 1),a)).bind fun d=>some d
noncomputable def qbq (c : Int) (b : Int × Int × List qv) (d : qv→qv→Option Int) (a : Int) : Option ((Int) ⊕ (Int)):=
  (cond (decide (a < c)) ((idx b.2.2 a).bind fun f=>(idx b.2.2 (w64 (a - 1))).bind fun g=>(d f g).bind fun h=>some (!(decide (h < 0)))) (some false)).bind fun j=>cond j (some (.inl (w64 (a + 1)))) (some (.inr a))
noncomputable def qbr (c : qv→qv→Option Int) (a : Int × List qv) : Option ((Int × List qv) ⊕ (List qv)):=
  cond (decide (a.1 ≥ 1)) ((idx a.2 a.1).bind fun d=>(idx a.2 (w64 (a.1 - 1))).bind fun f=>(c d f).bind fun g=>cond (!(decide (g < 0))) (some (.inr a.2)) ((idx a.2 (w64 (a.1 - 1))).bind fun b=>(idx a.2 a.1).bind fun h=>(idx a.2 a.1).bind fun _=>(idx (a.2.set a.1.toNat b) (w64 (a.1 - 1))).bind fun _=>some (.inl (w64 (a.1 - 1),(a.2.set a.1.toNat b).set (w64 (a.1 - 1)).toNat h)))) (some (.inr a.2))
noncomputable def qbs (d : Int) (f : qv→qv→Option Int) (b : Int) (a : Int × List qv) : Option ((Int × List qv) ⊕ (Int × List qv)):=
  cond (decide (a.1 < d)) ((idx a.2 a.1).bind fun g=>(idx a.2 (w64 (a.1 - 1))).bind fun h=>(f g h).bind fun j=>cond (!(decide (j < 0))) (some (.inr (b,a.2))) ((idx a.2 (w64 (a.1 - 1))).bind fun c=>(idx a.2 a.1).bind fun k=>(idx a.2 a.1).bind fun _=>(idx (a.2.set a.1.toNat c) (w64 (a.1 - 1))).bind fun _=>some (.inl (w64 (a.1 + 1),(a.2.set a.1.toNat c).set (w64 (a.1 - 1)).toNat k)))) (some (.inr (b,a.2)))
noncomputable def q84 (c : Int) (d : qv→qv→Option Int) (h : Int) (b : Int × Int × List qv) : Option ((Int × Int × List qv) ⊕ ((List qv) ⊕ (Bool × List qv))):=
  cond (decide (b.2.1 < 5)) (((loop (qbq c b d) b.1).bind fun a=>cond (a == c) (some (.inr (true,b.2.2))) (cond (decide ((w64 (c - h)) < 50)) (some (.inr (false,b.2.2))) ((idx b.2.2 (w64 (a - 1))).bind fun f=>(idx b.2.2 a).bind fun j=>(idx b.2.2 a).bind fun _=>(idx (b.2.2.set a.toNat f) (w64 (a - 1))).bind fun _=>(cond (decide ((w64 (a - h)) ≥ 2)) ((loop (qbr d) (w64 (a - 1),(b.2.2.set a.toNat f).set (w64 (a - 1)).toNat j)).bind fun g=>some g) (some ((b.2.2.set a.toNat f).set (w64 (a - 1)).toNat j))).bind fun k=>cond (decide ((w64 (c - a)) ≥ 2)) ((loop (qbs c d a) (w64 (a + 1),k)).bind fun g=>some (.inl g)) (some (.inl (a,k))))) : Option ((Int × List qv) ⊕ (Bool × List qv))).bind fun m=>(match m with | .inl l=>some (.inl (l.1,w64 (b.2.1 + 1),l.2)) | .inr n=>some (.inr (.inr n)))) (some (.inr (.inl b.2.2)))
noncomputable def q83 (b : qv→qv→Option Int) (c : List qv) (a : Int) (d : Int) : Option (Bool × List qv):=
  (loop (q84 d b a) (w64 (a + 1),0,c) : Option ((List qv) ⊕ (Bool × List qv))).bind fun f=>(match f with | .inl g=>some (false,g) | .inr h=>some h)
noncomputable def qcc (b : Int × Int × List qv) (c : Int) (d : qv→qv→Option Int) (a : Int) : Option ((Int) ⊕ (Int)):=
  (cond (decide (a≤b.2.1)) ((idx b.2.2 c).bind fun f=>(idx b.2.2 a).bind fun g=>(d f g).bind fun h=>some (!(decide (h < 0)))) (some false)).bind fun j=>cond j (some (.inl (w64 (a + 1)))) (some (.inr a))
noncomputable def qcd (c : Int) (b : Int × Int × List qv) (d : Int) (f : qv→qv→Option Int) (a : Int) : Option ((Int) ⊕ (Int)):=
  (cond (decide (c≤a)) ((idx b.2.2 d).bind fun g=>(idx b.2.2 a).bind fun h=>(f g h).bind fun j=>some (decide (j < 0))) (some false)).bind fun k=>cond k (some (.inl (w64 (a - 1)))) (some (.inr a))
noncomputable def qcb (d : Int) (f : qv→qv→Option Int) (a : Int × Int × List qv) : Option ((Int × Int × List qv) ⊕ (Int × List qv)):=
  (loop (qcc a d f) a.1).bind fun b=>(loop (qcd b a d f) a.2.1).bind fun c=>cond (decide (b > c)) (some (.inr (b,a.2.2))) ((idx a.2.2 c).bind fun g=>(idx a.2.2 b).bind fun h=>(idx a.2.2 b).bind fun _=>(idx (a.2.2.set b.toNat g) c).bind fun _=>some (.inl (w64 (b + 1),w64 (c - 1),(a.2.2.set b.toNat g).set c.toNat h)))
noncomputable def qca (g : qv→qv→Option Int) (b : List qv) (a : Int) (h : Int) (c : Int) : Option (Int × List qv):=
  (idx b c).bind fun d=>(idx b a).bind fun j=>(idx b a).bind fun _=>(idx (b.set a.toNat d) c).bind fun _=>(loop (qcb a g) (w64 (a + 1),w64 (h - 1),(b.set a.toNat d).set c.toNat j)).bind fun f=>some (f.1,f.2)
noncomputable def qc1 (h : Int) (c : List qv) (b : Int) (d : qv) (f : Int) (g : qv) (j : qv→qv→Option Int) (a : Int) : Option ((Int) ⊕ (Int)):=
  (cond (decide (a≤(w64 (h - 1)))) ((idx ((c.set b.toNat d).set f.toNat g) a).bind fun k=>(idx ((c.set b.toNat d).set f.toNat g) b).bind fun l=>(j k l).bind fun m=>some (decide (m < 0))) (some false)).bind fun n=>cond n (some (.inl (w64 (a + 1)))) (some (.inr a))
noncomputable def qc2 (h : Int) (c : List qv) (b : Int) (d : qv) (f : Int) (g : qv) (j : qv→qv→Option Int) (a : Int) : Option ((Int) ⊕ (Int)):=
  (cond (decide (h≤a)) ((idx ((c.set b.toNat d).set f.toNat g) a).bind fun k=>(idx ((c.set b.toNat d).set f.toNat g) b).bind fun l=>(j k l).bind fun m=>some (!(decide (m < 0)))) (some false)).bind fun n=>cond n (some (.inl (w64 (a - 1)))) (some (.inr a))
noncomputable def qc4 (b : Int × Int × List qv) (c : Int) (d : qv→qv→Option Int) (a : Int) : Option ((Int) ⊕ (Int)):=
  (cond (decide (a≤b.2.1)) ((idx b.2.2 a).bind fun f=>(idx b.2.2 c).bind fun g=>(d f g).bind fun h=>some (decide (h < 0))) (some false)).bind fun j=>cond j (some (.inl (w64 (a + 1)))) (some (.inr a))
noncomputable def qc5 (c : Int) (b : Int × Int × List qv) (d : Int) (f : qv→qv→Option Int) (a : Int) : Option ((Int) ⊕ (Int)):=
  (cond (decide (c≤a)) ((idx b.2.2 a).bind fun g=>(idx b.2.2 d).bind fun h=>(f g h).bind fun j=>some (!(decide (j < 0)))) (some false)).bind fun k=>cond k (some (.inl (w64 (a - 1)))) (some (.inr a))
noncomputable def qc3 (d : Int) (f : qv→qv→Option Int) (a : Int × Int × List qv) : Option ((Int × Int × List qv) ⊕ (Int × List qv)):=
  (loop (qc4 a d f) a.1).bind fun b=>(loop (qc5 b a d f) a.2.1).bind fun c=>cond (decide (b > c)) (some (.inr (c,a.2.2))) ((idx a.2.2 c).bind fun g=>(idx a.2.2 b).bind fun h=>(idx a.2.2 b).bind fun _=>(idx (a.2.2.set b.toNat g) c).bind fun _=>some (.inl (w64 (b + 1),w64 (c - 1),(a.2.2.set b.toNat g).set c.toNat h)))
noncomputable def qc0 (k : qv→qv→Option Int) (b : List qv) (a : Int) (l : Int) (c : Int) : Option (Int × Bool × List qv):=
  (idx b c).bind fun d=>(idx b a).bind fun f=>(idx b a).bind fun _=>(idx (b.set a.toNat d) c).bind fun _=>(loop (qc1 l b a d c f k) (w64 (a + 1))).bind fun j=>(loop (qc2 j b a d c f k) (w64 (l - 1))).bind fun g=>cond (decide (j > g)) ((idx ((b.set a.toNat d).set c.toNat f) a).bind fun m=>(idx ((b.set a.toNat d).set c.toNat f) g).bind fun p=>(idx ((b.set a.toNat d).set c.toNat f) g).bind fun _=>(idx (((b.set a.toNat d).set c.toNat f).set g.toNat m) a).bind fun _=>some (g,true,(((b.set a.toNat d).set c.toNat f).set g.toNat m).set a.toNat p)) ((idx ((b.set a.toNat d).set c.toNat f) g).bind fun n=>(idx ((b.set a.toNat d).set c.toNat f) j).bind fun q=>(idx ((b.set a.toNat d).set c.toNat f) j).bind fun _=>(idx (((b.set a.toNat d).set c.toNat f).set j.toNat n) g).bind fun _=>(loop (qc3 a k) (w64 (j + 1),w64 (g - 1),(((b.set a.toNat d).set c.toNat f).set j.toNat n).set g.toNat q)).bind fun h=>(idx h.2 a).bind fun o=>(idx h.2 h.1).bind fun r=>(idx h.2 h.1).bind fun _=>(idx (h.2.set h.1.toNat o) a).bind fun _=>some (h.1,false,(h.2.set h.1.toNat o).set a.toNat r))
noncomputable def qb8 (b : Int) (d : Int) (f : Int) (a : Int × List qv × Int) : Option ((Int × List qv × Int) ⊕ (List qv)):=
  cond (decide (a.1≤(w64 ((w64 (b + (w64 ((w64 (Int.tdiv (w64 (d - b)) 4)) * 2)))) + 1)))) ((q11 a.2.2).bind fun c=>(cond (decide ((w64 (andI .u64 c (IntKind.wrap .u64 (f - 1)))) ≥ (w64 (d - b)))) (some (w64 ((w64 (andI .u64 c (IntKind.wrap .u64 (f - 1)))) - (w64 (d - b))))) (some (w64 (andI .u64 c (IntKind.wrap .u64 (f - 1)))))).bind fun g=>(idx a.2.1 (w64 (b + g))).bind fun h=>(idx a.2.1 a.1).bind fun j=>(idx a.2.1 a.1).bind fun _=>(idx (a.2.1.set a.1.toNat h) (w64 (b + g))).bind fun _=>some (.inl (w64 (a.1 + 1),(a.2.1.set a.1.toNat h).set (w64 (b + g)).toNat j,c))) (some (.inr a.2.1))
noncomputable def qb7 (g : qv→qv→Option Int) (c : List qv) (a : Int) (b : Int) : Option (List qv):=
  cond (decide ((w64 (b - a)) ≥ 8)) ((q10 (w64 (b - a))).bind fun d=>(loop (qb8 a b d) (w64 ((w64 (a + (w64 ((w64 (Int.tdiv (w64 (b - a)) 4)) * 2)))) - 1),c,IntKind.wrap .u64 (w64 (b - a)))).bind fun f=>some f) (some c)
noncomputable def q8l (c : qv→qv→Option Int) (rec : List qv→Int→Int→Int→Option (List qv)) (a : Int × Int × Int × Bool × Bool × List qv) : Option ((Int × Int × Int × Bool × Bool × List qv) ⊕ (List qv)):=
  cond (decide ((w64 (a.2.1 - a.1))≤12)) ((qbk c a.2.2.2.2.2 a.1 a.2.1).bind fun l=>(K5 l.length a.2.2.2.2.2.length).bind fun _=>some (.inr l)) (cond (a.2.2.1 == 0) ((qbe c a.2.2.2.2.2 a.1 a.2.1).bind fun m=>(K5 m.length a.2.2.2.2.2.length).bind fun _=>some (.inr m)) ((cond (!a.2.2.2.1) ((qb7 c a.2.2.2.2.2 a.1 a.2.1).bind fun n=>(K5 n.length a.2.2.2.2.2.length).bind fun _=>some (w64 (a.2.2.1 - 1),n)) (some (a.2.2.1,a.2.2.2.2.2))).bind fun d=>(qba d.2 a.1 a.2.1 c).bind fun h=>(cond (h.2 == 2) ((qcg c d.2 a.1 a.2.1).bind fun o=>(K5 o.length d.2.length).bind fun _=>some (w64 ((w64 (a.2.1 - 1)) - (w64 (h.1 - a.1))),1,o)) (some (h.1,h.2,d.2))).bind fun f=>(cond a.2.2.2.1 (some a.2.2.2.2.1) (some false)).bind fun r=>(cond r (some (f.2.1 == 1)) (some false)).bind fun s=>(cond s ((q83 c f.2.2 a.1 a.2.1).bind fun j=>(K5 j.2.length f.2.2.length).bind fun _=>cond j.1 (some (.inr j.2)) (some (.inl j.2))) (some (.inl f.2.2)) : Option ((List qv) ⊕ (List qv))).bind fun t=>(match t with | .inl g=>(cond (decide (a.1 > 0)) ((idx g (w64 (a.1 - 1))).bind fun u=>(idx g f.1).bind fun v=>(c u v).bind fun w=>some (!(decide (w < 0)))) (some false)).bind fun x=>cond x ((qca c g a.1 a.2.1 f.1).bind fun k=>(K5 k.2.length g.length).bind fun _=>some (.inl (k.1,a.2.1,d.1,a.2.2.2.1,a.2.2.2.2.1,k.2))) ((qc0 c g a.1 a.2.1 f.1).bind fun b=>(K5 b.2.2.length g.length).bind fun _=>cond (decide ((w64 (b.1 - a.1)) < (w64 (a.2.1 - b.1)))) ((rec b.2.2 a.1 b.1 d.1).bind fun p=>(K5 p.length b.2.2.length).bind fun _=>some (.inl (w64 (b.1 + 1),a.2.1,d.1,decide ((w64 (b.1 - a.1)) ≥ (w64 (Int.tdiv (w64 (a.2.1 - a.1)) 8))),b.2.1,p))) ((rec b.2.2 (w64 (b.1 + 1)) a.2.1 d.1).bind fun q=>(K5 q.length b.2.2.length).bind fun _=>some (.inl (a.1,b.1,d.1,decide ((w64 (a.2.1 - b.1)) ≥ (w64 (Int.tdiv (w64 (a.2.1 - a.1)) 8))),b.2.1,q)))) | .inr y=>some (.inr y))))
noncomputable def q8m (rec : List qv→Int→Int→Int→Option (List qv)) (a : qv→qv→Option Int) (b : List qv) (c : Int) (d : Int) (f : Int) : Option (List qv):=
  (loop (q8l a rec) (c,d,f,true,true,b)).bind fun g=>some g
noncomputable def q8k : Nat→(qv→qv→Option Int)→List qv→Int→Int→Int→Option (List qv)
  | 0,_,_,_,_,_=>none
  | n + 1,a,b,c,d,f=>q8m (q8k n a) a b c d f
noncomputable def q7p (c : qv→qv→Option Int) (a : List qv) : Option (List qv):=
  (U3 (IntKind.wrap .u64 (a.length : Int))).bind fun d=>(lim (fun n=>q8k n c a 0 (a.length : Int) d)).bind fun b=>(K5 b.length a.length).bind fun _=>some b
noncomputable def qf6 (a : List qv) : Option (List qv):=
  some a
noncomputable def q61 (b : List ql) (c : Int × List qv) (a : Int × List qv) : Option ((Int × List qv) ⊕ (List qv)):=
  cond (decide (a.1 < (b.length : Int))) ((idx b a.1).bind fun d=>(app 24 a.2 [({at_:=d.Lo,list_:=c.1,by_:=1} : qv),({at_:=d.Hi,list_:=c.1,by_:=(-1)} : qv)]).bind fun f=>some (.inl (w64 (a.1 + 1),f))) (some (.inr a.2))
noncomputable def q2h (b : List (List ql)) (a : Int × List qv) : Option ((Int × List qv) ⊕ (List qv)):=
  cond (decide (a.1 < (b.length : Int))) (((idx b a.1).bind fun c=>(loop (q61 c a) (0,a.2)).bind fun d=>some d).bind fun f=>some (.inl (w64 (a.1 + 1),f))) (some (.inr a.2))
noncomputable def qcy (b : List (List ql)) : Option (List (List ql) × List qv):=
  (loop (q2h b) (0,[])).bind fun c=>(q7p (fun f g=>qcx f g) c).bind fun a=>(K5 a.length c.length).bind fun _=>(qf6 a).bind fun d=>(K5 d.length a.length).bind fun _=>some (b,d)
noncomputable def qcz (d : Int) (c : Bool) (b : Int) (a : List ql) : Option (Bool × Int × List ql):=
  (cond (!c) (some true) (some (b == d))).bind fun f=>cond f (some (c,b,a)) ((cond (decide ((a.length : Int) > 0)) ((idx a (w64 ((a.length : Int) - 1))).bind fun g=>some (g.Hi == b)) (some false)).bind fun h=>cond h ((idx a (w64 ((a.length : Int) - 1))).bind fun j=>some (c,b,a.set (w64 ((a.length : Int) - 1)).toNat ({Lo:=j.Lo,Hi:=d} : ql))) ((app 16 a [({Lo:=b,Hi:=d} : ql)]).bind fun k=>some (c,b,k)))
noncomputable def q62 (f : List (List ql) × List qv) (g : Bool→Bool→Option Bool) (a : Int × List Int × Int × Bool × List ql) : Option ((Int × List Int × Int × Bool × List ql) ⊕ (List ql)):=
  cond (decide (a.1 < (f.2.length : Int))) ((idx f.2 a.1).bind fun b=>((qcz b.at_ a.2.2.2.1 a.2.2.1 a.2.2.2.2).bind fun h=>(idxA 2 a.2.1 b.list_).bind fun c=>(idxA 2 a.2.1 b.list_).bind fun _=>(idxA 2 (a.2.1.set b.list_.toNat (w64 (c + b.by_))) 0).bind fun j=>(idxA 2 (a.2.1.set b.list_.toNat (w64 (c + b.by_))) 1).bind fun k=>(g (decide (j > 0)) (decide (k > 0))).bind fun l=>some (a.2.1.set b.list_.toNat (w64 (c + b.by_)),l,h.2.2)).bind fun d=>some (.inl (w64 (a.1 + 1),d.1,b.at_,d.2.1,d.2.2))) (some (.inr a.2.2.2.2))
noncomputable def q3y (a : List ql) (b : List ql) (d : Bool→Bool→Option Bool) : Option (List ql):=
  (qcy [a,b]).bind fun c=>(K5 c.1.length [a,b].length).bind fun _=>((loop (q62 c d) (0,[0,0],0,false,[])).bind fun f=>some f).bind fun g=>some g
noncomputable def qcv (a : Bool) (b : Bool) : Option Bool:=
  some a
noncomputable def q3x (a : List ql) : Option (List ql × Int):=
  cond (decide ((a.length : Int) > 400)) (some ([],4)) ((qaz a (fun b=>qfe b)).bind fun c=>cond c (some ([],8)) ((q3y a [] (fun b d=>qcv b d)).bind fun f=>some (f,0)))
noncomputable def qf4 (b : List ql) (f : List ql) (a : Int) : Option ((Int) ⊕ ((Unit) ⊕ (Bool))):=
  cond (decide (a < (b.length : Int))) ((idx b a).bind fun c=>(idx f a).bind fun d=>cond (!((c.Lo == d.Lo) && ((c.Hi == d.Hi) && true))) (some (.inr (.inr false))) (some (.inl (w64 (a + 1))))) (some (.inr (.inl ())))
noncomputable def q3r (a : List ql) (b : List ql) : Option Bool:=
  cond ((a.length : Int) != (b.length : Int)) (some false) ((loop (qf4 a b) 0 : Option ((Unit) ⊕ (Bool))).bind fun c=>(match c with | .inl _=>some true | .inr d=>some d))
noncomputable def q7h (c : Int) (a : Int × List qf) : Option ((Int × List qf) ⊕ (List qf)):=
  cond (decide (a.1 < (a.2.length : Int))) ((idx a.2 a.1).bind fun b=>some (.inl (w64 (a.1 + 1),a.2.set a.1.toNat ({X0:=b.X0,Y0:=b.Y0,X1:=c,Y1:=b.Y1} : qf)))) (some (.inr a.2))
noncomputable def q7i (b : List ql) (f : Int) (c : Int) (g : List qf) (a : Int × List qf) : Option ((Int × List qf) ⊕ (List ql × Int × Int × List qf)):=
  cond (decide (a.1 < (b.length : Int))) ((idx b a.1).bind fun d=>(app 32 a.2 [({X0:=f,Y0:=d.Lo,X1:=c,Y1:=d.Hi} : qf)]).bind fun h=>some (.inl (w64 (a.1 + 1),h))) (some (.inr (b,(g.length : Int),c,a.2)))
noncomputable def q7g (a : List qf) (d : List ql) (f : Int) (h : Int) (g : Int) (b : Int) (c : List ql) : Option (List ql × Int × Int × List qf):=
  (cond (decide ((c.length : Int) > 0)) (some (h == g)) (some false)).bind fun j=>(cond j ((q3r d c).bind fun k=>some k) (some false)).bind fun l=>cond l ((loop (q7h b) (f,a)).bind fun m=>some (d,f,b,m)) ((loop (q7i c g b a) (0,a)).bind fun n=>some n)
noncomputable def Jk (b : List qf) (a : Int × List Int) : Option ((Int × List Int) ⊕ (List Int)):=
  cond (decide (a.1 < (b.length : Int))) ((idx b a.1).bind fun c=>(app 8 a.2 [c.X0,c.X1]).bind fun d=>some (.inl (w64 (a.1 + 1),d))) (some (.inr a.2))
noncomputable def q1o (c : List qf) (d : Int) (a : Int × List ql) : Option ((Int × List ql) ⊕ (List ql)):=
  cond (decide (a.1 < (c.length : Int))) (((idx c a.1).bind fun b=>(cond (decide (b.X0≤d)) (some (decide (d < b.X1))) (some false)).bind fun f=>cond f ((app 16 a.2 [({Lo:=b.Y0,Hi:=b.Y1} : ql)]).bind fun g=>some g) (some a.2)).bind fun h=>some (.inl (w64 (a.1 + 1),h))) (some (.inr a.2))
noncomputable def q3n (d : List Int) (g : List qf) (a : Int × List ql × Int × Int × List qf) : Option ((Int × List ql × Int × Int × List qf) ⊕ (List ql × Int × Int × List qf)):=
  cond (decide (a.1 < (d.length : Int))) ((idx d (w64 (a.1 - 1))).bind fun f=>(idx d a.1).bind fun h=>((idx [g] 0).bind fun j=>(loop (q1o j f) (0,[])).bind fun k=>some k).bind fun l=>((q3x l).bind fun m=>(q7g a.2.2.2.2 a.2.1 a.2.2.1 a.2.2.2.1 f h m.1).bind fun b=>some (b.1,b.2.1,b.2.2.1,b.2.2.2)).bind fun c=>some (.inl (w64 (a.1 + 1),c.1,c.2.1,c.2.2.1,c.2.2.2))) (some (.inr (a.2.1,a.2.2.1,a.2.2.2.1,a.2.2.2.2)))
noncomputable def q7j (d : List qf) : Option (List qf × Int):=
  (((idx [d] 0).bind fun j=>(loop (Jk j) (0,[])).bind fun b=>some b).bind fun f=>(Jm f).bind fun c=>(K5 c.length f.length).bind fun _=>(Uz c).bind fun a=>(K5 a.2.length c.length).bind fun _=>(Jn a.2.length a.1).bind fun _=>some ((a.2.drop a.1.1).take a.1.2)).bind fun k=>((loop (q3n k d) (1,[],0,0,[])).bind fun b=>some b).bind fun g=>(cond (decide ((g.2.2.2.length : Int) > 400)) (some (4,[])) (some (0,g.2.2.2))).bind fun h=>some (h.2,h.1)
noncomputable def qf1 (d : List qf) (f : List qf) (a : Int) : Option ((Int) ⊕ ((Unit) ⊕ (Bool))):=
  cond (decide (a < (d.length : Int))) ((idx d a).bind fun b=>(idx f a).bind fun c=>cond (!((b.X0 == c.X0) && ((b.Y0 == c.Y0) && ((b.X1 == c.X1) && ((b.Y1 == c.Y1) && true))))) (some (.inr (.inr false))) (some (.inl (w64 (a + 1))))) (some (.inr (.inl ())))
noncomputable def q2c (a : List qf) (b : List qf) : Option Bool:=
  cond ((a.length : Int) != (b.length : Int)) (some false) ((loop (qf1 a b) 0 : Option ((Unit) ⊕ (Bool))).bind fun c=>(match c with | .inl _=>some true | .inr d=>some d))
noncomputable def q2b (a : List qf) : Option Int:=
  cond (decide ((a.length : Int) > 400)) (some 4) ((q5k a (fun c=>q3k c)).bind fun d=>cond d (some 8) ((q7j a).bind fun b=>(cond (b.2 != 0) (some true) ((q2c b.1 a).bind fun f=>some (!f))).bind fun g=>cond g (some 8) (some 0)))
noncomputable def q78 (a : Int) : Option Bool:=
  (cond (decide (a ≥ (-1000000))) (some (decide (a≤1000000))) (some false)).bind fun b=>some b
noncomputable def qi3 (a : Int) (b : Unit) : Option ((Unit) ⊕ (Unit)):=
  cond (decide (a < 0)) none (some (.inr ()))
noncomputable def q79 (c : List qf) (f : Int) (d : Int) (a : Int × List qk) : Option ((Int × List qk) ⊕ (List qf × Int × Int × List qk)):=
  cond (decide (a.1 < (c.length : Int))) ((idx c a.1).bind fun b=>(app 48 a.2 [({Lo:=({X:=b.X0,Y:=b.Y0,Z:=f} : Q0),Hi:=({X:=b.X1,Y:=b.Y1,Z:=d} : Q0)} : qk)]).bind fun g=>some (.inl (w64 (a.1 + 1),g))) (some (.inr (c,0,d,a.2)))
noncomputable def qan (b : Int) (f : Int) (c : Int) (d : Int) (a : List qf) : Option (List qf × Int × Int × List qk):=
  (cond (decide ((a.length : Int) > 0)) (some (f == c)) (some false)).bind fun g=>(cond g ((q2c [] a).bind fun h=>some h) (some false)).bind fun j=>cond j ((loop (qi3 b) ()).bind fun _=>some ([],b,d,[])) ((loop (q79 a c d) (0,[])).bind fun k=>some k)
noncomputable def q77 (c : List qf) (a : Int) (b : Int) : Option (List qk × Int):=
  (q2b c).bind fun d=>cond (d != 0) (some ([],d)) ((q78 a).bind fun h=>(cond (!h) (some true) ((q78 b).bind fun j=>some (!j))).bind fun k=>(cond k (some true) (some (decide (a ≥ b)))).bind fun l=>cond l (some ([],2)) ((qan 0 0 a b c).bind fun f=>(cond (decide ((f.2.2.2.length : Int) > 400)) (some (4,[])) (some (0,f.2.2.2))).bind fun g=>some (g.2,g.1)))
noncomputable def q2e (b : List qk) (c : qk→Option Bool) (a : Int) : Option ((Int) ⊕ ((Unit) ⊕ (Int))):=
  cond (decide (a < (b.length : Int))) ((idx b a).bind fun d=>(c d).bind fun f=>cond f (some (.inr (.inr a))) (some (.inl (w64 (a + 1))))) (some (.inr (.inl ())))
noncomputable def qb2 (a : List qk) (b : qk→Option Bool) : Option Int:=
  (loop (q2e a b) 0 : Option ((Unit) ⊕ (Int))).bind fun c=>(match c with | .inl _=>some (-1) | .inr d=>some d)
noncomputable def q5l (a : List qk) (b : qk→Option Bool) : Option Bool:=
  (qb2 a b).bind fun c=>some (decide (c ≥ 0))
noncomputable def q8y (a : Q0) : Option Bool:=
  (cond (decide ((min (min a.X a.Y) a.Z) ≥ (-1000000))) (some (decide ((max (max a.X a.Y) a.Z)≤1000000))) (some false)).bind fun b=>some b
noncomputable def qcr (a : qk) : Option Bool:=
  (cond (decide (a.Lo.X < a.Hi.X)) (some (decide (a.Lo.Y < a.Hi.Y))) (some false)).bind fun b=>(cond b (some (decide (a.Lo.Z < a.Hi.Z))) (some false)).bind fun c=>(cond c ((q8y a.Lo).bind fun d=>some d) (some false)).bind fun f=>(cond f ((q8y a.Hi).bind fun g=>some g) (some false)).bind fun h=>some h
noncomputable def q3v (a : qk) : Option Bool:=
  (qcr a).bind fun b=>some (!b)
def Kc (x : List qk) : List DV:=[.sl 6 (x.map Qi)]
noncomputable def q1p (b : List qf) (c : qf→Option Bool) (a : Int) : Option ((Int) ⊕ ((Unit) ⊕ (Int))):=
  cond (decide (a < (b.length : Int))) ((idx b a).bind fun d=>(c d).bind fun f=>cond f (some (.inr (.inr a))) (some (.inl (w64 (a + 1))))) (some (.inr (.inl ())))
noncomputable def q5m (a : List qf) (b : qf→Option Bool) : Option Int:=
  (loop (q1p a b) 0 : Option ((Unit) ⊕ (Int))).bind fun c=>(match c with | .inl _=>some (-1) | .inr d=>some d)
noncomputable def qay (a : List qf) (b : qf→Option Bool) : Option Bool:=
  (q5m a b).bind fun c=>some (decide (c ≥ 0))
noncomputable def q3l (a : qf) : Option Bool:=
  (q7k a).bind fun b=>some (!b)
noncomputable def q2w (a : List qf) : Option (List qf × Int):=
  cond (decide ((a.length : Int) > 400)) (some ([],4)) ((qay a (fun c=>q3l c)).bind fun d=>cond d (some ([],8)) ((q7j a).bind fun b=>some (b.1,b.2)))
noncomputable def q8w (c : Int) (a : Int × List qk) : Option ((Int × List qk) ⊕ (List qk)):=
  cond (decide (a.1 < (a.2.length : Int))) ((idx a.2 a.1).bind fun b=>some (.inl (w64 (a.1 + 1),a.2.set a.1.toNat ({Lo:=b.Lo,Hi:=({X:=b.Hi.X,Y:=b.Hi.Y,Z:=c} : Q0)} : qk)))) (some (.inr a.2))
noncomputable def q8x (c : List qf) (f : Int) (d : Int) (g : List qk) (a : Int × List qk) : Option ((Int × List qk) ⊕ (List qf × Int × Int × List qk)):=
  cond (decide (a.1 < (c.length : Int))) ((idx c a.1).bind fun b=>(app 48 a.2 [({Lo:=({X:=b.X0,Y:=b.Y0,Z:=f} : Q0),Hi:=({X:=b.X1,Y:=b.Y1,Z:=d} : Q0)} : qk)]).bind fun h=>some (.inl (w64 (a.1 + 1),h))) (some (.inr (c,(g.length : Int),d,a.2)))
noncomputable def q8v (a : List qk) (d : List qf) (f : Int) (h : Int) (g : Int) (b : Int) (c : List qf) : Option (List qf × Int × Int × List qk):=
  (cond (decide ((c.length : Int) > 0)) (some (h == g)) (some false)).bind fun j=>(cond j ((q2c d c).bind fun k=>some k) (some false)).bind fun l=>cond l ((loop (q8w b) (f,a)).bind fun m=>some (d,f,b,m)) ((loop (q8x c g b a) (0,a)).bind fun n=>some n)
noncomputable def q30 (b : List qk) (a : Int × List Int) : Option ((Int × List Int) ⊕ (List Int)):=
  cond (decide (a.1 < (b.length : Int))) ((idx b a.1).bind fun c=>(app 8 a.2 [c.Lo.Z,c.Hi.Z]).bind fun d=>some (.inl (w64 (a.1 + 1),d))) (some (.inr a.2))
noncomputable def q2g (c : List qk) (d : Int) (a : Int × List qf) : Option ((Int × List qf) ⊕ (List qf)):=
  cond (decide (a.1 < (c.length : Int))) (((idx c a.1).bind fun b=>(cond (decide (b.Lo.Z≤d)) (some (decide (d < b.Hi.Z))) (some false)).bind fun f=>cond f ((app 32 a.2 [({X0:=b.Lo.X,Y0:=b.Lo.Y,X1:=b.Hi.X,Y1:=b.Hi.Y} : qf)]).bind fun g=>some g) (some a.2)).bind fun h=>some (.inl (w64 (a.1 + 1),h))) (some (.inr a.2))
noncomputable def q60 (d : List Int) (h : List qk) (a : Int × List qf × Int × Int × List qk) : Option ((Int × List qf × Int × Int × List qk) ⊕ ((List qf × Int × Int × List qk) ⊕ (List qk × Int))):=
  cond (decide (a.1 < (d.length : Int))) ((idx d (w64 (a.1 - 1))).bind fun g=>(idx d a.1).bind fun j=>((idx [h] 0).bind fun k=>(loop (q2g k g) (0,[])).bind fun l=>some l).bind fun m=>((q2w m).bind fun f=>cond (f.2 != 0) (some (.inr ([],f.2))) ((q8v a.2.2.2.2 a.2.1 a.2.2.1 a.2.2.2.1 g j f.1).bind fun b=>some (.inl (b.1,b.2.1,b.2.2.1,b.2.2.2))) : Option ((List qf × Int × Int × List qk) ⊕ (List qk × Int))).bind fun n=>(match n with | .inl c=>some (.inl (w64 (a.1 + 1),c.1,c.2.1,c.2.2.1,c.2.2.2)) | .inr o=>some (.inr (.inr o)))) (some (.inr (.inl (a.2.1,a.2.2.1,a.2.2.2.1,a.2.2.2.2))))
noncomputable def qct (f : List qk) : Option (List qk × Int):=
  (((idx [f] 0).bind fun j=>(loop (q30 j) (0,[])).bind fun b=>some b).bind fun g=>(Jm g).bind fun c=>(K5 c.length g.length).bind fun _=>(Uz c).bind fun a=>(K5 a.2.length c.length).bind fun _=>(Jn a.2.length a.1).bind fun _=>some ((a.2.drop a.1.1).take a.1.2)).bind fun k=>((loop (q60 k f) (1,[],0,0,[]) : Option ((List qf × Int × Int × List qk) ⊕ (List qk × Int))).bind fun l=>(match l with | .inl b=>some (.inl b) | .inr d=>some (.inr d)) : Option ((List qf × Int × Int × List qk) ⊕ (List qk × Int))).bind fun m=>(match m with | .inl h=>cond (decide ((h.2.2.2.length : Int) > 400)) (some ([],4)) (some (h.2.2.2,0)) | .inr d=>some d)
noncomputable def qid (d : List qk) (f : List qk) (c : Int) : Option ((Int) ⊕ ((Unit) ⊕ (Bool))):=
  cond (decide (c < (d.length : Int))) ((idx d c).bind fun a=>(idx f c).bind fun b=>cond (!((a.Lo.X == b.Lo.X) && ((a.Lo.Y == b.Lo.Y) && ((a.Lo.Z == b.Lo.Z) && ((a.Hi.X == b.Hi.X) && ((a.Hi.Y == b.Hi.Y) && ((a.Hi.Z == b.Hi.Z) && true))))))) (some (.inr (.inr false))) (some (.inl (w64 (c + 1))))) (some (.inr (.inl ())))
noncomputable def qf3 (a : List qk) (b : List qk) : Option Bool:=
  cond ((a.length : Int) != (b.length : Int)) (some false) ((loop (qid a b) 0 : Option ((Unit) ⊕ (Bool))).bind fun c=>(match c with | .inl _=>some true | .inr d=>some d))
noncomputable def q2f (a : List qk) : Option Int:=
  cond (decide ((a.length : Int) > 400)) (some 4) ((q5l a (fun c=>q3v c)).bind fun d=>cond d (some 8) ((qct a).bind fun b=>(cond (b.2 != 0) (some true) ((qf3 b.1 a).bind fun f=>some (!f))).bind fun g=>cond g (some 8) (some 0)))
noncomputable def qf8 (a : qk) : Option (Int × Int × Int):=
  some (w64 (a.Hi.X - a.Lo.X),w64 (a.Hi.Y - a.Lo.Y),w64 (a.Hi.Z - a.Lo.Z))
noncomputable def q8u (c : List qk) (a : Int × Int) : Option ((Int × Int) ⊕ (Int)):=
  cond (decide (a.2 < (c.length : Int))) ((idx c a.2).bind fun d=>(qf8 d).bind fun b=>some (.inl (w64 (a.1 + (w64 ((w64 (b.1 * b.2.1)) * b.2.2))),w64 (a.2 + 1)))) (some (.inr a.1))
noncomputable def q8t (a : List qk) : Option (Int × Int):=
  (q2f a).bind fun b=>cond (b != 0) (some (0,b)) ((loop (q8u a) (0,0)).bind fun c=>some (c,0))
structure Kk where
  Region : List qf
  Height : Int
  deriving DecidableEq
def Jv (x : Kk) : List DV:=[.sl 4 (x.Region.map qj),.int .i64 x.Height]
noncomputable def q5n (b : List Kk) (c : Kk→Option Bool) (a : Int) : Option ((Int) ⊕ ((Unit) ⊕ (Int))):=
  cond (decide (a < (b.length : Int))) ((idx b a).bind fun d=>(c d).bind fun f=>cond f (some (.inr (.inr a))) (some (.inl (w64 (a + 1))))) (some (.inr (.inl ())))
noncomputable def qf5 (a : List Kk) (b : Kk→Option Bool) : Option Int:=
  (loop (q5n a b) 0 : Option ((Unit) ⊕ (Int))).bind fun c=>(match c with | .inl _=>some (-1) | .inr d=>some d)
noncomputable def qb0 (a : List Kk) (b : Kk→Option Bool) : Option Bool:=
  (qf5 a b).bind fun c=>some (decide (c ≥ 0))
noncomputable def q2v (a : Kk) : Option Bool:=
  (cond (decide (a.Height < 1)) (some true) (some (decide (a.Height > 1000000)))).bind fun b=>some b
noncomputable def q7b (c : Int) (a : Int × List qk) : Option ((Int × List qk) ⊕ (List qk)):=
  cond (decide (a.1 < (a.2.length : Int))) ((idx a.2 a.1).bind fun b=>some (.inl (w64 (a.1 + 1),a.2.set a.1.toNat ({Lo:=b.Lo,Hi:=({X:=b.Hi.X,Y:=b.Hi.Y,Z:=c} : Q0)} : qk)))) (some (.inr a.2))
noncomputable def q7c (c : List qf) (f : Int) (d : Int) (g : List qk) (a : Int × List qk) : Option ((Int × List qk) ⊕ (List qf × Int × Int × List qk)):=
  cond (decide (a.1 < (c.length : Int))) ((idx c a.1).bind fun b=>(app 48 a.2 [({Lo:=({X:=b.X0,Y:=b.Y0,Z:=f} : Q0),Hi:=({X:=b.X1,Y:=b.Y1,Z:=d} : Q0)} : qk)]).bind fun h=>some (.inl (w64 (a.1 + 1),h))) (some (.inr (c,(g.length : Int),d,a.2)))
noncomputable def q7a (a : List qk) (d : List qf) (f : Int) (h : Int) (g : Int) (b : Int) (c : List qf) : Option (List qf × Int × Int × List qk):=
  (cond (decide ((c.length : Int) > 0)) (some (h == g)) (some false)).bind fun j=>(cond j ((q2c d c).bind fun k=>some k) (some false)).bind fun l=>cond l ((loop (q7b b) (f,a)).bind fun m=>some (d,f,b,m)) ((loop (q7c c g b a) (0,a)).bind fun n=>some n)
noncomputable def q5d (b : List Kk) (a : Int) : Option ((Int) ⊕ ((Unit) ⊕ (List qk × Int))):=
  cond (decide (a < (b.length : Int))) ((idx b a).bind fun d=>(q2b d.Region).bind fun c=>cond (c != 0) (some (.inr (.inr ([],c)))) (some (.inl (w64 (a + 1))))) (some (.inr (.inl ())))
noncomputable def q5e (d : List Kk) (a : Int × Int × List qf × Int × Int × List qk) : Option ((Int × Int × List qf × Int × Int × List qk) ⊕ ((List qf × Int × Int × List qk) ⊕ (List qk × Int))):=
  cond (decide (a.2.1 < (d.length : Int))) ((idx d a.2.1).bind fun b=>cond (decide ((w64 (a.1 + b.Height)) > 1000000)) (some (.inr (.inr ([],16)))) ((q7a a.2.2.2.2.2 a.2.2.1 a.2.2.2.1 a.2.2.2.2.1 a.1 (w64 (a.1 + b.Height)) b.Region).bind fun c=>some (.inl (w64 (a.1 + b.Height),w64 (a.2.1 + 1),c.1,c.2.1,c.2.2.1,c.2.2.2)))) (some (.inr (.inl (a.2.2.1,a.2.2.2.1,a.2.2.2.2.1,a.2.2.2.2.2))))
noncomputable def q5c (a : List Kk) (c : Int) : Option (List qk × Int):=
  cond (decide ((a.length : Int) > 100)) (some ([],4)) ((loop (q5d a) 0 : Option ((Unit) ⊕ (List qk × Int))).bind fun g=>(match g with | .inl _=>(q78 c).bind fun h=>(cond (!h) (some true) ((qb0 a (fun j=>q2v j)).bind fun k=>some k)).bind fun l=>cond l (some ([],2)) ((loop (q5e a) (c,0,[],0,0,[]) : Option ((List qf × Int × Int × List qk) ⊕ (List qk × Int))).bind fun m=>(match m with | .inl d=>(cond (decide ((d.2.2.2.length : Int) > 400)) (some (4,[])) (some (0,d.2.2.2))).bind fun f=>some (f.2,f.1) | .inr b=>some b)) | .inr b=>some b))
noncomputable def q76 (c : List qk) (d : Int) (f : Int) (a : Int × List ql) : Option ((Int × List ql) ⊕ (List ql)):=
  cond (decide (a.1 < (c.length : Int))) (((idx c a.1).bind fun b=>(cond (decide (b.Lo.X≤d)) (some (decide (d < b.Hi.X))) (some false)).bind fun g=>(cond g (some (decide (b.Lo.Y≤f))) (some false)).bind fun h=>(cond h (some (decide (f < b.Hi.Y))) (some false)).bind fun j=>cond j ((app 16 a.2 [({Lo:=b.Lo.Z,Hi:=b.Hi.Z} : ql)]).bind fun k=>some k) (some a.2)).bind fun l=>some (.inl (w64 (a.1 + 1),l))) (some (.inr a.2))
noncomputable def qai (a : List qk) (d : Int) (f : Int) : Option (List ql × Int):=
  (q2f a).bind fun b=>cond (b != 0) (some ([],b)) ((loop (q76 a d f) (0,[])).bind fun g=>(q3x g).bind fun c=>some (c.1,c.2))
structure Ka where
  Turn : Int
  At : Q0
  deriving DecidableEq
structure K0 where
  Frame : Ka
  Size : Q0
  deriving DecidableEq
noncomputable def qe3 : Option K0:=
  some ({Frame:=({Turn:=0,At:=({X:=0,Y:=0,Z:=0} : Q0)} : Ka),Size:=({X:=2,Y:=3,Z:=4} : Q0)} : K0)
noncomputable def q4c (a : Q0) (b : Int) : Option Bool:=
  (cond (decide ((min (min a.X a.Y) a.Z) ≥ b)) (some (decide ((max (max a.X a.Y) a.Z)≤1000000))) (some false)).bind fun c=>some c
noncomputable def q2n (a : Ka) : Option Int:=
  (cond (decide (a.Turn ≥ 24)) (some true) ((q4c a.At (-1000000)).bind fun b=>some (!b))).bind fun c=>cond c (some 8) (some 0)
noncomputable def q9p (a : K0) : Option Int:=
  (q2n a.Frame).bind fun b=>(cond (b != 0) (some true) ((q4c a.Size 0).bind fun c=>some (!c))).bind fun d=>cond d (some 8) (some 0)
noncomputable def qdv (a : Int) : Option Q0:=
  cond ((IntKind.wrap .u8 (Int.tdiv a 2)) == 0) (some ({X:=w64 (1 - (w64 (2 * (w64 (Int.tmod a 2))))),Y:=0,Z:=0} : Q0)) (cond ((IntKind.wrap .u8 (Int.tdiv a 2)) == 1) (some ({X:=0,Y:=w64 (1 - (w64 (2 * (w64 (Int.tmod a 2))))),Z:=0} : Q0)) (some ({X:=0,Y:=0,Z:=w64 (1 - (w64 (2 * (w64 (Int.tmod a 2)))))} : Q0)))
noncomputable def qgr (a : Q0) (b : Q0) : Option Q0:=
  some ({X:=w64 ((w64 (a.Y * b.Z)) - (w64 (a.Z * b.Y))),Y:=w64 ((w64 (a.Z * b.X)) - (w64 (a.X * b.Z))),Z:=w64 ((w64 (a.X * b.Y)) - (w64 (a.Y * b.X)))} : Q0)
noncomputable def q3a (a : Int) : Option (Q0 × Q0 × Q0):=
  (cond (decide ((Int.tmod a 4) ≥ (IntKind.wrap .u8 ((IntKind.wrap .u8 (Int.tdiv (IntKind.wrap .u8 (Int.tdiv a 4)) 2)) * 2)))) (some (IntKind.wrap .u8 ((Int.tmod a 4) + 2))) (some (Int.tmod a 4))).bind fun d=>(qdv (IntKind.wrap .u8 (Int.tdiv a 4))).bind fun b=>(qdv d).bind fun c=>(qgr b c).bind fun f=>some (b,c,f)
def Yv (x : Q0) : List DV:=[.int .i64 x.X,.int .i64 x.Y,.int .i64 x.Z]
noncomputable def q6k (a : Q0 × Q0 × Q0) (b : Q0) : Option Q0:=
  some ({X:=w64 ((w64 ((w64 (b.X * a.1.X)) + (w64 (b.Y * a.2.1.X)))) + (w64 (b.Z * a.2.2.X))),Y:=w64 ((w64 ((w64 (b.X * a.1.Y)) + (w64 (b.Y * a.2.1.Y)))) + (w64 (b.Z * a.2.2.Y))),Z:=w64 ((w64 ((w64 (b.X * a.1.Z)) + (w64 (b.Y * a.2.1.Z)))) + (w64 (b.Z * a.2.2.Z)))} : Q0)
noncomputable def q6j (a : Q0 × Q0 × Q0) (c : Int) : Option ((Int) ⊕ ((Unit) ⊕ (Int))):=
  cond (decide (c < 24)) ((q3a c).bind fun b=>cond ((b.1.X == a.1.X) && ((b.1.Y == a.1.Y) && ((b.1.Z == a.1.Z) && ((b.2.1.X == a.2.1.X) && ((b.2.1.Y == a.2.1.Y) && ((b.2.1.Z == a.2.1.Z) && ((b.2.2.X == a.2.2.X) && ((b.2.2.Y == a.2.2.Y) && ((b.2.2.Z == a.2.2.Z) && true))))))))) (some (.inr (.inr c))) (some (.inl (IntKind.wrap .u8 (c + 1))))) (some (.inr (.inl ())))
noncomputable def q9r (a : Q0 × Q0 × Q0) : Option Int:=
  (loop (q6j a) 0 : Option ((Unit) ⊕ (Int))).bind fun b=>(match b with | .inl _=>some 0 | .inr c=>some c)
noncomputable def q9q (a : Ka) (c : Q0) : Option Q0:=
  (q3a a.Turn).bind fun d=>(q6k d c).bind fun b=>some ({X:=w64 (b.X + a.At.X),Y:=w64 (b.Y + a.At.Y),Z:=w64 (b.Z + a.At.Z)} : Q0)
noncomputable def q3b (b : (Q0 × Q0 × Q0)) (a : Int × List Q0) : Option ((Int × List Q0) ⊕ (List Q0)):=
  cond (decide (a.1 < 3)) ((idxA 3 a.2 a.1).bind fun c=>(q6k b c).bind fun d=>(idxA 3 a.2 a.1).bind fun _=>some (.inl (w64 (a.1 + 1),a.2.set a.1.toNat d))) (some (.inr a.2))
noncomputable def q9s (b : Ka) (c : Ka) : Option Ka:=
  (q3a b.Turn).bind fun a=>(q3a c.Turn).bind fun d=>(loop (q3b d) (0,[a.1,a.2.1,a.2.2])).bind fun f=>(arr3 f).bind fun g=>(q9r g).bind fun h=>(q9q c b.At).bind fun j=>some ({Turn:=h,At:=j} : Ka)
noncomputable def q9o (a : Ka) (b : Ka) : Option (Ka × Int):=
  (q2n a).bind fun c=>cond (c != 0) (some (({Turn:=0,At:=({X:=0,Y:=0,Z:=0} : Q0)} : Ka),c)) ((q2n b).bind fun d=>cond (d != 0) (some (({Turn:=0,At:=({X:=0,Y:=0,Z:=0} : Q0)} : Ka),d)) ((q9s a b).bind fun f=>(q2n f).bind fun g=>cond (g != 0) (some (({Turn:=0,At:=({X:=0,Y:=0,Z:=0} : Q0)} : Ka),16)) (some (f,0))))
noncomputable def Jx (b : K0) (c : Q0) (d : Q0) (f : Int) : Option (K0 × Int):=
  (q9p b).bind fun g=>cond (g != 0) (some (({Frame:=({Turn:=0,At:=({X:=0,Y:=0,Z:=0} : Q0)} : Ka),Size:=({X:=0,Y:=0,Z:=0} : Q0)} : K0),g)) ((q2n ({Turn:=f,At:=c} : Ka)).bind fun h=>(cond (h != 0) (some true) ((q4c d 0).bind fun j=>some (!j))).bind fun k=>cond k (some (({Frame:=({Turn:=0,At:=({X:=0,Y:=0,Z:=0} : Q0)} : Ka),Size:=({X:=0,Y:=0,Z:=0} : Q0)} : K0),2)) ((q9o ({Turn:=f,At:=c} : Ka) b.Frame).bind fun a=>cond (a.2 != 0) (some (({Frame:=({Turn:=0,At:=({X:=0,Y:=0,Z:=0} : Q0)} : Ka),Size:=({X:=0,Y:=0,Z:=0} : Q0)} : K0),a.2)) (some (({Frame:=a.1,Size:=d} : K0),0))))
noncomputable def qam (a : K0) : Option Int:=
  (Jx a ({X:=0,Y:=0,Z:=0} : Q0) ({X:=0,Y:=0,Z:=0} : Q0) 0).bind fun b=>cond (b.2 != 0) (some 8) (some 0)
def Ju (x : K0) : List DV:=[.int .u8 x.Frame.Turn,.int .i64 x.Frame.At.X,.int .i64 x.Frame.At.Y,.int .i64 x.Frame.At.Z,.int .i64 x.Size.X,.int .i64 x.Size.Y,.int .i64 x.Size.Z]
structure Yi where
  t_ : Int
  at_ : Q0
  flat_ : Q0
  deriving DecidableEq
def qdn (x : Yi) : List DV:=[.int .u8 x.t_,.int .i64 x.at_.X,.int .i64 x.at_.Y,.int .i64 x.at_.Z,.int .i64 x.flat_.X,.int .i64 x.flat_.Y,.int .i64 x.flat_.Z]
noncomputable def Ux (a : Q0) (b : Int) : Option (Int × Q0 × Q0):=
  (idxA 6 [({t_:=10,at_:=({X:=a.X,Y:=0,Z:=0} : Q0),flat_:=({X:=a.Y,Y:=a.Z,Z:=0} : Q0)} : Yi),({t_:=11,at_:=({X:=0,Y:=0,Z:=a.Z} : Q0),flat_:=({X:=a.Y,Y:=a.Z,Z:=0} : Q0)} : Yi),({t_:=3,at_:=({X:=0,Y:=a.Y,Z:=a.Z} : Q0),flat_:=({X:=a.X,Y:=a.Z,Z:=0} : Q0)} : Yi),({t_:=2,at_:=({X:=0,Y:=0,Z:=0} : Q0),flat_:=({X:=a.X,Y:=a.Z,Z:=0} : Q0)} : Yi),({t_:=0,at_:=({X:=0,Y:=0,Z:=a.Z} : Q0),flat_:=({X:=a.X,Y:=a.Y,Z:=0} : Q0)} : Yi),({t_:=1,at_:=({X:=0,Y:=a.Y,Z:=0} : Q0),flat_:=({X:=a.X,Y:=a.Y,Z:=0} : Q0)} : Yi)] b).bind fun c=>(idxA 6 [({t_:=10,at_:=({X:=a.X,Y:=0,Z:=0} : Q0),flat_:=({X:=a.Y,Y:=a.Z,Z:=0} : Q0)} : Yi),({t_:=11,at_:=({X:=0,Y:=0,Z:=a.Z} : Q0),flat_:=({X:=a.Y,Y:=a.Z,Z:=0} : Q0)} : Yi),({t_:=3,at_:=({X:=0,Y:=a.Y,Z:=a.Z} : Q0),flat_:=({X:=a.X,Y:=a.Z,Z:=0} : Q0)} : Yi),({t_:=2,at_:=({X:=0,Y:=0,Z:=0} : Q0),flat_:=({X:=a.X,Y:=a.Z,Z:=0} : Q0)} : Yi),({t_:=0,at_:=({X:=0,Y:=0,Z:=a.Z} : Q0),flat_:=({X:=a.X,Y:=a.Y,Z:=0} : Q0)} : Yi),({t_:=1,at_:=({X:=0,Y:=a.Y,Z:=0} : Q0),flat_:=({X:=a.X,Y:=a.Y,Z:=0} : Q0)} : Yi)] b).bind fun d=>(idxA 6 [({t_:=10,at_:=({X:=a.X,Y:=0,Z:=0} : Q0),flat_:=({X:=a.Y,Y:=a.Z,Z:=0} : Q0)} : Yi),({t_:=11,at_:=({X:=0,Y:=0,Z:=a.Z} : Q0),flat_:=({X:=a.Y,Y:=a.Z,Z:=0} : Q0)} : Yi),({t_:=3,at_:=({X:=0,Y:=a.Y,Z:=a.Z} : Q0),flat_:=({X:=a.X,Y:=a.Z,Z:=0} : Q0)} : Yi),({t_:=2,at_:=({X:=0,Y:=0,Z:=0} : Q0),flat_:=({X:=a.X,Y:=a.Z,Z:=0} : Q0)} : Yi),({t_:=0,at_:=({X:=0,Y:=0,Z:=a.Z} : Q0),flat_:=({X:=a.X,Y:=a.Y,Z:=0} : Q0)} : Yi),({t_:=1,at_:=({X:=0,Y:=a.Y,Z:=0} : Q0),flat_:=({X:=a.X,Y:=a.Y,Z:=0} : Q0)} : Yi)] b).bind fun f=>some (c.t_,d.at_,f.flat_)
noncomputable def qak (a : Int) (g : Int) (h : Int) (j : Int) (k : Int) (b : Int) (c : Int) (d : Int) (l : List K0) : Option (Int × Int × Int × Int × Int × Int × Int × Int × List K0):=
  (Ux ({X:=b,Y:=c,Z:=d} : Q0) a).bind fun f=>(Jx ({Frame:=({Turn:=g,At:=({X:=h,Y:=j,Z:=k} : Q0)} : Ka),Size:=({X:=b,Y:=c,Z:=d} : Q0)} : K0) f.2.1 f.2.2 f.1).bind fun m=>(idxA 6 l a).bind fun _=>some (m.2,g,h,j,k,b,c,d,l.set a.toNat m.1)
noncomputable def q3i (a : Int × List K0 × Int × Int × Int × Int × Int × Int × Int) : Option ((Int × List K0 × Int × Int × Int × Int × Int × Int × Int) ⊕ ((List K0) ⊕ ((K0 × K0 × K0 × K0 × K0 × K0) × Int))):=
  cond (decide (a.1 < 6)) ((qak a.1 a.2.2.1 a.2.2.2.1 a.2.2.2.2.1 a.2.2.2.2.2.1 a.2.2.2.2.2.2.1 a.2.2.2.2.2.2.2.1 a.2.2.2.2.2.2.2.2 a.2.1).bind fun b=>cond (b.1 != 0) (some (.inr (.inr ((({Frame:=({Turn:=0,At:=({X:=0,Y:=0,Z:=0} : Q0)} : Ka),Size:=({X:=0,Y:=0,Z:=0} : Q0)} : K0),({Frame:=({Turn:=0,At:=({X:=0,Y:=0,Z:=0} : Q0)} : Ka),Size:=({X:=0,Y:=0,Z:=0} : Q0)} : K0),({Frame:=({Turn:=0,At:=({X:=0,Y:=0,Z:=0} : Q0)} : Ka),Size:=({X:=0,Y:=0,Z:=0} : Q0)} : K0),({Frame:=({Turn:=0,At:=({X:=0,Y:=0,Z:=0} : Q0)} : Ka),Size:=({X:=0,Y:=0,Z:=0} : Q0)} : K0),({Frame:=({Turn:=0,At:=({X:=0,Y:=0,Z:=0} : Q0)} : Ka),Size:=({X:=0,Y:=0,Z:=0} : Q0)} : K0),({Frame:=({Turn:=0,At:=({X:=0,Y:=0,Z:=0} : Q0)} : Ka),Size:=({X:=0,Y:=0,Z:=0} : Q0)} : K0)),b.1)))) (some (.inl (w64 (a.1 + 1),b.2.2.2.2.2.2.2.2,b.2.1,b.2.2.1,b.2.2.2.1,b.2.2.2.2.1,b.2.2.2.2.2.1,b.2.2.2.2.2.2.1,b.2.2.2.2.2.2.2.1)))) (some (.inr (.inl a.2.1)))
noncomputable def qaj (a : K0) : Option ((K0 × K0 × K0 × K0 × K0 × K0) × Int):=
  (qam a).bind fun b=>cond (b != 0) (some ((({Frame:=({Turn:=0,At:=({X:=0,Y:=0,Z:=0} : Q0)} : Ka),Size:=({X:=0,Y:=0,Z:=0} : Q0)} : K0),({Frame:=({Turn:=0,At:=({X:=0,Y:=0,Z:=0} : Q0)} : Ka),Size:=({X:=0,Y:=0,Z:=0} : Q0)} : K0),({Frame:=({Turn:=0,At:=({X:=0,Y:=0,Z:=0} : Q0)} : Ka),Size:=({X:=0,Y:=0,Z:=0} : Q0)} : K0),({Frame:=({Turn:=0,At:=({X:=0,Y:=0,Z:=0} : Q0)} : Ka),Size:=({X:=0,Y:=0,Z:=0} : Q0)} : K0),({Frame:=({Turn:=0,At:=({X:=0,Y:=0,Z:=0} : Q0)} : Ka),Size:=({X:=0,Y:=0,Z:=0} : Q0)} : K0),({Frame:=({Turn:=0,At:=({X:=0,Y:=0,Z:=0} : Q0)} : Ka),Size:=({X:=0,Y:=0,Z:=0} : Q0)} : K0)),b)) ((loop q3i (0,[({Frame:=({Turn:=0,At:=({X:=0,Y:=0,Z:=0} : Q0)} : Ka),Size:=({X:=0,Y:=0,Z:=0} : Q0)} : K0),({Frame:=({Turn:=0,At:=({X:=0,Y:=0,Z:=0} : Q0)} : Ka),Size:=({X:=0,Y:=0,Z:=0} : Q0)} : K0),({Frame:=({Turn:=0,At:=({X:=0,Y:=0,Z:=0} : Q0)} : Ka),Size:=({X:=0,Y:=0,Z:=0} : Q0)} : K0),({Frame:=({Turn:=0,At:=({X:=0,Y:=0,Z:=0} : Q0)} : Ka),Size:=({X:=0,Y:=0,Z:=0} : Q0)} : K0),({Frame:=({Turn:=0,At:=({X:=0,Y:=0,Z:=0} : Q0)} : Ka),Size:=({X:=0,Y:=0,Z:=0} : Q0)} : K0),({Frame:=({Turn:=0,At:=({X:=0,Y:=0,Z:=0} : Q0)} : Ka),Size:=({X:=0,Y:=0,Z:=0} : Q0)} : K0)],a.Frame.Turn,a.Frame.At.X,a.Frame.At.Y,a.Frame.At.Z,a.Size.X,a.Size.Y,a.Size.Z) : Option ((List K0) ⊕ ((K0 × K0 × K0 × K0 × K0 × K0) × Int))).bind fun c=>(match c with | .inl d=>(arr6 d).bind fun f=>some (f,0) | .inr g=>some g))
noncomputable def qel (b : List ql) (f : List ql) (a : Int) : Option ((Int) ⊕ ((Unit) ⊕ (Bool))):=
  cond (decide (a < (b.length : Int))) ((idx b a).bind fun c=>(idx f a).bind fun d=>cond (!((c.Lo == d.Lo) && ((c.Hi == d.Hi) && true))) (some (.inr (.inr false))) (some (.inl (w64 (a + 1))))) (some (.inr (.inl ())))
noncomputable def q4y (a : List ql) (b : List ql) : Option Bool:=
  cond ((a.length : Int) != (b.length : Int)) (some false) ((loop (qel a b) 0 : Option ((Unit) ⊕ (Bool))).bind fun c=>(match c with | .inl _=>some true | .inr d=>some d))
noncomputable def q9v : Option Bool:=
  (q3e 0 0 2 3).bind fun h=>(q77 h 1 5).bind fun c=>(q8t c.1).bind fun d=>(q3e 0 0 2 2).bind fun j=>(q3e 0 0 1 1).bind fun k=>(q5c [({Region:=j,Height:=1} : Kk),({Region:=k,Height:=2} : Kk)] 0).bind fun b=>(q8t b.1).bind fun f=>(qai b.1 0 0).bind fun g=>qe3.bind fun l=>(qaj l).bind fun a=>(cond (c.2 == 0) (some (d.2 == 0)) (some false)).bind fun m=>(cond m (some (d.1 == 24)) (some false)).bind fun n=>(cond n (some (b.2 == 0)) (some false)).bind fun o=>(cond o (some (f.2 == 0)) (some false)).bind fun p=>(cond p (some (f.1 == 6)) (some false)).bind fun q=>(cond q (some (g.2 == 0)) (some false)).bind fun r=>cond r ((q4y g.1 [({Lo:=0,Hi:=3} : ql)]).bind fun s=>(cond s (some (a.2 == 0)) (some false)).bind fun t=>(cond t (some ((a.1.2.2.2.2.1.Frame.Turn == 0) && ((a.1.2.2.2.2.1.Frame.At.X == 0) && ((a.1.2.2.2.2.1.Frame.At.Y == 0) && ((a.1.2.2.2.2.1.Frame.At.Z == 4) && ((a.1.2.2.2.2.1.Size.X == 2) && ((a.1.2.2.2.2.1.Size.Y == 3) && ((a.1.2.2.2.2.1.Size.Z == 0) && true)))))))) (some false)).bind fun u=>(cond u (some ((a.1.1.Frame.Turn == 10) && ((a.1.1.Frame.At.X == 2) && ((a.1.1.Frame.At.Y == 0) && ((a.1.1.Frame.At.Z == 0) && ((a.1.1.Size.X == 3) && ((a.1.1.Size.Y == 4) && ((a.1.1.Size.Z == 0) && true)))))))) (some false)).bind fun v=>some v) (some false)
noncomputable def q71 (a : Q0) (b : Int) : Option Bool:=
  (cond (decide (a.X ≥ b)) (some (decide (a.Y ≥ b))) (some false)).bind fun c=>(cond c (some (decide (a.Z ≥ b))) (some false)).bind fun d=>(cond d (some (decide (a.X≤1000000))) (some false)).bind fun f=>(cond f (some (decide (a.Y≤1000000))) (some false)).bind fun g=>(cond g (some (decide (a.Z≤1000000))) (some false)).bind fun h=>some h
noncomputable def qah (a : qk) : Option Bool:=
  (q71 a.Lo (-1000000)).bind fun b=>(cond b ((q71 a.Hi (-1000000)).bind fun c=>some c) (some false)).bind fun d=>(cond d (some (decide (a.Lo.X < a.Hi.X))) (some false)).bind fun f=>(cond f (some (decide (a.Lo.Y < a.Hi.Y))) (some false)).bind fun g=>(cond g (some (decide (a.Lo.Z < a.Hi.Z))) (some false)).bind fun h=>some h
noncomputable def q50 (b : Int × List Int) (c : List Int) (a : Int) : Option ((Int) ⊕ (Int)):=
  (cond (decide (a > 0)) ((idx b.2 (w64 (a - 1))).bind fun d=>(idx c b.1).bind fun f=>some (decide (d > f))) (some false)).bind fun g=>cond g (some (.inl (w64 (a - 1)))) (some (.inr a))
noncomputable def q4z (d : List Int) (a : Int × List Int) : Option ((Int × List Int) ⊕ (List Int)):=
  cond (decide (a.1 < (d.length : Int))) (((loop (q50 a d) (a.2.length : Int)).bind fun c=>(cond (decide (c > 0)) ((idx a.2 (w64 (c - 1))).bind fun h=>(idx d a.1).bind fun j=>some (h == j)) (some false)).bind fun k=>cond k (some a.2) ((app 8 a.2 [0]).bind fun b=>(sub2 b.length (w64 (c + 1)) b.length).bind fun g=>(sub2 b.length c b.length).bind fun f=>(idx d a.1).bind fun l=>(idx (cpyw b g ((b.drop f.1).take f.2)) c).bind fun _=>some ((cpyw b g ((b.drop f.1).take f.2)).set c.toNat l))).bind fun m=>some (.inl (w64 (a.1 + 1),m))) (some (.inr a.2))
noncomputable def Uv (a : List Int) : Option (List Int):=
  (loop (q4z a) (0,[])).bind fun b=>some b
noncomputable def q57 (b : List qk) (a : Int × List Int) : Option ((Int × List Int) ⊕ (List Int)):=
  cond (decide (a.1 < (b.length : Int))) ((idx b a.1).bind fun c=>(idx b a.1).bind fun d=>(app 8 a.2 [c.Lo.Z,d.Hi.Z]).bind fun f=>some (.inl (w64 (a.1 + 1),f))) (some (.inr a.2))
noncomputable def q58 (b : List qk) (a : Int × List Int) : Option ((Int × List Int) ⊕ (List Int)):=
  cond (decide (a.1 < (b.length : Int))) ((idx b a.1).bind fun c=>(idx b a.1).bind fun d=>(app 8 a.2 [c.Lo.Z,d.Hi.Z]).bind fun f=>some (.inl (w64 (a.1 + 1),f))) (some (.inr a.2))
noncomputable def qag (a : List qk) (b : List qk) : Option (List Int):=
  (loop (q57 a) (0,[])).bind fun c=>(loop (q58 b) (0,c)).bind fun d=>(Uv d).bind fun f=>some f
noncomputable def q72 (b : List qk) (c : Int) (a : Int × List qf) : Option ((Int × List qf) ⊕ (List qf)):=
  cond (decide (a.1 < (b.length : Int))) (((idx b a.1).bind fun d=>(cond (decide (d.Lo.Z≤c)) ((idx b a.1).bind fun f=>some (decide (c < f.Hi.Z))) (some false)).bind fun g=>cond g ((idx b a.1).bind fun h=>(idx b a.1).bind fun j=>(idx b a.1).bind fun k=>(idx b a.1).bind fun l=>(app 32 a.2 [({X0:=h.Lo.X,Y0:=j.Lo.Y,X1:=k.Hi.X,Y1:=l.Hi.Y} : qf)]).bind fun m=>some m) (some a.2)).bind fun n=>some (.inl (w64 (a.1 + 1),n))) (some (.inr a.2))
noncomputable def Uw (a : List qk) (b : Int) : Option (List qf):=
  (loop (q72 a b) (0,[])).bind fun c=>some c
noncomputable def q53 (b : List qf) (a : Int × List Int) : Option ((Int × List Int) ⊕ (List Int)):=
  cond (decide (a.1 < (b.length : Int))) ((idx b a.1).bind fun c=>(idx b a.1).bind fun d=>(app 8 a.2 [c.X0,d.X1]).bind fun f=>some (.inl (w64 (a.1 + 1),f))) (some (.inr a.2))
noncomputable def q54 (b : List qf) (a : Int × List Int) : Option ((Int × List Int) ⊕ (List Int)):=
  cond (decide (a.1 < (b.length : Int))) ((idx b a.1).bind fun c=>(idx b a.1).bind fun d=>(app 8 a.2 [c.X0,d.X1]).bind fun f=>some (.inl (w64 (a.1 + 1),f))) (some (.inr a.2))
noncomputable def qae (a : List qf) (b : List qf) : Option (List Int):=
  (loop (q53 a) (0,[])).bind fun c=>(loop (q54 b) (0,c)).bind fun d=>(Uv d).bind fun f=>some f
noncomputable def q55 (b : List qf) (a : Int × List Int) : Option ((Int × List Int) ⊕ (List Int)):=
  cond (decide (a.1 < (b.length : Int))) ((idx b a.1).bind fun c=>(idx b a.1).bind fun d=>(app 8 a.2 [c.Y0,d.Y1]).bind fun f=>some (.inl (w64 (a.1 + 1),f))) (some (.inr a.2))
noncomputable def q56 (b : List qf) (a : Int × List Int) : Option ((Int × List Int) ⊕ (List Int)):=
  cond (decide (a.1 < (b.length : Int))) ((idx b a.1).bind fun c=>(idx b a.1).bind fun d=>(app 8 a.2 [c.Y0,d.Y1]).bind fun f=>some (.inl (w64 (a.1 + 1),f))) (some (.inr a.2))
noncomputable def qaf (a : List qf) (b : List qf) : Option (List Int):=
  (loop (q55 a) (0,[])).bind fun c=>(loop (q56 b) (0,c)).bind fun d=>(Uv d).bind fun f=>some f
noncomputable def q3g (b : List qf) (c : Int) (d : Int) (a : Int) : Option ((Int) ⊕ ((Unit) ⊕ (Bool))):=
  cond (decide (a < (b.length : Int))) ((idx b a).bind fun f=>(cond (decide (f.X0≤c)) ((idx b a).bind fun g=>some (decide (c < g.X1))) (some false)).bind fun h=>(cond h ((idx b a).bind fun j=>some (decide (j.Y0≤d))) (some false)).bind fun k=>(cond k ((idx b a).bind fun l=>some (decide (d < l.Y1))) (some false)).bind fun m=>cond m (some (.inr (.inr true))) (some (.inl (w64 (a + 1))))) (some (.inr (.inl ())))
noncomputable def q6x (a : List qf) (b : Int) (c : Int) : Option Bool:=
  (loop (q3g a b c) 0 : Option ((Unit) ⊕ (Bool))).bind fun d=>(match d with | .inl _=>some false | .inr f=>some f)
noncomputable def q6w (c : Int) (a : Bool) (b : Bool) : Option Bool:=
  cond (c == 1) ((cond a (some b) (some false)).bind fun d=>some d) (cond (c == 2) ((cond a (some true) (some b)).bind fun f=>some f) ((cond a (some (!b)) (some false)).bind fun g=>some g))
noncomputable def q4x (b : List Int) (c : List Bool) (a : Int × List ql) : Option ((Int × List ql) ⊕ (List ql)):=
  cond (decide ((w64 (a.1 + 1)) < (b.length : Int))) (((idx c a.1).bind fun d=>cond (!d) (some a.2) ((cond (decide ((a.2.length : Int) > 0)) ((idx a.2 (w64 ((a.2.length : Int) - 1))).bind fun f=>(idx b a.1).bind fun g=>some (f.Hi == g)) (some false)).bind fun h=>cond h ((idx b (w64 (a.1 + 1))).bind fun j=>(idx a.2 (w64 ((a.2.length : Int) - 1))).bind fun k=>some (a.2.set (w64 ((a.2.length : Int) - 1)).toNat ({Lo:=k.Lo,Hi:=j} : ql))) ((idx b a.1).bind fun l=>(idx b (w64 (a.1 + 1))).bind fun m=>(app 16 a.2 [({Lo:=l,Hi:=m} : ql)]).bind fun n=>some n))).bind fun o=>some (.inl (w64 (a.1 + 1),o))) (some (.inr a.2))
noncomputable def q4w (a : List Int) (b : List Bool) : Option (List ql):=
  (loop (q4x a b) (0,[])).bind fun c=>some c
noncomputable def q51 (b : List Int) (c : List Int) (d : List ql × Int × Int × List qf) (f : List qf) (g : List qf) (h : Int) (a : Int × List Bool) : Option ((Int × List Bool) ⊕ (List Bool)):=
  cond (decide (a.1 < (b.length : Int))) ((idx c d.2.2.1).bind fun j=>(idx b a.1).bind fun k=>(q6x f j k).bind fun l=>(idx c d.2.2.1).bind fun m=>(idx b a.1).bind fun n=>(q6x g m n).bind fun o=>(q6w h l o).bind fun p=>(app 1 a.2 [p]).bind fun q=>some (.inl (w64 (a.1 + 1),q))) (some (.inr a.2))
noncomputable def q52 (c : List Int) (d : List ql × Int × Int × List qf) (a : Int × List qf) : Option ((Int × List qf) ⊕ (List qf)):=
  cond (decide (a.1 < (a.2.length : Int))) ((idx c (w64 (d.2.2.1 + 1))).bind fun f=>(idx a.2 a.1).bind fun b=>some (.inl (w64 (a.1 + 1),a.2.set a.1.toNat ({X0:=b.X0,Y0:=b.Y0,X1:=f,Y1:=b.Y1} : qf)))) (some (.inr a.2))
noncomputable def q6y (b : List ql) (d : List Int) (c : List ql × Int × Int × List qf) (a : Int × List qf) : Option ((Int × List qf) ⊕ (List ql × Int × List qf)):=
  cond (decide (a.1 < (b.length : Int))) ((idx d c.2.2.1).bind fun f=>(idx b a.1).bind fun g=>(idx d (w64 (c.2.2.1 + 1))).bind fun h=>(idx b a.1).bind fun j=>(app 32 a.2 [({X0:=f,Y0:=g.Lo,X1:=h,Y1:=j.Hi} : qf)]).bind fun k=>some (.inl (w64 (a.1 + 1),k))) (some (.inr (b,(c.2.2.2.length : Int),a.2)))
noncomputable def q3h (b : List Int) (d : List Int) (g : List qf) (h : List qf) (j : Int) (a : List ql × Int × Int × List qf) : Option ((List ql × Int × Int × List qf) ⊕ (List qf)):=
  cond (decide ((w64 (a.2.2.1 + 1)) < (b.length : Int))) (((loop (q51 d b a g h j) (0,[])).bind fun k=>(q4w d k).bind fun f=>(cond (decide (a.2.2.1 > 0)) ((q4y f a.1).bind fun l=>some l) (some false)).bind fun m=>cond m ((loop (q52 b a) (a.2.1,a.2.2.2)).bind fun n=>some (a.1,a.2.1,n)) ((loop (q6y f b a) (0,a.2.2.2)).bind fun o=>some o)).bind fun c=>some (.inl (c.1,c.2.1,w64 (a.2.2.1 + 1),c.2.2))) (some (.inr a.2.2.2))
noncomputable def U7 (c : Int) (a : List qf) (b : List qf) : Option (List qf):=
  (qae a b).bind fun d=>(qaf a b).bind fun f=>(loop (q3h d f a b c) ([],0,0,[])).bind fun g=>some g
noncomputable def qem (d : List qf) (f : List qf) (a : Int) : Option ((Int) ⊕ ((Unit) ⊕ (Bool))):=
  cond (decide (a < (d.length : Int))) ((idx d a).bind fun b=>(idx f a).bind fun c=>cond (!((b.X0 == c.X0) && ((b.Y0 == c.Y0) && ((b.X1 == c.X1) && ((b.Y1 == c.Y1) && true))))) (some (.inr (.inr false))) (some (.inl (w64 (a + 1))))) (some (.inr (.inl ())))
noncomputable def q70 (a : List qf) (b : List qf) : Option Bool:=
  cond ((a.length : Int) != (b.length : Int)) (some false) ((loop (qem a b) 0 : Option ((Unit) ⊕ (Bool))).bind fun c=>(match c with | .inl _=>some true | .inr d=>some d))
noncomputable def q5a (c : List Int) (d : List qf × Int × Int × List qk) (a : Int × List qk) : Option ((Int × List qk) ⊕ (List qk)):=
  cond (decide (a.1 < (a.2.length : Int))) ((idx c (w64 (d.2.2.1 + 1))).bind fun f=>(idx a.2 a.1).bind fun b=>some (.inl (w64 (a.1 + 1),a.2.set a.1.toNat ({Lo:=b.Lo,Hi:=({X:=b.Hi.X,Y:=b.Hi.Y,Z:=f} : Q0)} : qk)))) (some (.inr a.2))
noncomputable def q75 (b : List qf) (d : List Int) (c : List qf × Int × Int × List qk) (a : Int × List qk) : Option ((Int × List qk) ⊕ (List qf × Int × List qk)):=
  cond (decide (a.1 < (b.length : Int))) ((idx b a.1).bind fun f=>(idx b a.1).bind fun g=>(idx d c.2.2.1).bind fun h=>(idx b a.1).bind fun j=>(idx b a.1).bind fun k=>(idx d (w64 (c.2.2.1 + 1))).bind fun l=>(app 48 a.2 [({Lo:=({X:=f.X0,Y:=g.Y0,Z:=h} : Q0),Hi:=({X:=j.X1,Y:=k.Y1,Z:=l} : Q0)} : qk)]).bind fun m=>some (.inl (w64 (a.1 + 1),m))) (some (.inr (b,(c.2.2.2.length : Int),a.2)))
noncomputable def q2u (b : List Int) (f : List qk) (g : List qk) (h : Int) (a : List qf × Int × Int × List qk) : Option ((List qf × Int × Int × List qk) ⊕ ((List qk) ⊕ (List qk × Bool))):=
  cond (decide ((w64 (a.2.2.1 + 1)) < (b.length : Int))) (((idx b a.2.2.1).bind fun j=>(Uw f j).bind fun k=>(idx b a.2.2.1).bind fun l=>(Uw g l).bind fun m=>(U7 h k m).bind fun c=>(cond (decide ((c.length : Int) > 400)) (some true) ((idx b a.2.2.1).bind fun n=>(Uw f n).bind fun o=>(U7 2 o []).bind fun p=>some (decide ((p.length : Int) > 400)))).bind fun q=>(cond q (some true) ((idx b a.2.2.1).bind fun r=>(Uw g r).bind fun s=>(U7 2 s []).bind fun t=>some (decide ((t.length : Int) > 400)))).bind fun u=>cond u (some (.inr ([],false))) ((cond (decide (a.2.2.1 > 0)) ((q70 c a.1).bind fun v=>some v) (some false)).bind fun w=>cond w ((loop (q5a b a) (a.2.1,a.2.2.2)).bind fun x=>some (.inl (a.1,a.2.1,x))) ((loop (q75 c b a) (0,a.2.2.2)).bind fun y=>some (.inl y))) : Option ((List qf × Int × List qk) ⊕ (List qk × Bool))).bind fun z=>(match z with | .inl d=>some (.inl (d.1,d.2.1,w64 (a.2.2.1 + 1),d.2.2)) | .inr x1=>some (.inr (.inr x1)))) (some (.inr (.inl a.2.2.2)))
noncomputable def q59 (d : Int) (a : List qk) (b : List qk) : Option (List qk × Bool):=
  (qag a b).bind fun f=>(loop (q2u f a b d) ([],0,0,[]) : Option ((List qk) ⊕ (List qk × Bool))).bind fun g=>(match g with | .inl c=>some (c,decide ((c.length : Int)≤400)) | .inr h=>some h)
noncomputable def qeq (d : List qk) (f : List qk) (c : Int) : Option ((Int) ⊕ ((Unit) ⊕ (Bool))):=
  cond (decide (c < (d.length : Int))) ((idx d c).bind fun a=>(idx f c).bind fun b=>cond (!((a.Lo.X == b.Lo.X) && ((a.Lo.Y == b.Lo.Y) && ((a.Lo.Z == b.Lo.Z) && ((a.Hi.X == b.Hi.X) && ((a.Hi.Y == b.Hi.Y) && ((a.Hi.Z == b.Hi.Z) && true))))))) (some (.inr (.inr false))) (some (.inl (w64 (c + 1))))) (some (.inr (.inl ())))
noncomputable def qep (a : List qk) (b : List qk) : Option Bool:=
  cond ((a.length : Int) != (b.length : Int)) (some false) ((loop (qeq a b) 0 : Option ((Unit) ⊕ (Bool))).bind fun c=>(match c with | .inl _=>some true | .inr d=>some d))
noncomputable def q74 (b : List qk) (a : Int) : Option ((Int) ⊕ ((Unit) ⊕ (Int))):=
  cond (decide (a < (b.length : Int))) ((idx b a).bind fun c=>(qah c).bind fun d=>cond (!d) (some (.inr (.inr 8))) (some (.inl (w64 (a + 1))))) (some (.inr (.inl ())))
noncomputable def q73 (a : List qk) : Option Int:=
  cond (decide ((a.length : Int) > 400)) (some 4) ((loop (q74 a) 0 : Option ((Unit) ⊕ (Int))).bind fun c=>(match c with | .inl _=>(q59 2 a []).bind fun b=>(cond (!b.2) (some true) ((qep b.1 a).bind fun d=>some (!d))).bind fun f=>cond f (some 8) (some 0) | .inr g=>some g))
noncomputable def qa5 (c : List qf) (a : Int) : Option Int:=
  (q2b c).bind fun b=>cond (b != 0) (some b) ((cond (decide (a < 0)) (some true) (some (decide (a > 1000000)))).bind fun d=>cond d (some 2) (some 0))
noncomputable def q5g (c : List qf) (a : Int × Int × Int × Int × Int) : Option ((Int × Int × Int × Int × Int) ⊕ (Int × Int × Int × Int)):=
  cond (decide (a.1 < (c.length : Int))) ((idx c a.1).bind fun b=>some (.inl (w64 (a.1 + 1),min a.2.1 b.X0,min a.2.2.1 b.Y0,max a.2.2.2.1 b.X1,max a.2.2.2.2 b.Y1))) (some (.inr (a.2.1,a.2.2.1,a.2.2.2.1,a.2.2.2.2)))
noncomputable def qaq (a : List qf) : Option (qf × Int):=
  (q2b a).bind fun d=>cond (d != 0) (some (({X0:=0,Y0:=0,X1:=0,Y1:=0} : qf),d)) (cond ((a.length : Int) == 0) (some (({X0:=0,Y0:=0,X1:=0,Y1:=0} : qf),6)) ((idx a 0).bind fun b=>(loop (q5g a) (0,b.X0,b.Y0,b.X1,b.Y1)).bind fun c=>some (({X0:=c.1,Y0:=c.2.1,X1:=c.2.2.1,Y1:=c.2.2.2} : qf),0)))
noncomputable def q4q (a : qf) (b : List qf) : Option (List qf):=
  (cond (decide (((a).X0) < ((a).X1))) (some (decide (((a).Y0) < ((a).Y1)))) (some false)).bind fun c=>cond c ((app 32 b [({X0:=(a).X0,Y0:=(a).Y0,X1:=(a).X1,Y1:=(a).Y1} : qf)]).bind fun d=>some d) (some b)
noncomputable def q4p (a : qf) (b : Int) : Option qf:=
  some ({X0:=w64 (a.X0 - b),Y0:=w64 (a.Y0 - b),X1:=w64 (a.X1 + b),Y1:=w64 (a.Y1 + b)} : qf)
noncomputable def q28 (a : qf) (b : qf) : Option Bool:=
  (cond (decide (a.X1≤b.X0)) (some true) (some (decide (a.X0 ≥ b.X1)))).bind fun c=>some c
structure qu where
  at_ : Int
  kind_ : Int
  by_ : Int
  deriving DecidableEq
def Qn (x : qu) : List DV:=[.int .i64 x.at_,.int .i64 x.kind_,.int .i64 x.by_]
noncomputable def qa6 (a : qu) (b : qu) : Option Int:=
  some (w64 (a.at_ - b.at_))
noncomputable def qbj (c : Int) (d : qu→qu→Option Int) (a : Int × List qu) : Option ((Int × List qu) ⊕ (List qu)):=
  (cond (decide (a.1 > c)) ((idx a.2 a.1).bind fun f=>(idx a.2 (w64 (a.1 - 1))).bind fun g=>(d f g).bind fun h=>some (decide (h < 0))) (some false)).bind fun j=>cond j ((idx a.2 (w64 (a.1 - 1))).bind fun b=>(idx a.2 a.1).bind fun k=>(idx a.2 a.1).bind fun _=>(idx (a.2.set a.1.toNat b) (w64 (a.1 - 1))).bind fun _=>some (.inl (w64 (a.1 - 1),(a.2.set a.1.toNat b).set (w64 (a.1 - 1)).toNat k))) (some (.inr a.2))
noncomputable def qbi (b : Int) (c : Int) (d : qu→qu→Option Int) (a : Int × List qu) : Option ((Int × List qu) ⊕ (List qu)):=
  cond (decide (a.1 < b)) (((loop (qbj c d) (a.1,a.2)).bind fun f=>some f).bind fun g=>some (.inl (w64 (a.1 + 1),g))) (some (.inr a.2))
noncomputable def qbh (b : qu→qu→Option Int) (c : List qu) (a : Int) (d : Int) : Option (List qu):=
  (loop (qbi d a b) (w64 (a + 1),c)).bind fun f=>some f
noncomputable def qcj (d : Int) (b : Int) (f : qu→qu→Option Int) (a : Int × List qu) : Option ((Int × List qu) ⊕ (List qu)):=
  cond (decide ((w64 ((w64 (2 * a.1)) + 1)) ≥ d)) (some (.inr a.2)) ((cond (decide ((w64 ((w64 ((w64 (2 * a.1)) + 1)) + 1)) < d)) ((idx a.2 (w64 (b + (w64 ((w64 (2 * a.1)) + 1))))).bind fun h=>(idx a.2 (w64 ((w64 (b + (w64 ((w64 (2 * a.1)) + 1)))) + 1))).bind fun j=>(f h j).bind fun k=>some (decide (k < 0))) (some false)).bind fun l=>(cond l (some (w64 ((w64 ((w64 (2 * a.1)) + 1)) + 1))) (some (w64 ((w64 (2 * a.1)) + 1)))).bind fun c=>(idx a.2 (w64 (b + a.1))).bind fun m=>(idx a.2 (w64 (b + c))).bind fun n=>(f m n).bind fun o=>cond (!(decide (o < 0))) (some (.inr a.2)) ((idx a.2 (w64 (b + c))).bind fun g=>(idx a.2 (w64 (b + a.1))).bind fun p=>(idx a.2 (w64 (b + a.1))).bind fun _=>(idx (a.2.set (w64 (b + a.1)).toNat g) (w64 (b + c))).bind fun _=>some (.inl (c,(a.2.set (w64 (b + a.1)).toNat g).set (w64 (b + c)).toNat p))))
noncomputable def q8p (a : qu→qu→Option Int) (b : List qu) (c : Int) (d : Int) (f : Int) : Option (List qu):=
  (loop (qcj d f a) (c,b)).bind fun g=>some g
noncomputable def qbc (d : qu→qu→Option Int) (f : Int) (b : Int) (a : Int × List qu) : Option ((Int × List qu) ⊕ (List qu)):=
  cond (decide (a.1 ≥ 0)) ((q8p d a.2 a.1 (w64 (f - b)) b).bind fun c=>(K5 c.length a.2.length).bind fun _=>some (.inl (w64 (a.1 - 1),c))) (some (.inr a.2))
noncomputable def qbd (b : Int) (g : qu→qu→Option Int) (a : Int × List qu) : Option ((Int × List qu) ⊕ (List qu)):=
  cond (decide (a.1 ≥ 0)) ((idx a.2 (w64 (b + a.1))).bind fun c=>(idx a.2 b).bind fun d=>(idx a.2 b).bind fun _=>(idx (a.2.set b.toNat c) (w64 (b + a.1))).bind fun _=>(q8p g ((a.2.set b.toNat c).set (w64 (b + a.1)).toNat d) 0 a.1 b).bind fun f=>(K5 f.length ((a.2.set b.toNat c).set (w64 (b + a.1)).toNat d).length).bind fun _=>some (.inl (w64 (a.1 - 1),f))) (some (.inr a.2))
noncomputable def qbb (c : qu→qu→Option Int) (d : List qu) (a : Int) (b : Int) : Option (List qu):=
  (loop (qbc c b a) (w64 (Int.tdiv (w64 ((w64 (b - a)) - 1)) 2),d)).bind fun f=>(loop (qbd a c) (w64 ((w64 (b - a)) - 1),f)).bind fun g=>some g
noncomputable def q5r (f : qu→qu→Option Int) (c : List qu) (a : Int) (b : Int) (d : Int) : Option (Int × Int × Int):=
  (idx c b).bind fun g=>(idx c a).bind fun h=>(f g h).bind fun j=>cond (decide (j < 0)) (some (b,a,w64 (d + 1))) (some (a,b,d))
noncomputable def q7z (a : qu→qu→Option Int) (b : List qu) (g : Int) (h : Int) (j : Int) (k : Int) : Option (Int × Int):=
  (q5r a b g h k).bind fun c=>(q5r a b c.2.1 j c.2.2).bind fun d=>(q5r a b c.1 d.1 d.2.2).bind fun f=>some (f.2.1,f.2.2)
noncomputable def q5o (c : qu→qu→Option Int) (d : List qu) (a : Int) (f : Int) : Option (Int × Int):=
  (q7z c d (w64 (a - 1)) a (w64 (a + 1)) f).bind fun b=>some (b.1,b.2)
noncomputable def qb9 (d : List qu) (a : Int) (b : Int) (f : qu→qu→Option Int) : Option (Int × Int):=
  (cond (decide ((w64 (b - a)) ≥ 8)) ((cond (decide ((w64 (b - a)) ≥ 50)) ((q5o f d (w64 (a + (w64 ((w64 (Int.tdiv (w64 (b - a)) 4)) * 1)))) 0).bind fun h=>(q5o f d (w64 (a + (w64 ((w64 (Int.tdiv (w64 (b - a)) 4)) * 2)))) h.2).bind fun j=>(q5o f d (w64 (a + (w64 ((w64 (Int.tdiv (w64 (b - a)) 4)) * 3)))) j.2).bind fun k=>some (h.1,j.1,k.1,k.2)) (some (w64 (a + (w64 ((w64 (Int.tdiv (w64 (b - a)) 4)) * 1))),w64 (a + (w64 ((w64 (Int.tdiv (w64 (b - a)) 4)) * 2))),w64 (a + (w64 ((w64 (Int.tdiv (w64 (b - a)) 4)) * 3))),0))).bind fun g=>(q7z f d g.1 g.2.1 g.2.2.1 g.2.2.2).bind fun l=>some (l.1,l.2)) (some (w64 (a + (w64 ((w64 (Int.tdiv (w64 (b - a)) 4)) * 2))),0))).bind fun c=>cond (c.2 == 0) (some (c.1,1)) (cond (c.2 == 12) (some (c.1,2)) (some (c.1,0)))
noncomputable def qcf (a : Int × Int × List qu) : Option ((Int × Int × List qu) ⊕ (List qu)):=
  cond (decide (a.1 < a.2.1)) ((idx a.2.2 a.2.1).bind fun b=>(idx a.2.2 a.1).bind fun c=>(idx a.2.2 a.1).bind fun _=>(idx (a.2.2.set a.1.toNat b) a.2.1).bind fun _=>some (.inl (w64 (a.1 + 1),w64 (a.2.1 - 1),(a.2.2.set a.1.toNat b).set a.2.1.toNat c))) (some (.inr a.2.2))
noncomputable def qce (f : qu→qu→Option Int) (a : List qu) (b : Int) (c : Int) : Option (List qu):=
  (loop qcf (b,w64 (c - 1),a)).bind fun d=>some d
noncomputable def qbn (c : Int) (b : Int × Int × List qu) (d : qu→qu→Option Int) (a : Int) : Option ((Int) ⊕ (Int)):=
  (cond (decide (a < c)) ((idx b.2.2 a).bind fun f=>(idx b.2.2 (w64 (a - 1))).bind fun g=>(d f g).bind fun h=>some (!(decide (h < 0)))) (some false)).bind fun j=>cond j (some (.inl (w64 (a + 1)))) (some (.inr a))
noncomputable def qbo (c : qu→qu→Option Int) (a : Int × List qu) : Option ((Int × List qu) ⊕ (List qu)):=
  cond (decide (a.1 ≥ 1)) ((idx a.2 a.1).bind fun d=>(idx a.2 (w64 (a.1 - 1))).bind fun f=>(c d f).bind fun g=>cond (!(decide (g < 0))) (some (.inr a.2)) ((idx a.2 (w64 (a.1 - 1))).bind fun b=>(idx a.2 a.1).bind fun h=>(idx a.2 a.1).bind fun _=>(idx (a.2.set a.1.toNat b) (w64 (a.1 - 1))).bind fun _=>some (.inl (w64 (a.1 - 1),(a.2.set a.1.toNat b).set (w64 (a.1 - 1)).toNat h)))) (some (.inr a.2))
noncomputable def qbp (d : Int) (f : qu→qu→Option Int) (b : Int) (a : Int × List qu) : Option ((Int × List qu) ⊕ (Int × List qu)):=
  cond (decide (a.1 < d)) ((idx a.2 a.1).bind fun g=>(idx a.2 (w64 (a.1 - 1))).bind fun h=>(f g h).bind fun j=>cond (!(decide (j < 0))) (some (.inr (b,a.2))) ((idx a.2 (w64 (a.1 - 1))).bind fun c=>(idx a.2 a.1).bind fun k=>(idx a.2 a.1).bind fun _=>(idx (a.2.set a.1.toNat c) (w64 (a.1 - 1))).bind fun _=>some (.inl (w64 (a.1 + 1),(a.2.set a.1.toNat c).set (w64 (a.1 - 1)).toNat k)))) (some (.inr (b,a.2)))
noncomputable def q82 (c : Int) (d : qu→qu→Option Int) (h : Int) (b : Int × Int × List qu) : Option ((Int × Int × List qu) ⊕ ((List qu) ⊕ (Bool × List qu))):=
  cond (decide (b.2.1 < 5)) (((loop (qbn c b d) b.1).bind fun a=>cond (a == c) (some (.inr (true,b.2.2))) (cond (decide ((w64 (c - h)) < 50)) (some (.inr (false,b.2.2))) ((idx b.2.2 (w64 (a - 1))).bind fun f=>(idx b.2.2 a).bind fun j=>(idx b.2.2 a).bind fun _=>(idx (b.2.2.set a.toNat f) (w64 (a - 1))).bind fun _=>(cond (decide ((w64 (a - h)) ≥ 2)) ((loop (qbo d) (w64 (a - 1),(b.2.2.set a.toNat f).set (w64 (a - 1)).toNat j)).bind fun g=>some g) (some ((b.2.2.set a.toNat f).set (w64 (a - 1)).toNat j))).bind fun k=>cond (decide ((w64 (c - a)) ≥ 2)) ((loop (qbp c d a) (w64 (a + 1),k)).bind fun g=>some (.inl g)) (some (.inl (a,k))))) : Option ((Int × List qu) ⊕ (Bool × List qu))).bind fun m=>(match m with | .inl l=>some (.inl (l.1,w64 (b.2.1 + 1),l.2)) | .inr n=>some (.inr (.inr n)))) (some (.inr (.inl b.2.2)))
noncomputable def q81 (b : qu→qu→Option Int) (c : List qu) (a : Int) (d : Int) : Option (Bool × List qu):=
  (loop (q82 d b a) (w64 (a + 1),0,c) : Option ((List qu) ⊕ (Bool × List qu))).bind fun f=>(match f with | .inl g=>some (false,g) | .inr h=>some h)
noncomputable def qc8 (b : Int × Int × List qu) (c : Int) (d : qu→qu→Option Int) (a : Int) : Option ((Int) ⊕ (Int)):=
  (cond (decide (a≤b.2.1)) ((idx b.2.2 c).bind fun f=>(idx b.2.2 a).bind fun g=>(d f g).bind fun h=>some (!(decide (h < 0)))) (some false)).bind fun j=>cond j (some (.inl (w64 (a + 1)))) (some (.inr a))
noncomputable def qc9 (c : Int) (b : Int × Int × List qu) (d : Int) (f : qu→qu→Option Int) (a : Int) : Option ((Int) ⊕ (Int)):=
  (cond (decide (c≤a)) ((idx b.2.2 d).bind fun g=>(idx b.2.2 a).bind fun h=>(f g h).bind fun j=>some (decide (j < 0))) (some false)).bind fun k=>cond k (some (.inl (w64 (a - 1)))) (some (.inr a))
noncomputable def qc7 (d : Int) (f : qu→qu→Option Int) (a : Int × Int × List qu) : Option ((Int × Int × List qu) ⊕ (Int × List qu)):=
  (loop (qc8 a d f) a.1).bind fun b=>(loop (qc9 b a d f) a.2.1).bind fun c=>cond (decide (b > c)) (some (.inr (b,a.2.2))) ((idx a.2.2 c).bind fun g=>(idx a.2.2 b).bind fun h=>(idx a.2.2 b).bind fun _=>(idx (a.2.2.set b.toNat g) c).bind fun _=>some (.inl (w64 (b + 1),w64 (c - 1),(a.2.2.set b.toNat g).set c.toNat h)))
noncomputable def qc6 (g : qu→qu→Option Int) (b : List qu) (a : Int) (h : Int) (c : Int) : Option (Int × List qu):=
  (idx b c).bind fun d=>(idx b a).bind fun j=>(idx b a).bind fun _=>(idx (b.set a.toNat d) c).bind fun _=>(loop (qc7 a g) (w64 (a + 1),w64 (h - 1),(b.set a.toNat d).set c.toNat j)).bind fun f=>some (f.1,f.2)
noncomputable def qbv (h : Int) (c : List qu) (b : Int) (d : qu) (f : Int) (g : qu) (j : qu→qu→Option Int) (a : Int) : Option ((Int) ⊕ (Int)):=
  (cond (decide (a≤(w64 (h - 1)))) ((idx ((c.set b.toNat d).set f.toNat g) a).bind fun k=>(idx ((c.set b.toNat d).set f.toNat g) b).bind fun l=>(j k l).bind fun m=>some (decide (m < 0))) (some false)).bind fun n=>cond n (some (.inl (w64 (a + 1)))) (some (.inr a))
noncomputable def qbw (h : Int) (c : List qu) (b : Int) (d : qu) (f : Int) (g : qu) (j : qu→qu→Option Int) (a : Int) : Option ((Int) ⊕ (Int)):=
  (cond (decide (h≤a)) ((idx ((c.set b.toNat d).set f.toNat g) a).bind fun k=>(idx ((c.set b.toNat d).set f.toNat g) b).bind fun l=>(j k l).bind fun m=>some (!(decide (m < 0)))) (some false)).bind fun n=>cond n (some (.inl (w64 (a - 1)))) (some (.inr a))
noncomputable def qby (b : Int × Int × List qu) (c : Int) (d : qu→qu→Option Int) (a : Int) : Option ((Int) ⊕ (Int)):=
  (cond (decide (a≤b.2.1)) ((idx b.2.2 a).bind fun f=>(idx b.2.2 c).bind fun g=>(d f g).bind fun h=>some (decide (h < 0))) (some false)).bind fun j=>cond j (some (.inl (w64 (a + 1)))) (some (.inr a))
noncomputable def qbz (c : Int) (b : Int × Int × List qu) (d : Int) (f : qu→qu→Option Int) (a : Int) : Option ((Int) ⊕ (Int)):=
  (cond (decide (c≤a)) ((idx b.2.2 a).bind fun g=>(idx b.2.2 d).bind fun h=>(f g h).bind fun j=>some (!(decide (j < 0)))) (some false)).bind fun k=>cond k (some (.inl (w64 (a - 1)))) (some (.inr a))
noncomputable def qbx (d : Int) (f : qu→qu→Option Int) (a : Int × Int × List qu) : Option ((Int × Int × List qu) ⊕ (Int × List qu)):=
  (loop (qby a d f) a.1).bind fun b=>(loop (qbz b a d f) a.2.1).bind fun c=>cond (decide (b > c)) (some (.inr (c,a.2.2))) ((idx a.2.2 c).bind fun g=>(idx a.2.2 b).bind fun h=>(idx a.2.2 b).bind fun _=>(idx (a.2.2.set b.toNat g) c).bind fun _=>some (.inl (w64 (b + 1),w64 (c - 1),(a.2.2.set b.toNat g).set c.toNat h)))
noncomputable def qbu (k : qu→qu→Option Int) (b : List qu) (a : Int) (l : Int) (c : Int) : Option (Int × Bool × List qu):=
  (idx b c).bind fun d=>(idx b a).bind fun f=>(idx b a).bind fun _=>(idx (b.set a.toNat d) c).bind fun _=>(loop (qbv l b a d c f k) (w64 (a + 1))).bind fun j=>(loop (qbw j b a d c f k) (w64 (l - 1))).bind fun g=>cond (decide (j > g)) ((idx ((b.set a.toNat d).set c.toNat f) a).bind fun m=>(idx ((b.set a.toNat d).set c.toNat f) g).bind fun p=>(idx ((b.set a.toNat d).set c.toNat f) g).bind fun _=>(idx (((b.set a.toNat d).set c.toNat f).set g.toNat m) a).bind fun _=>some (g,true,(((b.set a.toNat d).set c.toNat f).set g.toNat m).set a.toNat p)) ((idx ((b.set a.toNat d).set c.toNat f) g).bind fun n=>(idx ((b.set a.toNat d).set c.toNat f) j).bind fun q=>(idx ((b.set a.toNat d).set c.toNat f) j).bind fun _=>(idx (((b.set a.toNat d).set c.toNat f).set j.toNat n) g).bind fun _=>(loop (qbx a k) (w64 (j + 1),w64 (g - 1),(((b.set a.toNat d).set c.toNat f).set j.toNat n).set g.toNat q)).bind fun h=>(idx h.2 a).bind fun o=>(idx h.2 h.1).bind fun r=>(idx h.2 h.1).bind fun _=>(idx (h.2.set h.1.toNat o) a).bind fun _=>some (h.1,false,(h.2.set h.1.toNat o).set a.toNat r))
noncomputable def qb6 (b : Int) (d : Int) (f : Int) (a : Int × List qu × Int) : Option ((Int × List qu × Int) ⊕ (List qu)):=
  cond (decide (a.1≤(w64 ((w64 (b + (w64 ((w64 (Int.tdiv (w64 (d - b)) 4)) * 2)))) + 1)))) ((q11 a.2.2).bind fun c=>(cond (decide ((w64 (andI .u64 c (IntKind.wrap .u64 (f - 1)))) ≥ (w64 (d - b)))) (some (w64 ((w64 (andI .u64 c (IntKind.wrap .u64 (f - 1)))) - (w64 (d - b))))) (some (w64 (andI .u64 c (IntKind.wrap .u64 (f - 1)))))).bind fun g=>(idx a.2.1 (w64 (b + g))).bind fun h=>(idx a.2.1 a.1).bind fun j=>(idx a.2.1 a.1).bind fun _=>(idx (a.2.1.set a.1.toNat h) (w64 (b + g))).bind fun _=>some (.inl (w64 (a.1 + 1),(a.2.1.set a.1.toNat h).set (w64 (b + g)).toNat j,c))) (some (.inr a.2.1))
noncomputable def qb5 (g : qu→qu→Option Int) (c : List qu) (a : Int) (b : Int) : Option (List qu):=
  cond (decide ((w64 (b - a)) ≥ 8)) ((q10 (w64 (b - a))).bind fun d=>(loop (qb6 a b d) (w64 ((w64 (a + (w64 ((w64 (Int.tdiv (w64 (b - a)) 4)) * 2)))) - 1),c,IntKind.wrap .u64 (w64 (b - a)))).bind fun f=>some f) (some c)
noncomputable def q8i (c : qu→qu→Option Int) (rec : List qu→Int→Int→Int→Option (List qu)) (a : Int × Int × Int × Bool × Bool × List qu) : Option ((Int × Int × Int × Bool × Bool × List qu) ⊕ (List qu)):=
  cond (decide ((w64 (a.2.1 - a.1))≤12)) ((qbh c a.2.2.2.2.2 a.1 a.2.1).bind fun l=>(K5 l.length a.2.2.2.2.2.length).bind fun _=>some (.inr l)) (cond (a.2.2.1 == 0) ((qbb c a.2.2.2.2.2 a.1 a.2.1).bind fun m=>(K5 m.length a.2.2.2.2.2.length).bind fun _=>some (.inr m)) ((cond (!a.2.2.2.1) ((qb5 c a.2.2.2.2.2 a.1 a.2.1).bind fun n=>(K5 n.length a.2.2.2.2.2.length).bind fun _=>some (w64 (a.2.2.1 - 1),n)) (some (a.2.2.1,a.2.2.2.2.2))).bind fun d=>(qb9 d.2 a.1 a.2.1 c).bind fun h=>(cond (h.2 == 2) ((qce c d.2 a.1 a.2.1).bind fun o=>(K5 o.length d.2.length).bind fun _=>some (w64 ((w64 (a.2.1 - 1)) - (w64 (h.1 - a.1))),1,o)) (some (h.1,h.2,d.2))).bind fun f=>(cond a.2.2.2.1 (some a.2.2.2.2.1) (some false)).bind fun r=>(cond r (some (f.2.1 == 1)) (some false)).bind fun s=>(cond s ((q81 c f.2.2 a.1 a.2.1).bind fun j=>(K5 j.2.length f.2.2.length).bind fun _=>cond j.1 (some (.inr j.2)) (some (.inl j.2))) (some (.inl f.2.2)) : Option ((List qu) ⊕ (List qu))).bind fun t=>(match t with | .inl g=>(cond (decide (a.1 > 0)) ((idx g (w64 (a.1 - 1))).bind fun u=>(idx g f.1).bind fun v=>(c u v).bind fun w=>some (!(decide (w < 0)))) (some false)).bind fun x=>cond x ((qc6 c g a.1 a.2.1 f.1).bind fun k=>(K5 k.2.length g.length).bind fun _=>some (.inl (k.1,a.2.1,d.1,a.2.2.2.1,a.2.2.2.2.1,k.2))) ((qbu c g a.1 a.2.1 f.1).bind fun b=>(K5 b.2.2.length g.length).bind fun _=>cond (decide ((w64 (b.1 - a.1)) < (w64 (a.2.1 - b.1)))) ((rec b.2.2 a.1 b.1 d.1).bind fun p=>(K5 p.length b.2.2.length).bind fun _=>some (.inl (w64 (b.1 + 1),a.2.1,d.1,decide ((w64 (b.1 - a.1)) ≥ (w64 (Int.tdiv (w64 (a.2.1 - a.1)) 8))),b.2.1,p))) ((rec b.2.2 (w64 (b.1 + 1)) a.2.1 d.1).bind fun q=>(K5 q.length b.2.2.length).bind fun _=>some (.inl (a.1,b.1,d.1,decide ((w64 (a.2.1 - b.1)) ≥ (w64 (Int.tdiv (w64 (a.2.1 - a.1)) 8))),b.2.1,q)))) | .inr y=>some (.inr y))))
noncomputable def q8j (rec : List qu→Int→Int→Int→Option (List qu)) (a : qu→qu→Option Int) (b : List qu) (c : Int) (d : Int) (f : Int) : Option (List qu):=
  (loop (q8i a rec) (c,d,f,true,true,b)).bind fun g=>some g
noncomputable def q8h : Nat→(qu→qu→Option Int)→List qu→Int→Int→Int→Option (List qu)
  | 0,_,_,_,_,_=>none
  | n + 1,a,b,c,d,f=>q8j (q8h n a) a b c d f
noncomputable def q7o (c : qu→qu→Option Int) (a : List qu) : Option (List qu):=
  (U3 (IntKind.wrap .u64 (a.length : Int))).bind fun d=>(lim (fun n=>q8h n c a 0 (a.length : Int) d)).bind fun b=>(K5 b.length a.length).bind fun _=>some b
noncomputable def q4r (d : List qu) (f : List qu) (a : Int × Bool × Int × List Int × List ql) : Option ((Int × Bool × Int × List Int × List ql) ⊕ (List ql)):=
  cond (decide (a.2.2.1 < (d.length : Int))) ((idx f a.2.2.1).bind fun b=>(cond a.2.1 (some (decide (b.at_ > a.1))) (some false)).bind fun g=>(cond g ((cond (decide ((a.2.2.2.2.length : Int) > 0)) ((idx a.2.2.2.2 (w64 ((a.2.2.2.2.length : Int) - 1))).bind fun h=>some (h.Hi == a.1)) (some false)).bind fun j=>cond j ((idx a.2.2.2.2 (w64 ((a.2.2.2.2.length : Int) - 1))).bind fun k=>some (a.2.2.2.2.set (w64 ((a.2.2.2.2.length : Int) - 1)).toNat ({Lo:=k.Lo,Hi:=b.at_} : ql))) ((app 16 a.2.2.2.2 [({Lo:=a.1,Hi:=b.at_} : ql)]).bind fun l=>some l)) (some a.2.2.2.2)).bind fun m=>(idxA 2 a.2.2.2.1 b.kind_).bind fun c=>(idxA 2 a.2.2.2.1 b.kind_).bind fun _=>(idxA 2 (a.2.2.2.1.set b.kind_.toNat (w64 (c + b.by_))) 0).bind fun n=>(cond (decide (n > 0)) ((idxA 2 (a.2.2.2.1.set b.kind_.toNat (w64 (c + b.by_))) 1).bind fun o=>some (o == 0)) (some false)).bind fun p=>some (.inl (b.at_,p,w64 (a.2.2.1 + 1),a.2.2.2.1.set b.kind_.toNat (w64 (c + b.by_)),m))) (some (.inr a.2.2.2.2))
noncomputable def q6t (a : List qu) : Option (List qu × List ql):=
  (q7o (fun c d=>qa6 c d) a).bind fun b=>(K5 b.length a.length).bind fun _=>(loop (q4r a b) (0,false,0,[0,0],[])).bind fun f=>some (b,f)
noncomputable def q4k (b : List qf) (a : Int × List Int) : Option ((Int × List Int) ⊕ (List Int)):=
  cond (decide (a.1 < (b.length : Int))) ((idx b a.1).bind fun c=>(app 8 a.2 [c.X0,c.X1]).bind fun d=>some (.inl (w64 (a.1 + 1),d))) (some (.inr a.2))
noncomputable def q29 (b : List qf) (c : List qf) (a : Int × List Int) : Option ((Int × List Int) ⊕ (List Int)):=
  cond (decide (a.1 < 2)) (((idxA 2 [b,c] a.1).bind fun d=>(loop (q4k d) (0,a.2)).bind fun f=>some f).bind fun g=>some (.inl (w64 (a.1 + 1),g))) (some (.inr a.2))
noncomputable def q4m (c : List qf) (d : List Int) (f : Int × Int × Int × List ql × Int × List qf) (g : Int × List qu) (a : Int × List qu) : Option ((Int × List qu) ⊕ (List qu)):=
  cond (decide (a.1 < (c.length : Int))) (((idx c a.1).bind fun b=>(idx d (w64 (f.1 - 1))).bind fun h=>(cond (decide (b.X0≤h)) ((idx d (w64 (f.1 - 1))).bind fun j=>some (decide (j < b.X1))) (some false)).bind fun k=>cond k ((app 24 a.2 [({at_:=b.Y0,kind_:=g.1,by_:=1} : qu),({at_:=b.Y1,kind_:=g.1,by_:=(-1)} : qu)]).bind fun l=>some l) (some a.2)).bind fun m=>some (.inl (w64 (a.1 + 1),m))) (some (.inr a.2))
noncomputable def q2a (b : List qf) (c : List qf) (d : List Int) (f : Int × Int × Int × List ql × Int × List qf) (a : Int × List qu) : Option ((Int × List qu) ⊕ (List qu)):=
  cond (decide (a.1 < 2)) (((idxA 2 [b,c] a.1).bind fun g=>(loop (q4m g d f a) (0,a.2)).bind fun h=>some h).bind fun j=>some (.inl (w64 (a.1 + 1),j))) (some (.inr a.2))
noncomputable def q4n (c : Int) (a : Int × List qf) : Option ((Int × List qf) ⊕ (List qf)):=
  cond (decide (a.1 < (a.2.length : Int))) ((idx a.2 a.1).bind fun b=>some (.inl (w64 (a.1 + 1),a.2.set a.1.toNat ({X0:=b.X0,Y0:=b.Y0,X1:=c,Y1:=b.Y1} : qf)))) (some (.inr a.2))
noncomputable def q4o (b : List qu × List ql) (c : Int) (f : Int) (g : Int × Int × Int × List ql × Int × List qf) (a : Int × List qf) : Option ((Int × List qf) ⊕ (Int × List ql × Int × List qf)):=
  cond (decide (a.1 < (b.2.length : Int))) ((idx b.2 a.1).bind fun d=>(app 32 a.2 [({X0:=c,Y0:=d.Lo,X1:=f,Y1:=d.Hi} : qf)]).bind fun h=>some (.inl (w64 (a.1 + 1),h))) (some (.inr (c,b.2,(g.2.2.2.2.2.length : Int),a.2)))
noncomputable def q4l (b : List Int) (h : List qf) (j : List qf) (a : Int × Int × Int × List ql × Int × List qf) : Option ((Int × Int × Int × List ql × Int × List qf) ⊕ (List qf)):=
  cond (decide (a.1 < (b.length : Int))) ((loop (q2a h j b a) (0,[])).bind fun k=>(idx b (w64 (a.1 - 1))).bind fun g=>(idx b a.1).bind fun d=>(q6t k).bind fun f=>((cond (a.2.2.1 == g) (some (decide ((f.2.length : Int) > 0))) (some false)).bind fun l=>(cond l ((q3r a.2.2.2.1 f.2).bind fun m=>some m) (some false)).bind fun n=>cond n ((loop (q4n d) (a.2.2.2.2.1,a.2.2.2.2.2)).bind fun o=>some (a.2.1,a.2.2.2.1,a.2.2.2.2.1,o)) ((loop (q4o f g d a) (0,a.2.2.2.2.2)).bind fun p=>some p)).bind fun c=>some (.inl (w64 (a.1 + 1),c.1,d,c.2.1,c.2.2.1,c.2.2.2))) (some (.inr a.2.2.2.2.2))
noncomputable def qa4 (c : List qf) (d : List qf) : Option (List qf × Int):=
  ((loop (q29 c d) (0,[])).bind fun f=>(Jm f).bind fun b=>(K5 b.length f.length).bind fun _=>(Uz b).bind fun a=>(K5 a.2.length b.length).bind fun _=>(Jn a.2.length a.1).bind fun _=>some ((a.2.drop a.1.1).take a.1.2)).bind fun h=>((loop (q4l h c d) (1,0,0,[],0,[])).bind fun j=>some j).bind fun g=>cond (decide ((g.length : Int) > 400)) (some ([],4)) (some (g,0))
noncomputable def q2r (c : List qf) (d : qf × Int) (a : Int × List qf) : Option ((Int × List qf) ⊕ (List qf)):=
  cond (decide (a.1 < (c.length : Int))) (((idx c a.1).bind fun b=>(cond (a.1 == 0) (some true) ((idx c (w64 (a.1 - 1))).bind fun h=>some (h.X0 != b.X0))).bind fun f=>(cond f (some (decide (a.1 > 0))) (some false)).bind fun j=>(cond j ((idx c (w64 (a.1 - 1))).bind fun k=>(q4q ({X0:=k.X1,Y0:=d.1.Y0,X1:=b.X0,Y1:=d.1.Y1} : qf) a.2).bind fun l=>some l) (some a.2)).bind fun m=>(cond (!f) ((idx c (w64 (a.1 - 1))).bind fun n=>some n.Y1) (some d.1.Y0)).bind fun o=>(q4q ({X0:=b.X0,Y0:=o,X1:=b.X1,Y1:=b.Y0} : qf) m).bind fun g=>(cond (a.1 == (w64 ((c.length : Int) - 1))) (some true) ((idx c (w64 (a.1 + 1))).bind fun p=>some (p.X0 != b.X0))).bind fun q=>cond q ((q4q ({X0:=b.X0,Y0:=b.Y1,X1:=b.X1,Y1:=d.1.Y1} : qf) g).bind fun r=>some r) (some g)).bind fun s=>some (.inl (w64 (a.1 + 1),s))) (some (.inr a.2))
noncomputable def q4i (b : qf × List qf) (c : Int) (a : Int × List qf) : Option ((Int × List qf) ⊕ (List qf)):=
  cond (decide (a.1 < (b.2.length : Int))) ((idx a.2 a.1).bind fun d=>(q4p d c).bind fun f=>(idx a.2 a.1).bind fun _=>some (.inl (w64 (a.1 + 1),a.2.set a.1.toNat f))) (some (.inr a.2))
noncomputable def q2s (d : qf) (a : Int × Int × List qf) : Option ((Int × Int × List qf) ⊕ (Int × List qf)):=
  cond (decide (a.2.1 < (a.2.2.length : Int))) (((idx a.2.2 a.2.1).bind fun b=>(q28 b d).bind fun f=>cond (!f) ((idx a.2.2 a.1).bind fun _=>some (w64 (a.1 + 1),a.2.2.set a.1.toNat b)) (some (a.1,a.2.2))).bind fun c=>some (.inl (c.1,w64 (a.2.1 + 1),c.2))) (some (.inr (a.1,a.2.2)))
noncomputable def q4j (g : (Nat × Nat) × List qf) (c : qf) (a : (Nat × Nat) × Int × List qf) : Option (((Nat × Nat) × Int × List qf) ⊕ ((Nat × Nat) × List qf)):=
  cond (decide (a.2.1 < (g.1.2 : Int))) ((idxW a.2.2 a.1 a.2.1).bind fun d=>(idxW a.2.2 a.1 a.2.1).bind fun b=>(idxW (a.2.2.set ((a.1.1 : Int) + a.2.1).toNat ({X0:=max d.X0 c.X0,Y0:=b.Y0,X1:=b.X1,Y1:=b.Y1} : qf)) a.1 a.2.1).bind fun f=>some (.inl (a.1,w64 (a.2.1 + 1),(a.2.2.set ((a.1.1 : Int) + a.2.1).toNat ({X0:=max d.X0 c.X0,Y0:=b.Y0,X1:=b.X1,Y1:=b.Y1} : qf)).set ((a.1.1 : Int) + a.2.1).toNat ({X0:=f.X0,Y0:=f.Y0,X1:=min d.X1 c.X1,Y1:=f.Y1} : qf)))) (some (.inr (a.1,a.2.2)))
noncomputable def q6s (f : List qf) (h : Int) : Option (List qf × Int):=
  (qa5 f h).bind fun l=>cond (l != 0) (some ([],l)) (cond ((f.length : Int) == 0) (some ([],0)) (((qaq f).bind fun m=>(loop (q2r f m) (0,[])).bind fun o=>some (m.1,o)).bind fun b=>(q4p ({X0:=(b.1).X0,Y0:=(b.1).Y0,X1:=(b.1).X1,Y1:=(b.1).Y1} : qf) (w64 (0 - h))).bind fun a=>(cond (decide (a.X0 ≥ a.X1)) (some true) (some (decide (a.Y0 ≥ a.Y1)))).bind fun p=>cond p (some ([],0)) ((loop (q4i b h) (0,b.2)).bind fun g=>((q5m g (fun q=>q28 q a)).bind fun j=>cond (j == (-1)) (some ((0,g.length),g)) ((loop (q2s a) (j,w64 (j + 1),g)).bind fun c=>(sub2 c.2.length c.1 c.2.length).bind fun r=>(sub2 c.2.length 0 c.1).bind fun s=>some (s,clrw c.2 r ({X0:=0,Y0:=0,X1:=0,Y1:=0} : qf)))).bind fun k=>(loop (q4j k a) (k.1,0,k.2)).bind fun d=>(Jn d.2.length d.1).bind fun _=>(qa4 [a] ((d.2.drop d.1.1).take d.1.2)).bind fun n=>some (n.1,n.2))))
noncomputable def q5b (b : List qk) (c : qk) (a : Int × List qf) : Option ((Int × List qf) ⊕ (Int × List qf)):=
  (cond (decide (a.1 < (b.length : Int))) ((idx b a.1).bind fun d=>some (d.Lo.Z == c.Lo.Z)) (some false)).bind fun f=>cond f ((idx b a.1).bind fun g=>(idx b a.1).bind fun h=>(idx b a.1).bind fun j=>(idx b a.1).bind fun k=>(app 32 a.2 [({X0:=g.Lo.X,Y0:=h.Lo.Y,X1:=j.Hi.X,Y1:=k.Hi.Y} : qf)]).bind fun l=>some (.inl (w64 (a.1 + 1),l))) (some (.inr (a.1,a.2)))
noncomputable def q3j (b : List qk) (j : Int) (a : Int × List qf × Int × Int × List qk) : Option ((Int × List qf × Int × Int × List qk) ⊕ ((List qf × Int × Int × List qk) ⊕ (List qk × Int))):=
  cond (decide (a.1 < (b.length : Int))) ((idx b a.1).bind fun g=>(idx b a.1).bind fun k=>(loop (q5b b g) (a.1,[])).bind fun h=>((q6s h.2 j).bind fun f=>cond (f.2 != 0) (some (.inr ([],f.2))) ((q7a a.2.2.2.2 a.2.1 a.2.2.1 a.2.2.2.1 g.Lo.Z k.Hi.Z f.1).bind fun c=>some (.inl (c.1,c.2.1,c.2.2.1,c.2.2.2))) : Option ((List qf × Int × Int × List qk) ⊕ (List qk × Int))).bind fun l=>(match l with | .inl d=>some (.inl (h.1,d.1,d.2.1,d.2.2.1,d.2.2.2)) | .inr m=>some (.inr (.inr m)))) (some (.inr (.inl (a.2.1,a.2.2.1,a.2.2.2.1,a.2.2.2.2))))
noncomputable def qal (c : List qk) (a : Int) : Option (List qk × Int):=
  (q2f c).bind fun d=>cond (d != 0) (some ([],d)) ((cond (decide (a < 1)) (some true) (some (decide (a > 1000000)))).bind fun h=>cond h (some ([],2)) ((some ()).bind fun _=>((loop (q3j c a) (0,[],0,0,[]) : Option ((List qf × Int × Int × List qk) ⊕ (List qk × Int))).bind fun j=>(match j with | .inl k=>some (.inl k) | .inr b=>some (.inr b)) : Option ((List qf × Int × Int × List qk) ⊕ (List qk × Int))).bind fun l=>(match l with | .inl f=>(cond (decide ((f.2.2.2.length : Int) > 400)) (some (4,[])) (some (0,f.2.2.2))).bind fun g=>some (g.2,g.1) | .inr b=>some b)))
noncomputable def qf7 (c : List qk) (d : Int) (a : Int × List qf) : Option ((Int × List qf) ⊕ (List qf)):=
  cond (decide (a.1 < (c.length : Int))) (((idx c a.1).bind fun b=>(cond (decide (b.Lo.Z≤d)) (some (decide (d < b.Hi.Z))) (some false)).bind fun f=>cond f ((app 32 a.2 [({X0:=b.Lo.X,Y0:=b.Lo.Y,X1:=b.Hi.X,Y1:=b.Hi.Y} : qf)]).bind fun g=>some g) (some a.2)).bind fun h=>some (.inl (w64 (a.1 + 1),h))) (some (.inr a.2))
noncomputable def qcp (a : List qk) (c : Int) : Option (List qf × Int):=
  (q2f a).bind fun b=>cond (b != 0) (some ([],b)) ((loop (qf7 a c) (0,[])).bind fun d=>some (d,0))
noncomputable def qf9 (b : List qk) (a : Int × List Int) : Option ((Int × List Int) ⊕ (List Int)):=
  cond (decide (a.1 < (b.length : Int))) ((idx b a.1).bind fun c=>(app 8 a.2 [c.Lo.Z,c.Hi.Z]).bind fun d=>some (.inl (w64 (a.1 + 1),d))) (some (.inr a.2))
noncomputable def qfa (b : List qk) (a : Int × List Int) : Option ((Int × List Int) ⊕ (List Int)):=
  cond (decide (a.1 < (b.length : Int))) ((idx b a.1).bind fun c=>(app 8 a.2 [c.Lo.Z,c.Hi.Z]).bind fun d=>some (.inl (w64 (a.1 + 1),d))) (some (.inr a.2))
noncomputable def qfb (c : List qk) (d : Int) (a : Int × List qf) : Option ((Int × List qf) ⊕ (List qf)):=
  cond (decide (a.1 < (c.length : Int))) (((idx c a.1).bind fun b=>(cond (decide (b.Lo.Z≤d)) (some (decide (d < b.Hi.Z))) (some false)).bind fun f=>cond f ((app 32 a.2 [({X0:=b.Lo.X,Y0:=b.Lo.Y,X1:=b.Hi.X,Y1:=b.Hi.Y} : qf)]).bind fun g=>some g) (some a.2)).bind fun h=>some (.inl (w64 (a.1 + 1),h))) (some (.inr a.2))
noncomputable def qfc (c : List qk) (d : Int) (a : Int × List qf) : Option ((Int × List qf) ⊕ (List qf)):=
  cond (decide (a.1 < (c.length : Int))) (((idx c a.1).bind fun b=>(cond (decide (b.Lo.Z≤d)) (some (decide (d < b.Hi.Z))) (some false)).bind fun f=>cond f ((app 32 a.2 [({X0:=b.Lo.X,Y0:=b.Lo.Y,X1:=b.Hi.X,Y1:=b.Hi.Y} : qf)]).bind fun g=>some g) (some a.2)).bind fun h=>some (.inl (w64 (a.1 + 1),h))) (some (.inr a.2))
noncomputable def q5z (f : List Int) (l : List qk) (m : List qk) (o : List qf→List qf→Option (List qf × Int)) (a : Int × List qf × Int × Int × List qk) : Option ((Int × List qf × Int × Int × List qk) ⊕ ((List qf × Int × Int × List qk) ⊕ (List qk × Int))):=
  cond (decide (a.1 < (f.length : Int))) ((idx f (w64 (a.1 - 1))).bind fun g=>(idx f a.1).bind fun p=>((idx [l,m] 0).bind fun q=>(loop (qfb q g) (0,[])).bind fun h=>some h).bind fun r=>((idx [l,m] 1).bind fun s=>(loop (qfc s g) (0,[])).bind fun h=>some h).bind fun t=>((q2w r).bind fun b=>(cond (b.2 == 0) ((q2w t).bind fun j=>cond (j.2 == 0) ((o b.1 j.1).bind fun n=>some (n.1,n.2)) (some (b.1,j.2))) (some (b.1,b.2))).bind fun k=>cond (k.2 != 0) (some (.inr ([],k.2))) ((q8v a.2.2.2.2 a.2.1 a.2.2.1 a.2.2.2.1 g p k.1).bind fun c=>some (.inl (c.1,c.2.1,c.2.2.1,c.2.2.2))) : Option ((List qf × Int × Int × List qk) ⊕ (List qk × Int))).bind fun u=>(match u with | .inl d=>some (.inl (w64 (a.1 + 1),d.1,d.2.1,d.2.2.1,d.2.2.2)) | .inr v=>some (.inr (.inr v)))) (some (.inr (.inl (a.2.1,a.2.2.1,a.2.2.2.1,a.2.2.2.2))))
noncomputable def qcs (k : List qf→List qf→Option (List qf × Int)) (c : List qk) (d : List qk) : Option (List qk × Int):=
  (((idx [c,d] 0).bind fun l=>(loop (qf9 l) (0,[])).bind fun b=>some b).bind fun m=>((idx [c,d] 1).bind fun n=>(loop (qfa n) (0,m)).bind fun b=>some b).bind fun h=>(Jm h).bind fun f=>(K5 f.length h.length).bind fun _=>(Uz f).bind fun a=>(K5 a.2.length f.length).bind fun _=>(Jn a.2.length a.1).bind fun _=>some ((a.2.drop a.1.1).take a.1.2)).bind fun o=>((loop (q5z o c d k) (1,[],0,0,[]) : Option ((List qf × Int × Int × List qk) ⊕ (List qk × Int))).bind fun p=>(match p with | .inl b=>some (.inl b) | .inr g=>some (.inr g)) : Option ((List qf × Int × Int × List qk) ⊕ (List qk × Int))).bind fun q=>(match q with | .inl j=>cond (decide ((j.2.2.2.length : Int) > 400)) (some ([],4)) (some (j.2.2.2,0)) | .inr g=>some g)
noncomputable def qcq (a : List qk) (b : List qk) (g : List qf→List qf→Option (List qf × Int)) : Option (List qk × Int):=
  (q2f a).bind fun c=>cond (c != 0) (some ([],c)) ((q2f b).bind fun d=>cond (d != 0) (some ([],d)) ((qcs g a b).bind fun f=>some (f.1,f.2)))
noncomputable def qar (b : List qf) (c : List qf) : Option Int:=
  (q2b b).bind fun a=>cond (a != 0) (some a) ((q2b c).bind fun d=>some d)
noncomputable def qes (b : List qf) (a : Int × List Int) : Option ((Int × List Int) ⊕ (List Int)):=
  cond (decide (a.1 < (b.length : Int))) ((idx b a.1).bind fun c=>(app 8 a.2 [c.X0,c.X1]).bind fun d=>some (.inl (w64 (a.1 + 1),d))) (some (.inr a.2))
noncomputable def qet (b : List qf) (a : Int × List Int) : Option ((Int × List Int) ⊕ (List Int)):=
  cond (decide (a.1 < (b.length : Int))) ((idx b a.1).bind fun c=>(app 8 a.2 [c.X0,c.X1]).bind fun d=>some (.inl (w64 (a.1 + 1),d))) (some (.inr a.2))
noncomputable def qeu (c : List qf) (d : Int) (a : Int × List ql) : Option ((Int × List ql) ⊕ (List ql)):=
  cond (decide (a.1 < (c.length : Int))) (((idx c a.1).bind fun b=>(cond (decide (b.X0≤d)) (some (decide (d < b.X1))) (some false)).bind fun f=>cond f ((app 16 a.2 [({Lo:=b.Y0,Hi:=b.Y1} : ql)]).bind fun g=>some g) (some a.2)).bind fun h=>some (.inl (w64 (a.1 + 1),h))) (some (.inr a.2))
noncomputable def qev (c : List qf) (d : Int) (a : Int × List ql) : Option ((Int × List ql) ⊕ (List ql)):=
  cond (decide (a.1 < (c.length : Int))) (((idx c a.1).bind fun b=>(cond (decide (b.X0≤d)) (some (decide (d < b.X1))) (some false)).bind fun f=>cond f ((app 16 a.2 [({Lo:=b.Y0,Hi:=b.Y1} : ql)]).bind fun g=>some g) (some a.2)).bind fun h=>some (.inl (w64 (a.1 + 1),h))) (some (.inr a.2))
noncomputable def q5h (d : List Int) (j : List qf) (k : List qf) (l : List ql→List ql→Option (List ql × Int)) (a : Int × List ql × Int × Int × List qf) : Option ((Int × List ql × Int × Int × List qf) ⊕ ((List ql × Int × Int × List qf) ⊕ (List qf × Int))):=
  cond (decide (a.1 < (d.length : Int))) ((idx d (w64 (a.1 - 1))).bind fun f=>(idx d a.1).bind fun m=>((idx [j,k] 0).bind fun n=>(loop (qeu n f) (0,[])).bind fun g=>some g).bind fun o=>((idx [j,k] 1).bind fun p=>(loop (qev p f) (0,[])).bind fun g=>some g).bind fun q=>((l o q).bind fun h=>cond (h.2 != 0) (some (.inr ([],h.2))) ((q7g a.2.2.2.2 a.2.1 a.2.2.1 a.2.2.2.1 f m h.1).bind fun b=>some (.inl (b.1,b.2.1,b.2.2.1,b.2.2.2))) : Option ((List ql × Int × Int × List qf) ⊕ (List qf × Int))).bind fun r=>(match r with | .inl c=>some (.inl (w64 (a.1 + 1),c.1,c.2.1,c.2.2.1,c.2.2.2)) | .inr s=>some (.inr (.inr s)))) (some (.inr (.inl (a.2.1,a.2.2.1,a.2.2.2.1,a.2.2.2.2))))
noncomputable def qas (c : List qf) (d : List qf) (m : List ql→List ql→Option (List ql × Int)) : Option (List qf × Int):=
  (qar c d).bind fun h=>cond (h != 0) (some ([],h)) ((((idx [c,d] 0).bind fun n=>(loop (qes n) (0,[])).bind fun b=>some b).bind fun o=>((idx [c,d] 1).bind fun p=>(loop (qet p) (0,o)).bind fun b=>some b).bind fun j=>(Jm j).bind fun f=>(K5 f.length j.length).bind fun _=>(Uz f).bind fun a=>(K5 a.2.length f.length).bind fun _=>(Jn a.2.length a.1).bind fun _=>some ((a.2.drop a.1.1).take a.1.2)).bind fun q=>((loop (q5h q c d m) (1,[],0,0,[]) : Option ((List ql × Int × Int × List qf) ⊕ (List qf × Int))).bind fun r=>(match r with | .inl b=>some (.inl b) | .inr g=>some (.inr g)) : Option ((List ql × Int × Int × List qf) ⊕ (List qf × Int))).bind fun s=>(match s with | .inl k=>(cond (decide ((k.2.2.2.length : Int) > 400)) (some (4,[])) (some (0,k.2.2.2))).bind fun l=>some (l.2,l.1) | .inr g=>some g))
noncomputable def q31 (b : List ql) (a : Int) : Option ((Int) ⊕ ((Unit) ⊕ (Int))):=
  cond (decide (a < (b.length : Int))) ((idx b a).bind fun c=>(q3z c).bind fun d=>(cond (!d) (some true) ((cond (decide (a > 0)) ((idx b (w64 (a - 1))).bind fun f=>some (decide (f.Hi ≥ c.Lo))) (some false)).bind fun g=>some g)).bind fun h=>cond h (some (.inr (.inr 8))) (some (.inl (w64 (a + 1))))) (some (.inr (.inl ())))
noncomputable def q3w (a : List ql) : Option Int:=
  cond (decide ((a.length : Int) > 400)) (some 4) ((loop (q31 a) 0 : Option ((Unit) ⊕ (Int))).bind fun b=>(match b with | .inl _=>some 0 | .inr c=>some c))
noncomputable def qcw (a : List ql) (b : List ql) (g : Bool→Bool→Option Bool) : Option (List ql × Int):=
  (q3w a).bind fun c=>cond (c != 0) (some ([],c)) ((q3w b).bind fun d=>cond (d != 0) (some ([],d)) ((q3y a b g).bind fun f=>cond (decide ((f.length : Int) > 400)) (some ([],4)) (some (f,0))))
noncomputable def qff (a : Bool) (b : Bool) : Option Bool:=
  (cond a (some (!b)) (some false)).bind fun c=>some c
noncomputable def q8z (b : List ql) (c : List ql) : Option (List ql × Int):=
  (qcw b c (fun d f=>qff d f)).bind fun a=>some (a.1,a.2)
noncomputable def q7f (b : List qf) (c : List qf) : Option (List qf × Int):=
  (qas b c (fun d f=>q8z d f)).bind fun a=>some (a.1,a.2)
noncomputable def qco (b : List qk) (c : List qk) : Option (List qk × Int):=
  (qcq b c (fun d f=>q7f d f)).bind fun a=>some (a.1,a.2)
noncomputable def q5y (a : qk) (b : Q0) : Option Bool:=
  (cond (decide (a.Lo.X≤b.X)) (some (decide (b.X < a.Hi.X))) (some false)).bind fun c=>(cond c (some (decide (a.Lo.Y≤b.Y))) (some false)).bind fun d=>(cond d (some (decide (b.Y < a.Hi.Y))) (some false)).bind fun f=>(cond f (some (decide (a.Lo.Z≤b.Z))) (some false)).bind fun g=>(cond g (some (decide (b.Z < a.Hi.Z))) (some false)).bind fun h=>some h
noncomputable def qcn (a : List qk) (b : Q0) : Option Bool:=
  (q5l a (fun c=>q5y c b)).bind fun d=>some d
noncomputable def q5f (a : qf) (b : Int) (c : Int) : Option Bool:=
  (cond (decide (a.X0≤b)) (some (decide (b < a.X1))) (some false)).bind fun d=>(cond d (some (decide (a.Y0≤c))) (some false)).bind fun f=>(cond f (some (decide (c < a.Y1))) (some false)).bind fun g=>some g
noncomputable def qap (a : List qf) (b : Int) (c : Int) : Option Bool:=
  (q5k a (fun d=>q5f d b c)).bind fun f=>some f
noncomputable def qe2 (b : List qk) (c : Int) (d : Q0) : Option Bool:=
  q9v.bind fun f=>(cond (decide ((b.length : Int) > 30)) (some true) ((q73 b).bind fun k=>some (k != 0))).bind fun l=>(cond l (some true) (some (decide (c < 1)))).bind fun m=>(cond m (some true) (some (decide (c > 50)))).bind fun n=>(cond n (some true) (some (!f))).bind fun o=>cond o (some f) ((qal b c).bind fun a=>(qcp b d.Z).bind fun g=>(q6s g.1 c).bind fun h=>(cond (a.2 != 0) (some true) (some (h.2 != 0))).bind fun p=>cond p ((cond f ((cond (a.2 == 0) (some true) (some (a.2 == 4))).bind fun q=>some q) (some false)).bind fun r=>some r) ((qco a.1 b).bind fun j=>(cond f (some (g.2 == 0)) (some false)).bind fun s=>(cond s ((q73 a.1).bind fun t=>some (t == 0)) (some false)).bind fun u=>(cond u ((qcn a.1 d).bind fun v=>(qap h.1 d.X d.Y).bind fun w=>some (v == w)) (some false)).bind fun x=>(cond x (some (j.2 == 0)) (some false)).bind fun y=>(cond y (some ((j.1.length : Int) == 0)) (some false)).bind fun z=>some z))
noncomputable def qo5 (a : ql) : Option Bool:=
  (cond (decide (a.Lo < a.Hi)) (some (decide (a.Lo ≥ (-1000000)))) (some false)).bind fun b=>(cond b (some (decide (a.Hi≤1000000))) (some false)).bind fun c=>some c
noncomputable def qhy (b : List ql) (a : Int) : Option ((Int) ⊕ ((Unit) ⊕ (Int))):=
  cond (decide (a < (b.length : Int))) ((idx b a).bind fun c=>(qo5 c).bind fun d=>(cond (!d) (some true) ((cond (decide (a > 0)) ((idx b (w64 (a - 1))).bind fun f=>(idx b a).bind fun g=>some (decide (f.Hi ≥ g.Lo))) (some false)).bind fun h=>some h)).bind fun j=>cond j (some (.inr (.inr 8))) (some (.inl (w64 (a + 1))))) (some (.inr (.inl ())))
noncomputable def qei (a : List ql) : Option Int:=
  cond (decide ((a.length : Int) > 400)) (some 4) ((loop (qhy a) 0 : Option ((Unit) ⊕ (Int))).bind fun b=>(match b with | .inl _=>some 0 | .inr c=>some c))
noncomputable def qaa (b : List ql) (a : Int × List Int) : Option ((Int × List Int) ⊕ (List Int)):=
  cond (decide (a.1 < (b.length : Int))) ((idx b a.1).bind fun c=>(idx b a.1).bind fun d=>(app 8 a.2 [c.Lo,d.Hi]).bind fun f=>some (.inl (w64 (a.1 + 1),f))) (some (.inr a.2))
noncomputable def qo1 (b : List ql) (a : Int × List Int) : Option ((Int × List Int) ⊕ (List Int)):=
  cond (decide (a.1 < (b.length : Int))) ((idx b a.1).bind fun c=>(idx b a.1).bind fun d=>(app 8 a.2 [c.Lo,d.Hi]).bind fun f=>some (.inl (w64 (a.1 + 1),f))) (some (.inr a.2))
noncomputable def qhz (a : List ql) (b : List ql) : Option (List Int):=
  (loop (qaa a) (0,[])).bind fun c=>(loop (qo1 b) (0,c)).bind fun d=>(Uv d).bind fun f=>some f
noncomputable def qab (b : List ql) (c : Int) (a : Int) : Option ((Int) ⊕ ((Unit) ⊕ (Bool))):=
  cond (decide (a < (b.length : Int))) ((idx b a).bind fun d=>(cond (decide (d.Lo≤c)) ((idx b a).bind fun f=>some (decide (c < f.Hi))) (some false)).bind fun g=>cond g (some (.inr (.inr true))) (some (.inl (w64 (a + 1))))) (some (.inr (.inl ())))
noncomputable def qej (a : List ql) (b : Int) : Option Bool:=
  (loop (qab a b) 0 : Option ((Unit) ⊕ (Bool))).bind fun c=>(match c with | .inl _=>some false | .inr d=>some d)
noncomputable def qac (b : List Int) (c : List ql) (d : List ql) (f : Int) (a : Int × List Bool) : Option ((Int × List Bool) ⊕ (List Bool)):=
  cond (decide (a.1 < (b.length : Int))) ((idx b a.1).bind fun g=>(qej c g).bind fun h=>(idx b a.1).bind fun j=>(qej d j).bind fun k=>(q6w f h k).bind fun l=>(app 1 a.2 [l]).bind fun m=>some (.inl (w64 (a.1 + 1),m))) (some (.inr a.2))
noncomputable def qek (d : Int) (a : List ql) (b : List ql) : Option (List ql):=
  (qhz a b).bind fun c=>(loop (qac c a b d) (0,[])).bind fun f=>(q4w c f).bind fun g=>some g
noncomputable def qcu (b : List ql) (a : Int × Int) : Option ((Int × Int) ⊕ (Int)):=
  cond (decide (a.2 < (b.length : Int))) ((idx b a.2).bind fun c=>some (.inl (w64 (a.1 + (w64 (c.Hi - c.Lo))),w64 (a.2 + 1)))) (some (.inr a.1))
noncomputable def qpr (a : List ql) : Option (Int × Int):=
  (q3w a).bind fun b=>cond (b != 0) (some (0,b)) ((loop (qcu a) (0,0)).bind fun c=>some (c,0))
noncomputable def qad (b : List ql) (a : Int × Int) : Option ((Int × Int) ⊕ (Int)):=
  cond (decide (a.2 < (b.length : Int))) ((idx b a.2).bind fun c=>(idx b a.2).bind fun d=>some (.inl (w64 ((w64 (a.1 + c.Hi)) - d.Lo),w64 (a.2 + 1)))) (some (.inr a.1))
noncomputable def qo3 (a : List ql) : Option (Int × Int):=
  (qei a).bind fun b=>cond (b != 0) ((qei a).bind fun c=>some (0,c)) ((loop (qad a) (0,0)).bind fun d=>some (d,0))
end Go.Sh
