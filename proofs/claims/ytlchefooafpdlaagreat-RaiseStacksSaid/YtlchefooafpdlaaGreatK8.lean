/- PX -/
import Derived.Test.YtlchefooafpdlaaGreatK7
namespace Go.Sh
open Go Go.Am
structure qf where
  X0 : Int
  Y0 : Int
  X1 : Int
  Y1 : Int
  deriving DecidableEq
structure Qe where
  Region : List qf
  Height : Int
  deriving DecidableEq
def qm (x : qf) : List DV:=[.int .i64 x.X0,.int .i64 x.Y0,.int .i64 x.X1,.int .i64 x.Y1]
def Kf (x : Qe) : List DV:=[.sl 4 (x.Region.map qm),.int .i64 x.Height]
structure qh where
  X : Int
  Y : Int
  Z : Int
  deriving DecidableEq
noncomputable def q1n (a : Int) (b : Int) (c : Int) (d : Int) : Option (List qf):=
  some [({X0:=a,Y0:=b,X1:=c,Y1:=d} : qf)]
structure qj where
  Lo : qh
  Hi : qh
  deriving DecidableEq
noncomputable def q3g (b : List qf) (c : qf→Option Bool) (a : Int) : Option ((Int) ⊕ ((Unit) ⊕ (Int))):=
  cond (decide (a < (b.length : Int))) ((idx b a).bind fun d=>(c d).bind fun f=>cond f (some (.inr (.inr a))) (some (.inl (w64 (a + 1))))) (some (.inr (.inl ())))
noncomputable def qay (a : List qf) (b : qf→Option Bool) : Option Int:=
  (loop (q3g a b) 0 : Option ((Unit) ⊕ (Int))).bind fun c=>(match c with | .inl _=>some (-1) | .inr d=>some d)
noncomputable def q7q (a : List qf) (b : qf→Option Bool) : Option Bool:=
  (qay a b).bind fun c=>some (decide (c ≥ 0))
noncomputable def q1w (a : Int) : Option Bool:=
  (cond (decide (a ≥ (-1000000))) (some (decide (a≤1000000))) (some false)).bind fun b=>some b
noncomputable def q50 (a : qf) : Option Bool:=
  (cond (decide (a.X0 < a.X1)) (some (decide (a.Y0 < a.Y1))) (some false)).bind fun b=>(cond b ((q1w a.X0).bind fun c=>some c) (some false)).bind fun d=>(cond d ((q1w a.X1).bind fun f=>some f) (some false)).bind fun g=>(cond g ((q1w a.Y0).bind fun h=>some h) (some false)).bind fun j=>(cond j ((q1w a.Y1).bind fun k=>some k) (some false)).bind fun l=>some l
noncomputable def q1u (a : qf) : Option Bool:=
  (q50 a).bind fun b=>some (!b)
def Z5 (x : List qf) : List DV:=[.sl 4 (x.map qm)]
def qbd : ByteArray:=⟨#[0,1,2,2,3,3,3,3,4,4,4,4,4,4,4,4,5,5,5,5,5,5,5,5,5,5,5,5,5,5,5,5,6,6,6,6,6,6,6,6,6,6,6,6,6,6,6,6,6,6,6,6,6,6,6,6,6,6,6,6,6,6,6,6,7,7,7,7,7,7,7,7,7,7,7,7,7,7,7,7,7,7,7,7,7,7,7,7,7,7,7,7,7,7,7,7,7,7,7,7,7,7,7,7,7,7,7,7,7,7,7,7,7,7,7,7,7,7,7,7,7,7,7,7,7,7,7,7,8,8,8,8,8,8,8,8,8,8,8,8,8,8,8,8,8,8,8,8,8,8,8,8,8,8,8,8,8,8,8,8,8,8,8,8,8,8,8,8,8,8,8,8,8,8,8,8,8,8,8,8,8,8,8,8,8,8,8,8,8,8,8,8,8,8,8,8,8,8,8,8,8,8,8,8,8,8,8,8,8,8,8,8,8,8,8,8,8,8,8,8,8,8,8,8,8,8,8,8,8,8,8,8,8,8,8,8,8,8,8,8,8,8,8,8,8,8,8,8,8,8,8,8,8,8,8,8]⟩
noncomputable def q1o (c : Int) : Option Int:=
  (cond (decide (c ≥ 4294967296)) (some (Int.fdiv c (2 ^ 32),32)) (some (c,0))).bind fun a=>(cond (decide (a.1 ≥ 65536)) (some (Int.fdiv a.1 (2 ^ 16),w64 (a.2 + 16))) (some (a.1,a.2))).bind fun b=>(cond (decide (b.1 ≥ 256)) (some (Int.fdiv b.1 (2 ^ 8),w64 (b.2 + 8))) (some (b.1,b.2))).bind fun d=>(q3v qbd (IntKind.wrap .u8 d.1)).bind fun f=>some (w64 (d.2 + (w64 f)))
noncomputable def Jy (a : Int) : Option Int:=
  (q1o a).bind fun b=>some b
noncomputable def q6d (a : Int) : Option Bool:=
  some (a != a)
noncomputable def Yh (a : Int) (b : Int) : Option Bool:=
  (q6d a).bind fun c=>(cond c ((q6d b).bind fun d=>some (!d)) (some false)).bind fun f=>(cond f (some true) (some (decide (a < b)))).bind fun g=>some g
noncomputable def q5e (c : Int) (a : Int × List Int) : Option ((Int × List Int) ⊕ (List Int)):=
  (cond (decide (a.1 > c)) ((idx a.2 a.1).bind fun d=>(idx a.2 (w64 (a.1 - 1))).bind fun f=>(Yh d f).bind fun g=>some g) (some false)).bind fun h=>cond h ((idx a.2 (w64 (a.1 - 1))).bind fun b=>(idx a.2 a.1).bind fun j=>(idx a.2 a.1).bind fun _=>(idx (a.2.set a.1.toNat b) (w64 (a.1 - 1))).bind fun _=>some (.inl (w64 (a.1 - 1),(a.2.set a.1.toNat b).set (w64 (a.1 - 1)).toNat j))) (some (.inr a.2))
noncomputable def q5d (b : Int) (c : Int) (a : Int × List Int) : Option ((Int × List Int) ⊕ (List Int)):=
  cond (decide (a.1 < b)) (((loop (q5e c) (a.1,a.2)).bind fun d=>some d).bind fun f=>some (.inl (w64 (a.1 + 1),f))) (some (.inr a.2))
noncomputable def q5c (b : List Int) (a : Int) (c : Int) : Option (List Int):=
  (loop (q5d c a) (w64 (a + 1),b)).bind fun d=>some d
noncomputable def q60 (d : Int) (b : Int) (a : Int × List Int) : Option ((Int × List Int) ⊕ (List Int)):=
  cond (decide ((w64 ((w64 (2 * a.1)) + 1)) ≥ d)) (some (.inr a.2)) ((cond (decide ((w64 ((w64 ((w64 (2 * a.1)) + 1)) + 1)) < d)) ((idx a.2 (w64 (b + (w64 ((w64 (2 * a.1)) + 1))))).bind fun g=>(idx a.2 (w64 ((w64 (b + (w64 ((w64 (2 * a.1)) + 1)))) + 1))).bind fun h=>(Yh g h).bind fun j=>some j) (some false)).bind fun k=>(cond k (some (w64 ((w64 ((w64 (2 * a.1)) + 1)) + 1))) (some (w64 ((w64 (2 * a.1)) + 1)))).bind fun c=>(idx a.2 (w64 (b + a.1))).bind fun l=>(idx a.2 (w64 (b + c))).bind fun m=>(Yh l m).bind fun n=>cond (!n) (some (.inr a.2)) ((idx a.2 (w64 (b + c))).bind fun f=>(idx a.2 (w64 (b + a.1))).bind fun o=>(idx a.2 (w64 (b + a.1))).bind fun _=>(idx (a.2.set (w64 (b + a.1)).toNat f) (w64 (b + c))).bind fun _=>some (.inl (c,(a.2.set (w64 (b + a.1)).toNat f).set (w64 (b + c)).toNat o))))
noncomputable def q3p (a : List Int) (b : Int) (c : Int) (d : Int) : Option (List Int):=
  (loop (q60 c d) (b,a)).bind fun f=>some f
noncomputable def q5a (d : Int) (b : Int) (a : Int × List Int) : Option ((Int × List Int) ⊕ (List Int)):=
  cond (decide (a.1 ≥ 0)) ((q3p a.2 a.1 (w64 (d - b)) b).bind fun c=>(Ql c.length a.2.length).bind fun _=>some (.inl (w64 (a.1 - 1),c))) (some (.inr a.2))
noncomputable def q5b (b : Int) (a : Int × List Int) : Option ((Int × List Int) ⊕ (List Int)):=
  cond (decide (a.1 ≥ 0)) ((idx a.2 (w64 (b + a.1))).bind fun c=>(idx a.2 b).bind fun d=>(idx a.2 b).bind fun _=>(idx (a.2.set b.toNat c) (w64 (b + a.1))).bind fun _=>(q3p ((a.2.set b.toNat c).set (w64 (b + a.1)).toNat d) 0 a.1 b).bind fun f=>(Ql f.length ((a.2.set b.toNat c).set (w64 (b + a.1)).toNat d).length).bind fun _=>some (.inl (w64 (a.1 - 1),f))) (some (.inr a.2))
noncomputable def q59 (c : List Int) (a : Int) (b : Int) : Option (List Int):=
  (loop (q5a b a) (w64 (Int.tdiv (w64 ((w64 (b - a)) - 1)) 2),c)).bind fun d=>(loop (q5b a) (w64 ((w64 (b - a)) - 1),d)).bind fun f=>some f
noncomputable def q25 (c : List Int) (a : Int) (b : Int) (d : Int) : Option (Int × Int × Int):=
  (idx c b).bind fun f=>(idx c a).bind fun g=>(Yh f g).bind fun h=>cond h (some (b,a,w64 (d + 1))) (some (a,b,d))
noncomputable def q3j (a : List Int) (f : Int) (g : Int) (h : Int) (j : Int) : Option (Int × Int):=
  (q25 a f g j).bind fun b=>(q25 a b.2.1 h b.2.2).bind fun c=>(q25 a b.1 c.1 c.2.2).bind fun d=>some (d.2.1,d.2.2)
noncomputable def q24 (c : List Int) (a : Int) (d : Int) : Option (Int × Int):=
  (q3j c (w64 (a - 1)) a (w64 (a + 1)) d).bind fun b=>some (b.1,b.2)
noncomputable def q58 (d : List Int) (a : Int) (b : Int) : Option (Int × Int):=
  (cond (decide ((w64 (b - a)) ≥ 8)) ((cond (decide ((w64 (b - a)) ≥ 50)) ((q24 d (w64 (a + (w64 ((w64 (Int.tdiv (w64 (b - a)) 4)) * 1)))) 0).bind fun g=>(q24 d (w64 (a + (w64 ((w64 (Int.tdiv (w64 (b - a)) 4)) * 2)))) g.2).bind fun h=>(q24 d (w64 (a + (w64 ((w64 (Int.tdiv (w64 (b - a)) 4)) * 3)))) h.2).bind fun j=>some (g.1,h.1,j.1,j.2)) (some (w64 (a + (w64 ((w64 (Int.tdiv (w64 (b - a)) 4)) * 1))),w64 (a + (w64 ((w64 (Int.tdiv (w64 (b - a)) 4)) * 2))),w64 (a + (w64 ((w64 (Int.tdiv (w64 (b - a)) 4)) * 3))),0))).bind fun f=>(q3j d f.1 f.2.1 f.2.2.1 f.2.2.2).bind fun k=>some (k.1,k.2)) (some (w64 (a + (w64 ((w64 (Int.tdiv (w64 (b - a)) 4)) * 2))),0))).bind fun c=>cond (c.2 == 0) (some (c.1,1)) (cond (c.2 == 12) (some (c.1,2)) (some (c.1,0)))
noncomputable def q8l (a : Int × Int × List Int) : Option ((Int × Int × List Int) ⊕ (List Int)):=
  cond (decide (a.1 < a.2.1)) ((idx a.2.2 a.2.1).bind fun b=>(idx a.2.2 a.1).bind fun c=>(idx a.2.2 a.1).bind fun _=>(idx (a.2.2.set a.1.toNat b) a.2.1).bind fun _=>some (.inl (w64 (a.1 + 1),w64 (a.2.1 - 1),(a.2.2.set a.1.toNat b).set a.2.1.toNat c))) (some (.inr a.2.2))
noncomputable def q5y (a : List Int) (b : Int) (c : Int) : Option (List Int):=
  (loop q8l (b,w64 (c - 1),a)).bind fun d=>some d
noncomputable def q5i (c : Int) (b : Int × Int × List Int) (a : Int) : Option ((Int) ⊕ (Int)):=
  (cond (decide (a < c)) ((idx b.2.2 a).bind fun d=>(idx b.2.2 (w64 (a - 1))).bind fun f=>(Yh d f).bind fun g=>some (!g)) (some false)).bind fun h=>cond h (some (.inl (w64 (a + 1)))) (some (.inr a))
noncomputable def q88 (a : Int × List Int) : Option ((Int × List Int) ⊕ (List Int)):=
  cond (decide (a.1 ≥ 1)) ((idx a.2 a.1).bind fun c=>(idx a.2 (w64 (a.1 - 1))).bind fun d=>(Yh c d).bind fun f=>cond (!f) (some (.inr a.2)) ((idx a.2 (w64 (a.1 - 1))).bind fun b=>(idx a.2 a.1).bind fun g=>(idx a.2 a.1).bind fun _=>(idx (a.2.set a.1.toNat b) (w64 (a.1 - 1))).bind fun _=>some (.inl (w64 (a.1 - 1),(a.2.set a.1.toNat b).set (w64 (a.1 - 1)).toNat g)))) (some (.inr a.2))
noncomputable def q5j (d : Int) (b : Int) (a : Int × List Int) : Option ((Int × List Int) ⊕ (Int × List Int)):=
  cond (decide (a.1 < d)) ((idx a.2 a.1).bind fun f=>(idx a.2 (w64 (a.1 - 1))).bind fun g=>(Yh f g).bind fun h=>cond (!h) (some (.inr (b,a.2))) ((idx a.2 (w64 (a.1 - 1))).bind fun c=>(idx a.2 a.1).bind fun j=>(idx a.2 a.1).bind fun _=>(idx (a.2.set a.1.toNat c) (w64 (a.1 - 1))).bind fun _=>some (.inl (w64 (a.1 + 1),(a.2.set a.1.toNat c).set (w64 (a.1 - 1)).toNat j)))) (some (.inr (b,a.2)))
noncomputable def q3m (c : Int) (g : Int) (b : Int × Int × List Int) : Option ((Int × Int × List Int) ⊕ ((List Int) ⊕ (Bool × List Int))):=
  cond (decide (b.2.1 < 5)) (((loop (q5i c b) b.1).bind fun a=>cond (a == c) (some (.inr (true,b.2.2))) (cond (decide ((w64 (c - g)) < 50)) (some (.inr (false,b.2.2))) ((idx b.2.2 (w64 (a - 1))).bind fun d=>(idx b.2.2 a).bind fun h=>(idx b.2.2 a).bind fun _=>(idx (b.2.2.set a.toNat d) (w64 (a - 1))).bind fun _=>(cond (decide ((w64 (a - g)) ≥ 2)) ((loop q88 (w64 (a - 1),(b.2.2.set a.toNat d).set (w64 (a - 1)).toNat h)).bind fun f=>some f) (some ((b.2.2.set a.toNat d).set (w64 (a - 1)).toNat h))).bind fun j=>cond (decide ((w64 (c - a)) ≥ 2)) ((loop (q5j c a) (w64 (a + 1),j)).bind fun f=>some (.inl f)) (some (.inl (a,j))))) : Option ((Int × List Int) ⊕ (Bool × List Int))).bind fun l=>(match l with | .inl k=>some (.inl (k.1,w64 (b.2.1 + 1),k.2)) | .inr m=>some (.inr (.inr m)))) (some (.inr (.inl b.2.2)))
noncomputable def q3l (b : List Int) (a : Int) (c : Int) : Option (Bool × List Int):=
  (loop (q3m c a) (w64 (a + 1),0,b) : Option ((List Int) ⊕ (Bool × List Int))).bind fun d=>(match d with | .inl f=>some (false,f) | .inr g=>some g)
noncomputable def q5m (b : Int × Int × List Int) (c : Int) (a : Int) : Option ((Int) ⊕ (Int)):=
  (cond (decide (a≤b.2.1)) ((idx b.2.2 c).bind fun d=>(idx b.2.2 a).bind fun f=>(Yh d f).bind fun g=>some (!g)) (some false)).bind fun h=>cond h (some (.inl (w64 (a + 1)))) (some (.inr a))
noncomputable def q5n (c : Int) (b : Int × Int × List Int) (d : Int) (a : Int) : Option ((Int) ⊕ (Int)):=
  (cond (decide (c≤a)) ((idx b.2.2 d).bind fun f=>(idx b.2.2 a).bind fun g=>(Yh f g).bind fun h=>some h) (some false)).bind fun j=>cond j (some (.inl (w64 (a - 1)))) (some (.inr a))
noncomputable def q5l (d : Int) (a : Int × Int × List Int) : Option ((Int × Int × List Int) ⊕ (Int × List Int)):=
  (loop (q5m a d) a.1).bind fun b=>(loop (q5n b a d) a.2.1).bind fun c=>cond (decide (b > c)) (some (.inr (b,a.2.2))) ((idx a.2.2 c).bind fun f=>(idx a.2.2 b).bind fun g=>(idx a.2.2 b).bind fun _=>(idx (a.2.2.set b.toNat f) c).bind fun _=>some (.inl (w64 (b + 1),w64 (c - 1),(a.2.2.set b.toNat f).set c.toNat g)))
noncomputable def q5k (b : List Int) (a : Int) (g : Int) (c : Int) : Option (Int × List Int):=
  (idx b c).bind fun d=>(idx b a).bind fun h=>(idx b a).bind fun _=>(idx (b.set a.toNat d) c).bind fun _=>(loop (q5l a) (w64 (a + 1),w64 (g - 1),(b.set a.toNat d).set c.toNat h)).bind fun f=>some (f.1,f.2)
noncomputable def q5p (h : Int) (c : List Int) (b : Int) (d : Int) (f : Int) (g : Int) (a : Int) : Option ((Int) ⊕ (Int)):=
  (cond (decide (a≤(w64 (h - 1)))) ((idx ((c.set b.toNat d).set f.toNat g) a).bind fun j=>(idx ((c.set b.toNat d).set f.toNat g) b).bind fun k=>(Yh j k).bind fun l=>some l) (some false)).bind fun m=>cond m (some (.inl (w64 (a + 1)))) (some (.inr a))
noncomputable def q5q (h : Int) (c : List Int) (b : Int) (d : Int) (f : Int) (g : Int) (a : Int) : Option ((Int) ⊕ (Int)):=
  (cond (decide (h≤a)) ((idx ((c.set b.toNat d).set f.toNat g) a).bind fun j=>(idx ((c.set b.toNat d).set f.toNat g) b).bind fun k=>(Yh j k).bind fun l=>some (!l)) (some false)).bind fun m=>cond m (some (.inl (w64 (a - 1)))) (some (.inr a))
noncomputable def q5s (b : Int × Int × List Int) (c : Int) (a : Int) : Option ((Int) ⊕ (Int)):=
  (cond (decide (a≤b.2.1)) ((idx b.2.2 a).bind fun d=>(idx b.2.2 c).bind fun f=>(Yh d f).bind fun g=>some g) (some false)).bind fun h=>cond h (some (.inl (w64 (a + 1)))) (some (.inr a))
noncomputable def q5t (c : Int) (b : Int × Int × List Int) (d : Int) (a : Int) : Option ((Int) ⊕ (Int)):=
  (cond (decide (c≤a)) ((idx b.2.2 a).bind fun f=>(idx b.2.2 d).bind fun g=>(Yh f g).bind fun h=>some (!h)) (some false)).bind fun j=>cond j (some (.inl (w64 (a - 1)))) (some (.inr a))
noncomputable def q5r (d : Int) (a : Int × Int × List Int) : Option ((Int × Int × List Int) ⊕ (Int × List Int)):=
  (loop (q5s a d) a.1).bind fun b=>(loop (q5t b a d) a.2.1).bind fun c=>cond (decide (b > c)) (some (.inr (c,a.2.2))) ((idx a.2.2 c).bind fun f=>(idx a.2.2 b).bind fun g=>(idx a.2.2 b).bind fun _=>(idx (a.2.2.set b.toNat f) c).bind fun _=>some (.inl (w64 (b + 1),w64 (c - 1),(a.2.2.set b.toNat f).set c.toNat g)))
noncomputable def q5o (b : List Int) (a : Int) (k : Int) (c : Int) : Option (Int × Bool × List Int):=
  (idx b c).bind fun d=>(idx b a).bind fun f=>(idx b a).bind fun _=>(idx (b.set a.toNat d) c).bind fun _=>(loop (q5p k b a d c f) (w64 (a + 1))).bind fun j=>(loop (q5q j b a d c f) (w64 (k - 1))).bind fun g=>cond (decide (j > g)) ((idx ((b.set a.toNat d).set c.toNat f) a).bind fun l=>(idx ((b.set a.toNat d).set c.toNat f) g).bind fun o=>(idx ((b.set a.toNat d).set c.toNat f) g).bind fun _=>(idx (((b.set a.toNat d).set c.toNat f).set g.toNat l) a).bind fun _=>some (g,true,(((b.set a.toNat d).set c.toNat f).set g.toNat l).set a.toNat o)) ((idx ((b.set a.toNat d).set c.toNat f) g).bind fun m=>(idx ((b.set a.toNat d).set c.toNat f) j).bind fun p=>(idx ((b.set a.toNat d).set c.toNat f) j).bind fun _=>(idx (((b.set a.toNat d).set c.toNat f).set j.toNat m) g).bind fun _=>(loop (q5r a) (w64 (j + 1),w64 (g - 1),(((b.set a.toNat d).set c.toNat f).set j.toNat m).set g.toNat p)).bind fun h=>(idx h.2 a).bind fun n=>(idx h.2 h.1).bind fun q=>(idx h.2 h.1).bind fun _=>(idx (h.2.set h.1.toNat n) a).bind fun _=>some (h.1,false,(h.2.set h.1.toNat n).set a.toNat q))
noncomputable def Ux (a : Int) : Option Int:=
  (Jy (IntKind.wrap .u64 a)).bind fun b=>(shlK .u64 1 b).bind fun c=>some c
noncomputable def Uy (a : Int) : Option Int:=
  some (xorI .u64 (xorI .u64 (xorI .u64 a (IntKind.wrap .u64 (a * (2 ^ 13)))) (Int.fdiv (xorI .u64 a (IntKind.wrap .u64 (a * (2 ^ 13)))) (2 ^ 7))) (IntKind.wrap .u64 ((xorI .u64 (xorI .u64 a (IntKind.wrap .u64 (a * (2 ^ 13)))) (Int.fdiv (xorI .u64 a (IntKind.wrap .u64 (a * (2 ^ 13)))) (2 ^ 7))) * (2 ^ 17))))
noncomputable def q57 (b : Int) (d : Int) (f : Int) (a : Int × List Int × Int) : Option ((Int × List Int × Int) ⊕ (List Int)):=
  cond (decide (a.1≤(w64 ((w64 (b + (w64 ((w64 (Int.tdiv (w64 (d - b)) 4)) * 2)))) + 1)))) ((Uy a.2.2).bind fun c=>(cond (decide ((w64 (andI .u64 c (IntKind.wrap .u64 (f - 1)))) ≥ (w64 (d - b)))) (some (w64 ((w64 (andI .u64 c (IntKind.wrap .u64 (f - 1)))) - (w64 (d - b))))) (some (w64 (andI .u64 c (IntKind.wrap .u64 (f - 1)))))).bind fun g=>(idx a.2.1 (w64 (b + g))).bind fun h=>(idx a.2.1 a.1).bind fun j=>(idx a.2.1 a.1).bind fun _=>(idx (a.2.1.set a.1.toNat h) (w64 (b + g))).bind fun _=>some (.inl (w64 (a.1 + 1),(a.2.1.set a.1.toNat h).set (w64 (b + g)).toNat j,c))) (some (.inr a.2.1))
noncomputable def q56 (c : List Int) (a : Int) (b : Int) : Option (List Int):=
  cond (decide ((w64 (b - a)) ≥ 8)) ((Ux (w64 (b - a))).bind fun d=>(loop (q57 a b d) (w64 ((w64 (a + (w64 ((w64 (Int.tdiv (w64 (b - a)) 4)) * 2)))) - 1),c,IntKind.wrap .u64 (w64 (b - a)))).bind fun f=>some f) (some c)
noncomputable def q3n (rec : List Int→Int→Int→Int→Option (List Int)) (a : Int × Int × Int × Bool × Bool × List Int) : Option ((Int × Int × Int × Bool × Bool × List Int) ⊕ (List Int)):=
  cond (decide ((w64 (a.2.1 - a.1))≤12)) ((q5c a.2.2.2.2.2 a.1 a.2.1).bind fun k=>(Ql k.length a.2.2.2.2.2.length).bind fun _=>some (.inr k)) (cond (a.2.2.1 == 0) ((q59 a.2.2.2.2.2 a.1 a.2.1).bind fun l=>(Ql l.length a.2.2.2.2.2.length).bind fun _=>some (.inr l)) ((cond (!a.2.2.2.1) ((q56 a.2.2.2.2.2 a.1 a.2.1).bind fun m=>(Ql m.length a.2.2.2.2.2.length).bind fun _=>some (w64 (a.2.2.1 - 1),m)) (some (a.2.2.1,a.2.2.2.2.2))).bind fun c=>(q58 c.2 a.1 a.2.1).bind fun g=>(cond (g.2 == 2) ((q5y c.2 a.1 a.2.1).bind fun n=>(Ql n.length c.2.length).bind fun _=>some (w64 ((w64 (a.2.1 - 1)) - (w64 (g.1 - a.1))),1,n)) (some (g.1,g.2,c.2))).bind fun d=>(cond a.2.2.2.1 (some a.2.2.2.2.1) (some false)).bind fun q=>(cond q (some (d.2.1 == 1)) (some false)).bind fun r=>(cond r ((q3l d.2.2 a.1 a.2.1).bind fun h=>(Ql h.2.length d.2.2.length).bind fun _=>cond h.1 (some (.inr h.2)) (some (.inl h.2))) (some (.inl d.2.2)) : Option ((List Int) ⊕ (List Int))).bind fun s=>(match s with | .inl f=>(cond (decide (a.1 > 0)) ((idx f (w64 (a.1 - 1))).bind fun t=>(idx f d.1).bind fun u=>(Yh t u).bind fun v=>some (!v)) (some false)).bind fun w=>cond w ((q5k f a.1 a.2.1 d.1).bind fun j=>(Ql j.2.length f.length).bind fun _=>some (.inl (j.1,a.2.1,c.1,a.2.2.2.1,a.2.2.2.2.1,j.2))) ((q5o f a.1 a.2.1 d.1).bind fun b=>(Ql b.2.2.length f.length).bind fun _=>cond (decide ((w64 (b.1 - a.1)) < (w64 (a.2.1 - b.1)))) ((rec b.2.2 a.1 b.1 c.1).bind fun o=>(Ql o.length b.2.2.length).bind fun _=>some (.inl (w64 (b.1 + 1),a.2.1,c.1,decide ((w64 (b.1 - a.1)) ≥ (w64 (Int.tdiv (w64 (a.2.1 - a.1)) 8))),b.2.1,o))) ((rec b.2.2 (w64 (b.1 + 1)) a.2.1 c.1).bind fun p=>(Ql p.length b.2.2.length).bind fun _=>some (.inl (a.1,b.1,c.1,decide ((w64 (a.2.1 - b.1)) ≥ (w64 (Int.tdiv (w64 (a.2.1 - a.1)) 8))),b.2.1,p)))) | .inr x=>some (.inr x))))
noncomputable def q3o (rec : List Int→Int→Int→Int→Option (List Int)) (a : List Int) (b : Int) (c : Int) (d : Int) : Option (List Int):=
  (loop (q3n rec) (b,c,d,true,true,a)).bind fun f=>some f
noncomputable def q5x : Nat→List Int→Int→Int→Int→Option (List Int)
  | 0,_,_,_,_=>none
  | n + 1,a,b,c,d=>q3o (q5x n)  a b c d
noncomputable def U4 (a : List Int) : Option (List Int):=
  (Jy (IntKind.wrap .u64 (a.length : Int))).bind fun c=>(lim (fun n=>q5x n a 0 (a.length : Int) c)).bind fun b=>(Ql b.length a.length).bind fun _=>some b
noncomputable def Uw (a : Int × (Nat × Nat) × Int × List Int) : Option ((Int × (Nat × Nat) × Int × List Int) ⊕ (Int × List Int)):=
  cond (decide (a.2.2.1 < (a.2.1.2 : Int))) (((idxW a.2.2.2 a.2.1 a.2.2.1).bind fun c=>(idxW a.2.2.2 a.2.1 (w64 (a.2.2.1 - 1))).bind fun d=>cond (c != d) ((idxW a.2.2.2 a.2.1 a.2.2.1).bind fun f=>(idx a.2.2.2 a.1).bind fun _=>some (w64 (a.1 + 1),a.2.1,a.2.2.2.set a.1.toNat f)) (some (a.1,a.2.1,a.2.2.2))).bind fun b=>some (.inl (b.1,b.2.1,w64 (a.2.2.1 + 1),b.2.2))) (some (.inr (a.1,a.2.2.2)))
noncomputable def Zl (a : List Int) (b : Int) : Option ((Int) ⊕ ((Unit) ⊕ ((Nat × Nat) × List Int))):=
  cond (decide (b < (a.length : Int))) ((idx a b).bind fun d=>(idx a (w64 (b - 1))).bind fun f=>cond (d == f) ((sub2 a.length b a.length).bind fun g=>(loop Uw (b,g,1,a)).bind fun c=>(sub2 c.2.length c.1 c.2.length).bind fun h=>(sub2 c.2.length 0 c.1).bind fun j=>some (.inr (.inr (j,clrw c.2 h 0)))) (some (.inl (w64 (b + 1))))) (some (.inr (.inl ())))
noncomputable def q22 (a : List Int) : Option ((Nat × Nat) × List Int):=
  cond (decide ((a.length : Int) < 2)) (some ((0,a.length),a)) ((loop (Zl a) 1 : Option ((Unit) ⊕ ((Nat × Nat) × List Int))).bind fun b=>(match b with | .inl _=>some ((0,a.length),a) | .inr c=>some c))
structure qi where
  Lo : Int
  Hi : Int
  deriving DecidableEq
def Q5 (x : qi) : List DV:=[.int .i64 x.Lo,.int .i64 x.Hi]
noncomputable def q23 (b : List qi) (c : qi→Option Bool) (a : Int) : Option ((Int) ⊕ ((Unit) ⊕ (Int))):=
  cond (decide (a < (b.length : Int))) ((idx b a).bind fun d=>(c d).bind fun f=>cond f (some (.inr (.inr a))) (some (.inl (w64 (a + 1))))) (some (.inr (.inl ())))
noncomputable def q7v (a : List qi) (b : qi→Option Bool) : Option Int:=
  (loop (q23 a b) 0 : Option ((Unit) ⊕ (Int))).bind fun c=>(match c with | .inl _=>some (-1) | .inr d=>some d)
noncomputable def q7r (a : List qi) (b : qi→Option Bool) : Option Bool:=
  (q7v a b).bind fun c=>some (decide (c ≥ 0))
noncomputable def q2b (a : qi) : Option Bool:=
  (cond (decide (a.Lo < a.Hi)) (some (decide (a.Lo ≥ (-1000000)))) (some false)).bind fun b=>(cond b (some (decide (a.Hi≤1000000))) (some false)).bind fun c=>some c
noncomputable def qb8 (a : qi) : Option Bool:=
  (q2b a).bind fun b=>some (!b)
def Jk (x : List qi) : List DV:=[.sl 2 (x.map Q5)]
structure qg where
  at_ : Int
  list_ : Int
  by_ : Int
  deriving DecidableEq
def Q0 (x : qg) : List DV:=[.int .i64 x.at_,.int .i64 x.list_,.int .i64 x.by_]
noncomputable def q8u (a : qg) (b : qg) : Option Int:=
  some (w64 (a.at_ - b.at_))
noncomputable def q84 (c : Int) (d : qg→qg→Option Int) (a : Int × List qg) : Option ((Int × List qg) ⊕ (List qg)):=
  (cond (decide (a.1 > c)) ((idx a.2 a.1).bind fun f=>(idx a.2 (w64 (a.1 - 1))).bind fun g=>(d f g).bind fun h=>some (decide (h < 0))) (some false)).bind fun j=>cond j ((idx a.2 (w64 (a.1 - 1))).bind fun b=>(idx a.2 a.1).bind fun k=>(idx a.2 a.1).bind fun _=>(idx (a.2.set a.1.toNat b) (w64 (a.1 - 1))).bind fun _=>some (.inl (w64 (a.1 - 1),(a.2.set a.1.toNat b).set (w64 (a.1 - 1)).toNat k))) (some (.inr a.2))
noncomputable def q83 (b : Int) (c : Int) (d : qg→qg→Option Int) (a : Int × List qg) : Option ((Int × List qg) ⊕ (List qg)):=
  cond (decide (a.1 < b)) (((loop (q84 c d) (a.1,a.2)).bind fun f=>some f).bind fun g=>some (.inl (w64 (a.1 + 1),g))) (some (.inr a.2))
noncomputable def q82 (b : qg→qg→Option Int) (c : List qg) (a : Int) (d : Int) : Option (List qg):=
  (loop (q83 d a b) (w64 (a + 1),c)).bind fun f=>some f
noncomputable def q8m (d : Int) (b : Int) (f : qg→qg→Option Int) (a : Int × List qg) : Option ((Int × List qg) ⊕ (List qg)):=
  cond (decide ((w64 ((w64 (2 * a.1)) + 1)) ≥ d)) (some (.inr a.2)) ((cond (decide ((w64 ((w64 ((w64 (2 * a.1)) + 1)) + 1)) < d)) ((idx a.2 (w64 (b + (w64 ((w64 (2 * a.1)) + 1))))).bind fun h=>(idx a.2 (w64 ((w64 (b + (w64 ((w64 (2 * a.1)) + 1)))) + 1))).bind fun j=>(f h j).bind fun k=>some (decide (k < 0))) (some false)).bind fun l=>(cond l (some (w64 ((w64 ((w64 (2 * a.1)) + 1)) + 1))) (some (w64 ((w64 (2 * a.1)) + 1)))).bind fun c=>(idx a.2 (w64 (b + a.1))).bind fun m=>(idx a.2 (w64 (b + c))).bind fun n=>(f m n).bind fun o=>cond (!(decide (o < 0))) (some (.inr a.2)) ((idx a.2 (w64 (b + c))).bind fun g=>(idx a.2 (w64 (b + a.1))).bind fun p=>(idx a.2 (w64 (b + a.1))).bind fun _=>(idx (a.2.set (w64 (b + a.1)).toNat g) (w64 (b + c))).bind fun _=>some (.inl (c,(a.2.set (w64 (b + a.1)).toNat g).set (w64 (b + c)).toNat p))))
noncomputable def q5z (a : qg→qg→Option Int) (b : List qg) (c : Int) (d : Int) (f : Int) : Option (List qg):=
  (loop (q8m d f a) (c,b)).bind fun g=>some g
noncomputable def q80 (d : qg→qg→Option Int) (f : Int) (b : Int) (a : Int × List qg) : Option ((Int × List qg) ⊕ (List qg)):=
  cond (decide (a.1 ≥ 0)) ((q5z d a.2 a.1 (w64 (f - b)) b).bind fun c=>(Ql c.length a.2.length).bind fun _=>some (.inl (w64 (a.1 - 1),c))) (some (.inr a.2))
noncomputable def q81 (b : Int) (g : qg→qg→Option Int) (a : Int × List qg) : Option ((Int × List qg) ⊕ (List qg)):=
  cond (decide (a.1 ≥ 0)) ((idx a.2 (w64 (b + a.1))).bind fun c=>(idx a.2 b).bind fun d=>(idx a.2 b).bind fun _=>(idx (a.2.set b.toNat c) (w64 (b + a.1))).bind fun _=>(q5z g ((a.2.set b.toNat c).set (w64 (b + a.1)).toNat d) 0 a.1 b).bind fun f=>(Ql f.length ((a.2.set b.toNat c).set (w64 (b + a.1)).toNat d).length).bind fun _=>some (.inl (w64 (a.1 - 1),f))) (some (.inr a.2))
noncomputable def q7z (c : qg→qg→Option Int) (d : List qg) (a : Int) (b : Int) : Option (List qg):=
  (loop (q80 c b a) (w64 (Int.tdiv (w64 ((w64 (b - a)) - 1)) 2),d)).bind fun f=>(loop (q81 a c) (w64 ((w64 (b - a)) - 1),f)).bind fun g=>some g
noncomputable def q3k (f : qg→qg→Option Int) (c : List qg) (a : Int) (b : Int) (d : Int) : Option (Int × Int × Int):=
  (idx c b).bind fun g=>(idx c a).bind fun h=>(f g h).bind fun j=>cond (decide (j < 0)) (some (b,a,w64 (d + 1))) (some (a,b,d))
noncomputable def q5f (a : qg→qg→Option Int) (b : List qg) (g : Int) (h : Int) (j : Int) (k : Int) : Option (Int × Int):=
  (q3k a b g h k).bind fun c=>(q3k a b c.2.1 j c.2.2).bind fun d=>(q3k a b c.1 d.1 d.2.2).bind fun f=>some (f.2.1,f.2.2)
noncomputable def q3i (c : qg→qg→Option Int) (d : List qg) (a : Int) (f : Int) : Option (Int × Int):=
  (q5f c d (w64 (a - 1)) a (w64 (a + 1)) f).bind fun b=>some (b.1,b.2)
noncomputable def q7y (d : List qg) (a : Int) (b : Int) (f : qg→qg→Option Int) : Option (Int × Int):=
  (cond (decide ((w64 (b - a)) ≥ 8)) ((cond (decide ((w64 (b - a)) ≥ 50)) ((q3i f d (w64 (a + (w64 ((w64 (Int.tdiv (w64 (b - a)) 4)) * 1)))) 0).bind fun h=>(q3i f d (w64 (a + (w64 ((w64 (Int.tdiv (w64 (b - a)) 4)) * 2)))) h.2).bind fun j=>(q3i f d (w64 (a + (w64 ((w64 (Int.tdiv (w64 (b - a)) 4)) * 3)))) j.2).bind fun k=>some (h.1,j.1,k.1,k.2)) (some (w64 (a + (w64 ((w64 (Int.tdiv (w64 (b - a)) 4)) * 1))),w64 (a + (w64 ((w64 (Int.tdiv (w64 (b - a)) 4)) * 2))),w64 (a + (w64 ((w64 (Int.tdiv (w64 (b - a)) 4)) * 3))),0))).bind fun g=>(q5f f d g.1 g.2.1 g.2.2.1 g.2.2.2).bind fun l=>some (l.1,l.2)) (some (w64 (a + (w64 ((w64 (Int.tdiv (w64 (b - a)) 4)) * 2))),0))).bind fun c=>cond (c.2 == 0) (some (c.1,1)) (cond (c.2 == 12) (some (c.1,2)) (some (c.1,0)))
noncomputable def q8k (a : Int × Int × List qg) : Option ((Int × Int × List qg) ⊕ (List qg)):=
  cond (decide (a.1 < a.2.1)) ((idx a.2.2 a.2.1).bind fun b=>(idx a.2.2 a.1).bind fun c=>(idx a.2.2 a.1).bind fun _=>(idx (a.2.2.set a.1.toNat b) a.2.1).bind fun _=>some (.inl (w64 (a.1 + 1),w64 (a.2.1 - 1),(a.2.2.set a.1.toNat b).set a.2.1.toNat c))) (some (.inr a.2.2))
noncomputable def q8j (f : qg→qg→Option Int) (a : List qg) (b : Int) (c : Int) : Option (List qg):=
  (loop q8k (b,w64 (c - 1),a)).bind fun d=>some d
noncomputable def q85 (c : Int) (b : Int × Int × List qg) (d : qg→qg→Option Int) (a : Int) : Option ((Int) ⊕ (Int)):=
  (cond (decide (a < c)) ((idx b.2.2 a).bind fun f=>(idx b.2.2 (w64 (a - 1))).bind fun g=>(d f g).bind fun h=>some (!(decide (h < 0)))) (some false)).bind fun j=>cond j (some (.inl (w64 (a + 1)))) (some (.inr a))
noncomputable def q86 (c : qg→qg→Option Int) (a : Int × List qg) : Option ((Int × List qg) ⊕ (List qg)):=
  cond (decide (a.1 ≥ 1)) ((idx a.2 a.1).bind fun d=>(idx a.2 (w64 (a.1 - 1))).bind fun f=>(c d f).bind fun g=>cond (!(decide (g < 0))) (some (.inr a.2)) ((idx a.2 (w64 (a.1 - 1))).bind fun b=>(idx a.2 a.1).bind fun h=>(idx a.2 a.1).bind fun _=>(idx (a.2.set a.1.toNat b) (w64 (a.1 - 1))).bind fun _=>some (.inl (w64 (a.1 - 1),(a.2.set a.1.toNat b).set (w64 (a.1 - 1)).toNat h)))) (some (.inr a.2))
noncomputable def q87 (d : Int) (f : qg→qg→Option Int) (b : Int) (a : Int × List qg) : Option ((Int × List qg) ⊕ (Int × List qg)):=
  cond (decide (a.1 < d)) ((idx a.2 a.1).bind fun g=>(idx a.2 (w64 (a.1 - 1))).bind fun h=>(f g h).bind fun j=>cond (!(decide (j < 0))) (some (.inr (b,a.2))) ((idx a.2 (w64 (a.1 - 1))).bind fun c=>(idx a.2 a.1).bind fun k=>(idx a.2 a.1).bind fun _=>(idx (a.2.set a.1.toNat c) (w64 (a.1 - 1))).bind fun _=>some (.inl (w64 (a.1 + 1),(a.2.set a.1.toNat c).set (w64 (a.1 - 1)).toNat k)))) (some (.inr (b,a.2)))
noncomputable def q5h (c : Int) (d : qg→qg→Option Int) (h : Int) (b : Int × Int × List qg) : Option ((Int × Int × List qg) ⊕ ((List qg) ⊕ (Bool × List qg))):=
  cond (decide (b.2.1 < 5)) (((loop (q85 c b d) b.1).bind fun a=>cond (a == c) (some (.inr (true,b.2.2))) (cond (decide ((w64 (c - h)) < 50)) (some (.inr (false,b.2.2))) ((idx b.2.2 (w64 (a - 1))).bind fun f=>(idx b.2.2 a).bind fun j=>(idx b.2.2 a).bind fun _=>(idx (b.2.2.set a.toNat f) (w64 (a - 1))).bind fun _=>(cond (decide ((w64 (a - h)) ≥ 2)) ((loop (q86 d) (w64 (a - 1),(b.2.2.set a.toNat f).set (w64 (a - 1)).toNat j)).bind fun g=>some g) (some ((b.2.2.set a.toNat f).set (w64 (a - 1)).toNat j))).bind fun k=>cond (decide ((w64 (c - a)) ≥ 2)) ((loop (q87 c d a) (w64 (a + 1),k)).bind fun g=>some (.inl g)) (some (.inl (a,k))))) : Option ((Int × List qg) ⊕ (Bool × List qg))).bind fun m=>(match m with | .inl l=>some (.inl (l.1,w64 (b.2.1 + 1),l.2)) | .inr n=>some (.inr (.inr n)))) (some (.inr (.inl b.2.2)))
noncomputable def q5g (b : qg→qg→Option Int) (c : List qg) (a : Int) (d : Int) : Option (Bool × List qg):=
  (loop (q5h d b a) (w64 (a + 1),0,c) : Option ((List qg) ⊕ (Bool × List qg))).bind fun f=>(match f with | .inl g=>some (false,g) | .inr h=>some h)
noncomputable def q8h (b : Int × Int × List qg) (c : Int) (d : qg→qg→Option Int) (a : Int) : Option ((Int) ⊕ (Int)):=
  (cond (decide (a≤b.2.1)) ((idx b.2.2 c).bind fun f=>(idx b.2.2 a).bind fun g=>(d f g).bind fun h=>some (!(decide (h < 0)))) (some false)).bind fun j=>cond j (some (.inl (w64 (a + 1)))) (some (.inr a))
noncomputable def q8i (c : Int) (b : Int × Int × List qg) (d : Int) (f : qg→qg→Option Int) (a : Int) : Option ((Int) ⊕ (Int)):=
  (cond (decide (c≤a)) ((idx b.2.2 d).bind fun g=>(idx b.2.2 a).bind fun h=>(f g h).bind fun j=>some (decide (j < 0))) (some false)).bind fun k=>cond k (some (.inl (w64 (a - 1)))) (some (.inr a))
noncomputable def q8g (d : Int) (f : qg→qg→Option Int) (a : Int × Int × List qg) : Option ((Int × Int × List qg) ⊕ (Int × List qg)):=
  (loop (q8h a d f) a.1).bind fun b=>(loop (q8i b a d f) a.2.1).bind fun c=>cond (decide (b > c)) (some (.inr (b,a.2.2))) ((idx a.2.2 c).bind fun g=>(idx a.2.2 b).bind fun h=>(idx a.2.2 b).bind fun _=>(idx (a.2.2.set b.toNat g) c).bind fun _=>some (.inl (w64 (b + 1),w64 (c - 1),(a.2.2.set b.toNat g).set c.toNat h)))
noncomputable def q8f (g : qg→qg→Option Int) (b : List qg) (a : Int) (h : Int) (c : Int) : Option (Int × List qg):=
  (idx b c).bind fun d=>(idx b a).bind fun j=>(idx b a).bind fun _=>(idx (b.set a.toNat d) c).bind fun _=>(loop (q8g a g) (w64 (a + 1),w64 (h - 1),(b.set a.toNat d).set c.toNat j)).bind fun f=>some (f.1,f.2)
noncomputable def q8a (h : Int) (c : List qg) (b : Int) (d : qg) (f : Int) (g : qg) (j : qg→qg→Option Int) (a : Int) : Option ((Int) ⊕ (Int)):=
  (cond (decide (a≤(w64 (h - 1)))) ((idx ((c.set b.toNat d).set f.toNat g) a).bind fun k=>(idx ((c.set b.toNat d).set f.toNat g) b).bind fun l=>(j k l).bind fun m=>some (decide (m < 0))) (some false)).bind fun n=>cond n (some (.inl (w64 (a + 1)))) (some (.inr a))
noncomputable def q8b (h : Int) (c : List qg) (b : Int) (d : qg) (f : Int) (g : qg) (j : qg→qg→Option Int) (a : Int) : Option ((Int) ⊕ (Int)):=
  (cond (decide (h≤a)) ((idx ((c.set b.toNat d).set f.toNat g) a).bind fun k=>(idx ((c.set b.toNat d).set f.toNat g) b).bind fun l=>(j k l).bind fun m=>some (!(decide (m < 0)))) (some false)).bind fun n=>cond n (some (.inl (w64 (a - 1)))) (some (.inr a))
noncomputable def q8d (b : Int × Int × List qg) (c : Int) (d : qg→qg→Option Int) (a : Int) : Option ((Int) ⊕ (Int)):=
  (cond (decide (a≤b.2.1)) ((idx b.2.2 a).bind fun f=>(idx b.2.2 c).bind fun g=>(d f g).bind fun h=>some (decide (h < 0))) (some false)).bind fun j=>cond j (some (.inl (w64 (a + 1)))) (some (.inr a))
noncomputable def q8e (c : Int) (b : Int × Int × List qg) (d : Int) (f : qg→qg→Option Int) (a : Int) : Option ((Int) ⊕ (Int)):=
  (cond (decide (c≤a)) ((idx b.2.2 a).bind fun g=>(idx b.2.2 d).bind fun h=>(f g h).bind fun j=>some (!(decide (j < 0)))) (some false)).bind fun k=>cond k (some (.inl (w64 (a - 1)))) (some (.inr a))
noncomputable def q8c (d : Int) (f : qg→qg→Option Int) (a : Int × Int × List qg) : Option ((Int × Int × List qg) ⊕ (Int × List qg)):=
  (loop (q8d a d f) a.1).bind fun b=>(loop (q8e b a d f) a.2.1).bind fun c=>cond (decide (b > c)) (some (.inr (c,a.2.2))) ((idx a.2.2 c).bind fun g=>(idx a.2.2 b).bind fun h=>(idx a.2.2 b).bind fun _=>(idx (a.2.2.set b.toNat g) c).bind fun _=>some (.inl (w64 (b + 1),w64 (c - 1),(a.2.2.set b.toNat g).set c.toNat h)))
noncomputable def q89 (k : qg→qg→Option Int) (b : List qg) (a : Int) (l : Int) (c : Int) : Option (Int × Bool × List qg):=
  (idx b c).bind fun d=>(idx b a).bind fun f=>(idx b a).bind fun _=>(idx (b.set a.toNat d) c).bind fun _=>(loop (q8a l b a d c f k) (w64 (a + 1))).bind fun j=>(loop (q8b j b a d c f k) (w64 (l - 1))).bind fun g=>cond (decide (j > g)) ((idx ((b.set a.toNat d).set c.toNat f) a).bind fun m=>(idx ((b.set a.toNat d).set c.toNat f) g).bind fun p=>(idx ((b.set a.toNat d).set c.toNat f) g).bind fun _=>(idx (((b.set a.toNat d).set c.toNat f).set g.toNat m) a).bind fun _=>some (g,true,(((b.set a.toNat d).set c.toNat f).set g.toNat m).set a.toNat p)) ((idx ((b.set a.toNat d).set c.toNat f) g).bind fun n=>(idx ((b.set a.toNat d).set c.toNat f) j).bind fun q=>(idx ((b.set a.toNat d).set c.toNat f) j).bind fun _=>(idx (((b.set a.toNat d).set c.toNat f).set j.toNat n) g).bind fun _=>(loop (q8c a k) (w64 (j + 1),w64 (g - 1),(((b.set a.toNat d).set c.toNat f).set j.toNat n).set g.toNat q)).bind fun h=>(idx h.2 a).bind fun o=>(idx h.2 h.1).bind fun r=>(idx h.2 h.1).bind fun _=>(idx (h.2.set h.1.toNat o) a).bind fun _=>some (h.1,false,(h.2.set h.1.toNat o).set a.toNat r))
noncomputable def q7x (b : Int) (d : Int) (f : Int) (a : Int × List qg × Int) : Option ((Int × List qg × Int) ⊕ (List qg)):=
  cond (decide (a.1≤(w64 ((w64 (b + (w64 ((w64 (Int.tdiv (w64 (d - b)) 4)) * 2)))) + 1)))) ((Uy a.2.2).bind fun c=>(cond (decide ((w64 (andI .u64 c (IntKind.wrap .u64 (f - 1)))) ≥ (w64 (d - b)))) (some (w64 ((w64 (andI .u64 c (IntKind.wrap .u64 (f - 1)))) - (w64 (d - b))))) (some (w64 (andI .u64 c (IntKind.wrap .u64 (f - 1)))))).bind fun g=>(idx a.2.1 (w64 (b + g))).bind fun h=>(idx a.2.1 a.1).bind fun j=>(idx a.2.1 a.1).bind fun _=>(idx (a.2.1.set a.1.toNat h) (w64 (b + g))).bind fun _=>some (.inl (w64 (a.1 + 1),(a.2.1.set a.1.toNat h).set (w64 (b + g)).toNat j,c))) (some (.inr a.2.1))
noncomputable def q7w (g : qg→qg→Option Int) (c : List qg) (a : Int) (b : Int) : Option (List qg):=
  cond (decide ((w64 (b - a)) ≥ 8)) ((Ux (w64 (b - a))).bind fun d=>(loop (q7x a b d) (w64 ((w64 (a + (w64 ((w64 (Int.tdiv (w64 (b - a)) 4)) * 2)))) - 1),c,IntKind.wrap .u64 (w64 (b - a)))).bind fun f=>some f) (some c)
noncomputable def q5v (c : qg→qg→Option Int) (rec : List qg→Int→Int→Int→Option (List qg)) (a : Int × Int × Int × Bool × Bool × List qg) : Option ((Int × Int × Int × Bool × Bool × List qg) ⊕ (List qg)):=
  cond (decide ((w64 (a.2.1 - a.1))≤12)) ((q82 c a.2.2.2.2.2 a.1 a.2.1).bind fun l=>(Ql l.length a.2.2.2.2.2.length).bind fun _=>some (.inr l)) (cond (a.2.2.1 == 0) ((q7z c a.2.2.2.2.2 a.1 a.2.1).bind fun m=>(Ql m.length a.2.2.2.2.2.length).bind fun _=>some (.inr m)) ((cond (!a.2.2.2.1) ((q7w c a.2.2.2.2.2 a.1 a.2.1).bind fun n=>(Ql n.length a.2.2.2.2.2.length).bind fun _=>some (w64 (a.2.2.1 - 1),n)) (some (a.2.2.1,a.2.2.2.2.2))).bind fun d=>(q7y d.2 a.1 a.2.1 c).bind fun h=>(cond (h.2 == 2) ((q8j c d.2 a.1 a.2.1).bind fun o=>(Ql o.length d.2.length).bind fun _=>some (w64 ((w64 (a.2.1 - 1)) - (w64 (h.1 - a.1))),1,o)) (some (h.1,h.2,d.2))).bind fun f=>(cond a.2.2.2.1 (some a.2.2.2.2.1) (some false)).bind fun r=>(cond r (some (f.2.1 == 1)) (some false)).bind fun s=>(cond s ((q5g c f.2.2 a.1 a.2.1).bind fun j=>(Ql j.2.length f.2.2.length).bind fun _=>cond j.1 (some (.inr j.2)) (some (.inl j.2))) (some (.inl f.2.2)) : Option ((List qg) ⊕ (List qg))).bind fun t=>(match t with | .inl g=>(cond (decide (a.1 > 0)) ((idx g (w64 (a.1 - 1))).bind fun u=>(idx g f.1).bind fun v=>(c u v).bind fun w=>some (!(decide (w < 0)))) (some false)).bind fun x=>cond x ((q8f c g a.1 a.2.1 f.1).bind fun k=>(Ql k.2.length g.length).bind fun _=>some (.inl (k.1,a.2.1,d.1,a.2.2.2.1,a.2.2.2.2.1,k.2))) ((q89 c g a.1 a.2.1 f.1).bind fun b=>(Ql b.2.2.length g.length).bind fun _=>cond (decide ((w64 (b.1 - a.1)) < (w64 (a.2.1 - b.1)))) ((rec b.2.2 a.1 b.1 d.1).bind fun p=>(Ql p.length b.2.2.length).bind fun _=>some (.inl (w64 (b.1 + 1),a.2.1,d.1,decide ((w64 (b.1 - a.1)) ≥ (w64 (Int.tdiv (w64 (a.2.1 - a.1)) 8))),b.2.1,p))) ((rec b.2.2 (w64 (b.1 + 1)) a.2.1 d.1).bind fun q=>(Ql q.length b.2.2.length).bind fun _=>some (.inl (a.1,b.1,d.1,decide ((w64 (a.2.1 - b.1)) ≥ (w64 (Int.tdiv (w64 (a.2.1 - a.1)) 8))),b.2.1,q)))) | .inr y=>some (.inr y))))
noncomputable def q5w (rec : List qg→Int→Int→Int→Option (List qg)) (a : qg→qg→Option Int) (b : List qg) (c : Int) (d : Int) (f : Int) : Option (List qg):=
  (loop (q5v a rec) (c,d,f,true,true,b)).bind fun g=>some g
noncomputable def q5u : Nat→(qg→qg→Option Int)→List qg→Int→Int→Int→Option (List qg)
  | 0,_,_,_,_,_=>none
  | n + 1,a,b,c,d,f=>q5w (q5u n a) a b c d f
noncomputable def q55 (c : qg→qg→Option Int) (a : List qg) : Option (List qg):=
  (Jy (IntKind.wrap .u64 (a.length : Int))).bind fun d=>(lim (fun n=>q5u n c a 0 (a.length : Int) d)).bind fun b=>(Ql b.length a.length).bind fun _=>some b
noncomputable def qb0 (a : List qg) : Option (List qg):=
  some a
noncomputable def q3t (b : List qi) (c : Int × List qg) (a : Int × List qg) : Option ((Int × List qg) ⊕ (List qg)):=
  cond (decide (a.1 < (b.length : Int))) ((idx b a.1).bind fun d=>(app 24 a.2 [({at_:=d.Lo,list_:=c.1,by_:=1} : qg),({at_:=d.Hi,list_:=c.1,by_:=(-1)} : qg)]).bind fun f=>some (.inl (w64 (a.1 + 1),f))) (some (.inr a.2))
noncomputable def U5 (b : List (List qi)) (a : Int × List qg) : Option ((Int × List qg) ⊕ (List qg)):=
  cond (decide (a.1 < (b.length : Int))) (((idx b a.1).bind fun c=>(loop (q3t c a) (0,a.2)).bind fun d=>some d).bind fun f=>some (.inl (w64 (a.1 + 1),f))) (some (.inr a.2))
noncomputable def q8v (b : List (List qi)) : Option (List (List qi) × List qg):=
  (loop (U5 b) (0,[])).bind fun c=>(q55 (fun f g=>q8u f g) c).bind fun a=>(Ql a.length c.length).bind fun _=>(qb0 a).bind fun d=>(Ql d.length a.length).bind fun _=>some (b,d)
noncomputable def q8w (d : Int) (c : Bool) (b : Int) (a : List qi) : Option (Bool × Int × List qi):=
  (cond (!c) (some true) (some (b == d))).bind fun f=>cond f (some (c,b,a)) ((cond (decide ((a.length : Int) > 0)) ((idx a (w64 ((a.length : Int) - 1))).bind fun g=>some (g.Hi == b)) (some false)).bind fun h=>cond h ((idx a (w64 ((a.length : Int) - 1))).bind fun j=>some (c,b,a.set (w64 ((a.length : Int) - 1)).toNat ({Lo:=j.Lo,Hi:=d} : qi))) ((app 16 a [({Lo:=b,Hi:=d} : qi)]).bind fun k=>some (c,b,k)))
noncomputable def q3u (f : List (List qi) × List qg) (g : Bool→Bool→Option Bool) (a : Int × List Int × Int × Bool × List qi) : Option ((Int × List Int × Int × Bool × List qi) ⊕ (List qi)):=
  cond (decide (a.1 < (f.2.length : Int))) ((idx f.2 a.1).bind fun b=>((q8w b.at_ a.2.2.2.1 a.2.2.1 a.2.2.2.2).bind fun h=>(idxA 2 a.2.1 b.list_).bind fun c=>(idxA 2 a.2.1 b.list_).bind fun _=>(idxA 2 (a.2.1.set b.list_.toNat (w64 (c + b.by_))) 0).bind fun j=>(idxA 2 (a.2.1.set b.list_.toNat (w64 (c + b.by_))) 1).bind fun k=>(g (decide (j > 0)) (decide (k > 0))).bind fun l=>some (a.2.1.set b.list_.toNat (w64 (c + b.by_)),l,h.2.2)).bind fun d=>some (.inl (w64 (a.1 + 1),d.1,b.at_,d.2.1,d.2.2))) (some (.inr a.2.2.2.2))
noncomputable def q66 (a : List qi) (b : List qi) (d : Bool→Bool→Option Bool) : Option (List qi):=
  (q8v [a,b]).bind fun c=>(Ql c.1.length [a,b].length).bind fun _=>((loop (q3u c d) (0,[0,0],0,false,[])).bind fun f=>some f).bind fun g=>some g
noncomputable def q8t (a : Bool) (b : Bool) : Option Bool:=
  some a
noncomputable def q2a (a : List qi) : Option (List qi × Int):=
  cond (decide ((a.length : Int) > 400)) (some ([],4)) ((q7r a (fun b=>qb8 b)).bind fun c=>cond c (some ([],8)) ((q66 a [] (fun b d=>q8t b d)).bind fun f=>some (f,0)))
noncomputable def qaw (b : List qi) (f : List qi) (a : Int) : Option ((Int) ⊕ ((Unit) ⊕ (Bool))):=
  cond (decide (a < (b.length : Int))) ((idx b a).bind fun c=>(idx f a).bind fun d=>cond (!((c.Lo == d.Lo) && ((c.Hi == d.Hi) && true))) (some (.inr (.inr false))) (some (.inl (w64 (a + 1))))) (some (.inr (.inl ())))
noncomputable def q7t (a : List qi) (b : List qi) : Option Bool:=
  cond ((a.length : Int) != (b.length : Int)) (some false) ((loop (qaw a b) 0 : Option ((Unit) ⊕ (Bool))).bind fun c=>(match c with | .inl _=>some true | .inr d=>some d))
noncomputable def q4x (c : Int) (a : Int × List qf) : Option ((Int × List qf) ⊕ (List qf)):=
  cond (decide (a.1 < (a.2.length : Int))) ((idx a.2 a.1).bind fun b=>some (.inl (w64 (a.1 + 1),a.2.set a.1.toNat ({X0:=b.X0,Y0:=b.Y0,X1:=c,Y1:=b.Y1} : qf)))) (some (.inr a.2))
noncomputable def q4y (b : List qi) (f : Int) (c : Int) (g : List qf) (a : Int × List qf) : Option ((Int × List qf) ⊕ (List qi × Int × Int × List qf)):=
  cond (decide (a.1 < (b.length : Int))) ((idx b a.1).bind fun d=>(app 32 a.2 [({X0:=f,Y0:=d.Lo,X1:=c,Y1:=d.Hi} : qf)]).bind fun h=>some (.inl (w64 (a.1 + 1),h))) (some (.inr (b,(g.length : Int),c,a.2)))
noncomputable def q7l (a : List qf) (d : List qi) (f : Int) (h : Int) (g : Int) (b : Int) (c : List qi) : Option (List qi × Int × Int × List qf):=
  (cond (decide ((c.length : Int) > 0)) (some (h == g)) (some false)).bind fun j=>(cond j ((q7t d c).bind fun k=>some k) (some false)).bind fun l=>cond l ((loop (q4x b) (f,a)).bind fun m=>some (d,f,b,m)) ((loop (q4y c g b a) (0,a)).bind fun n=>some n)
noncomputable def q1x (b : List qf) (a : Int × List Int) : Option ((Int × List Int) ⊕ (List Int)):=
  cond (decide (a.1 < (b.length : Int))) ((idx b a.1).bind fun c=>(app 8 a.2 [c.X0,c.X1]).bind fun d=>some (.inl (w64 (a.1 + 1),d))) (some (.inr a.2))
noncomputable def q3c (c : List qf) (d : Int) (a : Int × List qi) : Option ((Int × List qi) ⊕ (List qi)):=
  cond (decide (a.1 < (c.length : Int))) (((idx c a.1).bind fun b=>(cond (decide (b.X0≤d)) (some (decide (d < b.X1))) (some false)).bind fun f=>cond f ((app 16 a.2 [({Lo:=b.Y0,Hi:=b.Y1} : qi)]).bind fun g=>some g) (some a.2)).bind fun h=>some (.inl (w64 (a.1 + 1),h))) (some (.inr a.2))
noncomputable def q1y (d : List Int) (g : List qf) (a : Int × List qi × Int × Int × List qf) : Option ((Int × List qi × Int × Int × List qf) ⊕ (List qi × Int × Int × List qf)):=
  cond (decide (a.1 < (d.length : Int))) ((idx d (w64 (a.1 - 1))).bind fun f=>(idx d a.1).bind fun h=>((idx [g] 0).bind fun j=>(loop (q3c j f) (0,[])).bind fun k=>some k).bind fun l=>((q2a l).bind fun m=>(q7l a.2.2.2.2 a.2.1 a.2.2.1 a.2.2.2.1 f h m.1).bind fun b=>some (b.1,b.2.1,b.2.2.1,b.2.2.2)).bind fun c=>some (.inl (w64 (a.1 + 1),c.1,c.2.1,c.2.2.1,c.2.2.2))) (some (.inr (a.2.1,a.2.2.1,a.2.2.2.1,a.2.2.2.2)))
noncomputable def q4z (d : List qf) : Option (List qf × Int):=
  (((idx [d] 0).bind fun j=>(loop (q1x j) (0,[])).bind fun b=>some b).bind fun f=>(U4 f).bind fun c=>(Ql c.length f.length).bind fun _=>(q22 c).bind fun a=>(Ql a.2.length c.length).bind fun _=>(q2c a.2.length a.1).bind fun _=>some ((a.2.drop a.1.1).take a.1.2)).bind fun k=>((loop (q1y k d) (1,[],0,0,[])).bind fun b=>some b).bind fun g=>(cond (decide ((g.2.2.2.length : Int) > 400)) (some (4,[])) (some (0,g.2.2.2))).bind fun h=>some (h.2,h.1)
noncomputable def qat (d : List qf) (f : List qf) (a : Int) : Option ((Int) ⊕ ((Unit) ⊕ (Bool))):=
  cond (decide (a < (d.length : Int))) ((idx d a).bind fun b=>(idx f a).bind fun c=>cond (!((b.X0 == c.X0) && ((b.Y0 == c.Y0) && ((b.X1 == c.X1) && ((b.Y1 == c.Y1) && true))))) (some (.inr (.inr false))) (some (.inl (w64 (a + 1))))) (some (.inr (.inl ())))
noncomputable def U2 (a : List qf) (b : List qf) : Option Bool:=
  cond ((a.length : Int) != (b.length : Int)) (some false) ((loop (qat a b) 0 : Option ((Unit) ⊕ (Bool))).bind fun c=>(match c with | .inl _=>some true | .inr d=>some d))
noncomputable def q3a (a : List qf) : Option Int:=
  cond (decide ((a.length : Int) > 400)) (some 4) ((q7q a (fun c=>q1u c)).bind fun d=>cond d (some 8) ((q4z a).bind fun b=>(cond (b.2 != 0) (some true) ((U2 b.1 a).bind fun f=>some (!f))).bind fun g=>cond g (some 8) (some 0)))
noncomputable def q4q (a : Int) : Option Bool:=
  (cond (decide (a ≥ (-1000000))) (some (decide (a≤1000000))) (some false)).bind fun b=>some b
def Qf (x : qj) : List DV:=[.int .i64 x.Lo.X,.int .i64 x.Lo.Y,.int .i64 x.Lo.Z,.int .i64 x.Hi.X,.int .i64 x.Hi.Y,.int .i64 x.Hi.Z]
noncomputable def qds (a : Int) (b : Unit) : Option ((Unit) ⊕ (Unit)):=
  cond (decide (a < 0)) none (some (.inr ()))
noncomputable def q4r (c : List qf) (f : Int) (d : Int) (a : Int × List qj) : Option ((Int × List qj) ⊕ (List qf × Int × Int × List qj)):=
  cond (decide (a.1 < (c.length : Int))) ((idx c a.1).bind fun b=>(app 48 a.2 [({Lo:=({X:=b.X0,Y:=b.Y0,Z:=f} : qh),Hi:=({X:=b.X1,Y:=b.Y1,Z:=d} : qh)} : qj)]).bind fun g=>some (.inl (w64 (a.1 + 1),g))) (some (.inr (c,0,d,a.2)))
noncomputable def q7j (b : Int) (f : Int) (c : Int) (d : Int) (a : List qf) : Option (List qf × Int × Int × List qj):=
  (cond (decide ((a.length : Int) > 0)) (some (f == c)) (some false)).bind fun g=>(cond g ((U2 [] a).bind fun h=>some h) (some false)).bind fun j=>cond j ((loop (qds b) ()).bind fun _=>some ([],b,d,[])) ((loop (q4r a c d) (0,[])).bind fun k=>some k)
noncomputable def q37 (c : List qf) (a : Int) (b : Int) : Option (List qj × Int):=
  (q3a c).bind fun d=>cond (d != 0) (some ([],d)) ((q4q a).bind fun h=>(cond (!h) (some true) ((q4q b).bind fun j=>some (!j))).bind fun k=>(cond k (some true) (some (decide (a ≥ b)))).bind fun l=>cond l (some ([],2)) ((q7j 0 0 a b c).bind fun f=>(cond (decide ((f.2.2.2.length : Int) > 400)) (some (4,[])) (some (0,f.2.2.2))).bind fun g=>some (g.2,g.1)))
noncomputable def U3 (b : List qj) (c : qj→Option Bool) (a : Int) : Option ((Int) ⊕ ((Unit) ⊕ (Int))):=
  cond (decide (a < (b.length : Int))) ((idx b a).bind fun d=>(c d).bind fun f=>cond f (some (.inr (.inr a))) (some (.inl (w64 (a + 1))))) (some (.inr (.inl ())))
noncomputable def q7u (a : List qj) (b : qj→Option Bool) : Option Int:=
  (loop (U3 a b) 0 : Option ((Unit) ⊕ (Int))).bind fun c=>(match c with | .inl _=>some (-1) | .inr d=>some d)
noncomputable def q3e (a : List qj) (b : qj→Option Bool) : Option Bool:=
  (q7u a b).bind fun c=>some (decide (c ≥ 0))
noncomputable def q65 (a : qh) : Option Bool:=
  (cond (decide ((min (min a.X a.Y) a.Z) ≥ (-1000000))) (some (decide ((max (max a.X a.Y) a.Z)≤1000000))) (some false)).bind fun b=>some b
noncomputable def q8q (a : qj) : Option Bool:=
  (cond (decide (a.Lo.X < a.Hi.X)) (some (decide (a.Lo.Y < a.Hi.Y))) (some false)).bind fun b=>(cond b (some (decide (a.Lo.Z < a.Hi.Z))) (some false)).bind fun c=>(cond c ((q65 a.Lo).bind fun d=>some d) (some false)).bind fun f=>(cond f ((q65 a.Hi).bind fun g=>some g) (some false)).bind fun h=>some h
noncomputable def q27 (a : qj) : Option Bool:=
  (q8q a).bind fun b=>some (!b)
def Kg (x : List qj) : List DV:=[.sl 6 (x.map Qf)]
noncomputable def q3f (b : List qf) (c : qf→Option Bool) (a : Int) : Option ((Int) ⊕ ((Unit) ⊕ (Int))):=
  cond (decide (a < (b.length : Int))) ((idx b a).bind fun d=>(c d).bind fun f=>cond f (some (.inr (.inr a))) (some (.inl (w64 (a + 1))))) (some (.inr (.inl ())))
noncomputable def qax (a : List qf) (b : qf→Option Bool) : Option Int:=
  (loop (q3f a b) 0 : Option ((Unit) ⊕ (Int))).bind fun c=>(match c with | .inl _=>some (-1) | .inr d=>some d)
noncomputable def q7p (a : List qf) (b : qf→Option Bool) : Option Bool:=
  (qax a b).bind fun c=>some (decide (c ≥ 0))
noncomputable def q1v (a : qf) : Option Bool:=
  (q50 a).bind fun b=>some (!b)
noncomputable def q3b (a : List qf) : Option (List qf × Int):=
  cond (decide ((a.length : Int) > 400)) (some ([],4)) ((q7p a (fun c=>q1v c)).bind fun d=>cond d (some ([],8)) ((q4z a).bind fun b=>some (b.1,b.2)))
noncomputable def q63 (c : Int) (a : Int × List qj) : Option ((Int × List qj) ⊕ (List qj)):=
  cond (decide (a.1 < (a.2.length : Int))) ((idx a.2 a.1).bind fun b=>some (.inl (w64 (a.1 + 1),a.2.set a.1.toNat ({Lo:=b.Lo,Hi:=({X:=b.Hi.X,Y:=b.Hi.Y,Z:=c} : qh)} : qj)))) (some (.inr a.2))
noncomputable def q64 (c : List qf) (f : Int) (d : Int) (g : List qj) (a : Int × List qj) : Option ((Int × List qj) ⊕ (List qf × Int × Int × List qj)):=
  cond (decide (a.1 < (c.length : Int))) ((idx c a.1).bind fun b=>(app 48 a.2 [({Lo:=({X:=b.X0,Y:=b.Y0,Z:=f} : qh),Hi:=({X:=b.X1,Y:=b.Y1,Z:=d} : qh)} : qj)]).bind fun h=>some (.inl (w64 (a.1 + 1),h))) (some (.inr (c,(g.length : Int),d,a.2)))
noncomputable def q8p (a : List qj) (d : List qf) (f : Int) (h : Int) (g : Int) (b : Int) (c : List qf) : Option (List qf × Int × Int × List qj):=
  (cond (decide ((c.length : Int) > 0)) (some (h == g)) (some false)).bind fun j=>(cond j ((U2 d c).bind fun k=>some k) (some false)).bind fun l=>cond l ((loop (q63 b) (f,a)).bind fun m=>some (d,f,b,m)) ((loop (q64 c g b a) (0,a)).bind fun n=>some n)
noncomputable def q3q (b : List qj) (a : Int × List Int) : Option ((Int × List Int) ⊕ (List Int)):=
  cond (decide (a.1 < (b.length : Int))) ((idx b a.1).bind fun c=>(app 8 a.2 [c.Lo.Z,c.Hi.Z]).bind fun d=>some (.inl (w64 (a.1 + 1),d))) (some (.inr a.2))
noncomputable def q29 (c : List qj) (d : Int) (a : Int × List qf) : Option ((Int × List qf) ⊕ (List qf)):=
  cond (decide (a.1 < (c.length : Int))) (((idx c a.1).bind fun b=>(cond (decide (b.Lo.Z≤d)) (some (decide (d < b.Hi.Z))) (some false)).bind fun f=>cond f ((app 32 a.2 [({X0:=b.Lo.X,Y0:=b.Lo.Y,X1:=b.Hi.X,Y1:=b.Hi.Y} : qf)]).bind fun g=>some g) (some a.2)).bind fun h=>some (.inl (w64 (a.1 + 1),h))) (some (.inr a.2))
noncomputable def q3r (d : List Int) (h : List qj) (a : Int × List qf × Int × Int × List qj) : Option ((Int × List qf × Int × Int × List qj) ⊕ ((List qf × Int × Int × List qj) ⊕ (List qj × Int))):=
  cond (decide (a.1 < (d.length : Int))) ((idx d (w64 (a.1 - 1))).bind fun g=>(idx d a.1).bind fun j=>((idx [h] 0).bind fun k=>(loop (q29 k g) (0,[])).bind fun l=>some l).bind fun m=>((q3b m).bind fun f=>cond (f.2 != 0) (some (.inr ([],f.2))) ((q8p a.2.2.2.2 a.2.1 a.2.2.1 a.2.2.2.1 g j f.1).bind fun b=>some (.inl (b.1,b.2.1,b.2.2.1,b.2.2.2))) : Option ((List qf × Int × Int × List qj) ⊕ (List qj × Int))).bind fun n=>(match n with | .inl c=>some (.inl (w64 (a.1 + 1),c.1,c.2.1,c.2.2.1,c.2.2.2)) | .inr o=>some (.inr (.inr o)))) (some (.inr (.inl (a.2.1,a.2.2.1,a.2.2.2.1,a.2.2.2.2))))
noncomputable def q8r (f : List qj) : Option (List qj × Int):=
  (((idx [f] 0).bind fun j=>(loop (q3q j) (0,[])).bind fun b=>some b).bind fun g=>(U4 g).bind fun c=>(Ql c.length g.length).bind fun _=>(q22 c).bind fun a=>(Ql a.2.length c.length).bind fun _=>(q2c a.2.length a.1).bind fun _=>some ((a.2.drop a.1.1).take a.1.2)).bind fun k=>((loop (q3r k f) (1,[],0,0,[]) : Option ((List qf × Int × Int × List qj) ⊕ (List qj × Int))).bind fun l=>(match l with | .inl b=>some (.inl b) | .inr d=>some (.inr d)) : Option ((List qf × Int × Int × List qj) ⊕ (List qj × Int))).bind fun m=>(match m with | .inl h=>cond (decide ((h.2.2.2.length : Int) > 400)) (some ([],4)) (some (h.2.2.2,0)) | .inr d=>some d)
noncomputable def qe5 (d : List qj) (f : List qj) (c : Int) : Option ((Int) ⊕ ((Unit) ⊕ (Bool))):=
  cond (decide (c < (d.length : Int))) ((idx d c).bind fun a=>(idx f c).bind fun b=>cond (!((a.Lo.X == b.Lo.X) && ((a.Lo.Y == b.Lo.Y) && ((a.Lo.Z == b.Lo.Z) && ((a.Hi.X == b.Hi.X) && ((a.Hi.Y == b.Hi.Y) && ((a.Hi.Z == b.Hi.Z) && true))))))) (some (.inr (.inr false))) (some (.inl (w64 (c + 1))))) (some (.inr (.inl ())))
noncomputable def qav (a : List qj) (b : List qj) : Option Bool:=
  cond ((a.length : Int) != (b.length : Int)) (some false) ((loop (qe5 a b) 0 : Option ((Unit) ⊕ (Bool))).bind fun c=>(match c with | .inl _=>some true | .inr d=>some d))
noncomputable def q26 (a : List qj) : Option Int:=
  cond (decide ((a.length : Int) > 400)) (some 4) ((q3e a (fun c=>q27 c)).bind fun d=>cond d (some 8) ((q8r a).bind fun b=>(cond (b.2 != 0) (some true) ((qav b.1 a).bind fun f=>some (!f))).bind fun g=>cond g (some 8) (some 0)))
noncomputable def qb6 (a : qj) : Option (Int × Int × Int):=
  some (w64 (a.Hi.X - a.Lo.X),w64 (a.Hi.Y - a.Lo.Y),w64 (a.Hi.Z - a.Lo.Z))
noncomputable def q62 (c : List qj) (a : Int × Int) : Option ((Int × Int) ⊕ (Int)):=
  cond (decide (a.2 < (c.length : Int))) ((idx c a.2).bind fun d=>(qb6 d).bind fun b=>some (.inl (w64 (a.1 + (w64 ((w64 (b.1 * b.2.1)) * b.2.2))),w64 (a.2 + 1)))) (some (.inr a.1))
noncomputable def q28 (a : List qj) : Option (Int × Int):=
  (q26 a).bind fun b=>cond (b != 0) (some (0,b)) ((loop (q62 a) (0,0)).bind fun c=>some (c,0))
noncomputable def q3h (b : List Qe) (c : Qe→Option Bool) (a : Int) : Option ((Int) ⊕ ((Unit) ⊕ (Int))):=
  cond (decide (a < (b.length : Int))) ((idx b a).bind fun d=>(c d).bind fun f=>cond f (some (.inr (.inr a))) (some (.inl (w64 (a + 1))))) (some (.inr (.inl ())))
noncomputable def qaz (a : List Qe) (b : Qe→Option Bool) : Option Int:=
  (loop (q3h a b) 0 : Option ((Unit) ⊕ (Int))).bind fun c=>(match c with | .inl _=>some (-1) | .inr d=>some d)
noncomputable def q7s (a : List Qe) (b : Qe→Option Bool) : Option Bool:=
  (qaz a b).bind fun c=>some (decide (c ≥ 0))
noncomputable def Ut (a : Qe) : Option Bool:=
  (cond (decide (a.Height < 1)) (some true) (some (decide (a.Height > 1000000)))).bind fun b=>some b
noncomputable def q4s (c : Int) (a : Int × List qj) : Option ((Int × List qj) ⊕ (List qj)):=
  cond (decide (a.1 < (a.2.length : Int))) ((idx a.2 a.1).bind fun b=>some (.inl (w64 (a.1 + 1),a.2.set a.1.toNat ({Lo:=b.Lo,Hi:=({X:=b.Hi.X,Y:=b.Hi.Y,Z:=c} : qh)} : qj)))) (some (.inr a.2))
noncomputable def q4t (c : List qf) (f : Int) (d : Int) (g : List qj) (a : Int × List qj) : Option ((Int × List qj) ⊕ (List qf × Int × Int × List qj)):=
  cond (decide (a.1 < (c.length : Int))) ((idx c a.1).bind fun b=>(app 48 a.2 [({Lo:=({X:=b.X0,Y:=b.Y0,Z:=f} : qh),Hi:=({X:=b.X1,Y:=b.Y1,Z:=d} : qh)} : qj)]).bind fun h=>some (.inl (w64 (a.1 + 1),h))) (some (.inr (c,(g.length : Int),d,a.2)))
noncomputable def q7k (a : List qj) (d : List qf) (f : Int) (h : Int) (g : Int) (b : Int) (c : List qf) : Option (List qf × Int × Int × List qj):=
  (cond (decide ((c.length : Int) > 0)) (some (h == g)) (some false)).bind fun j=>(cond j ((U2 d c).bind fun k=>some k) (some false)).bind fun l=>cond l ((loop (q4s b) (f,a)).bind fun m=>some (d,f,b,m)) ((loop (q4t c g b a) (0,a)).bind fun n=>some n)
noncomputable def q38 (b : List Qe) (a : Int) : Option ((Int) ⊕ ((Unit) ⊕ (List qj × Int))):=
  cond (decide (a < (b.length : Int))) ((idx b a).bind fun d=>(q3a d.Region).bind fun c=>cond (c != 0) (some (.inr (.inr ([],c)))) (some (.inl (w64 (a + 1))))) (some (.inr (.inl ())))
noncomputable def q39 (d : List Qe) (a : Int × Int × List qf × Int × Int × List qj) : Option ((Int × Int × List qf × Int × Int × List qj) ⊕ ((List qf × Int × Int × List qj) ⊕ (List qj × Int))):=
  cond (decide (a.2.1 < (d.length : Int))) ((idx d a.2.1).bind fun b=>cond (decide ((w64 (a.1 + b.Height)) > 1000000)) (some (.inr (.inr ([],16)))) ((q7k a.2.2.2.2.2 a.2.2.1 a.2.2.2.1 a.2.2.2.2.1 a.1 (w64 (a.1 + b.Height)) b.Region).bind fun c=>some (.inl (w64 (a.1 + b.Height),w64 (a.2.1 + 1),c.1,c.2.1,c.2.2.1,c.2.2.2)))) (some (.inr (.inl (a.2.2.1,a.2.2.2.1,a.2.2.2.2.1,a.2.2.2.2.2))))
noncomputable def q1t (a : List Qe) (c : Int) : Option (List qj × Int):=
  cond (decide ((a.length : Int) > 100)) (some ([],4)) ((loop (q38 a) 0 : Option ((Unit) ⊕ (List qj × Int))).bind fun g=>(match g with | .inl _=>(q4q c).bind fun h=>(cond (!h) (some true) ((q7s a (fun j=>Ut j)).bind fun k=>some k)).bind fun l=>cond l (some ([],2)) ((loop (q39 a) (c,0,[],0,0,[]) : Option ((List qf × Int × Int × List qj) ⊕ (List qj × Int))).bind fun m=>(match m with | .inl d=>(cond (decide ((d.2.2.2.length : Int) > 400)) (some (4,[])) (some (0,d.2.2.2))).bind fun f=>some (f.2,f.1) | .inr b=>some b)) | .inr b=>some b))
noncomputable def q4o (c : List qj) (d : Int) (f : Int) (a : Int × List qi) : Option ((Int × List qi) ⊕ (List qi)):=
  cond (decide (a.1 < (c.length : Int))) (((idx c a.1).bind fun b=>(cond (decide (b.Lo.X≤d)) (some (decide (d < b.Hi.X))) (some false)).bind fun g=>(cond g (some (decide (b.Lo.Y≤f))) (some false)).bind fun h=>(cond h (some (decide (f < b.Hi.Y))) (some false)).bind fun j=>cond j ((app 16 a.2 [({Lo:=b.Lo.Z,Hi:=b.Hi.Z} : qi)]).bind fun k=>some k) (some a.2)).bind fun l=>some (.inl (w64 (a.1 + 1),l))) (some (.inr a.2))
noncomputable def q7e (a : List qj) (d : Int) (f : Int) : Option (List qi × Int):=
  (q26 a).bind fun b=>cond (b != 0) (some ([],b)) ((loop (q4o a d f) (0,[])).bind fun g=>(q2a g).bind fun c=>some (c.1,c.2))
structure Qm where
  Turn : Int
  At : qh
  deriving DecidableEq
structure Q2 where
  Frame : Qm
  Size : qh
  deriving DecidableEq
noncomputable def qa5 : Option Q2:=
  some ({Frame:=({Turn:=0,At:=({X:=0,Y:=0,Z:=0} : qh)} : Qm),Size:=({X:=2,Y:=3,Z:=4} : qh)} : Q2)
noncomputable def q2n (a : qh) (b : Int) : Option Bool:=
  (cond (decide ((min (min a.X a.Y) a.Z) ≥ b)) (some (decide ((max (max a.X a.Y) a.Z)≤1000000))) (some false)).bind fun c=>some c
noncomputable def Uf (a : Qm) : Option Int:=
  (cond (decide (a.Turn ≥ 24)) (some true) ((q2n a.At (-1000000)).bind fun b=>some (!b))).bind fun c=>cond c (some 8) (some 0)
noncomputable def q6t (a : Q2) : Option Int:=
  (Uf a.Frame).bind fun b=>(cond (b != 0) (some true) ((q2n a.Size 0).bind fun c=>some (!c))).bind fun d=>cond d (some 8) (some 0)
noncomputable def q9w (a : Int) : Option qh:=
  cond ((IntKind.wrap .u8 (Int.tdiv a 2)) == 0) (some ({X:=w64 (1 - (w64 (2 * (w64 (Int.tmod a 2))))),Y:=0,Z:=0} : qh)) (cond ((IntKind.wrap .u8 (Int.tdiv a 2)) == 1) (some ({X:=0,Y:=w64 (1 - (w64 (2 * (w64 (Int.tmod a 2))))),Z:=0} : qh)) (some ({X:=0,Y:=0,Z:=w64 (1 - (w64 (2 * (w64 (Int.tmod a 2)))))} : qh)))
noncomputable def qck (a : qh) (b : qh) : Option qh:=
  some ({X:=w64 ((w64 (a.Y * b.Z)) - (w64 (a.Z * b.Y))),Y:=w64 ((w64 (a.Z * b.X)) - (w64 (a.X * b.Z))),Z:=w64 ((w64 (a.X * b.Y)) - (w64 (a.Y * b.X)))} : qh)
noncomputable def q19 (a : Int) : Option (qh × qh × qh):=
  (cond (decide ((Int.tmod a 4) ≥ (IntKind.wrap .u8 ((IntKind.wrap .u8 (Int.tdiv (IntKind.wrap .u8 (Int.tdiv a 4)) 2)) * 2)))) (some (IntKind.wrap .u8 ((Int.tmod a 4) + 2))) (some (Int.tmod a 4))).bind fun d=>(q9w (IntKind.wrap .u8 (Int.tdiv a 4))).bind fun b=>(q9w d).bind fun c=>(qck b c).bind fun f=>some (b,c,f)
def q45 (x : qh) : List DV:=[.int .i64 x.X,.int .i64 x.Y,.int .i64 x.Z]
noncomputable def q49 (a : qh × qh × qh) (b : qh) : Option qh:=
  some ({X:=w64 ((w64 ((w64 (b.X * a.1.X)) + (w64 (b.Y * a.2.1.X)))) + (w64 (b.Z * a.2.2.X))),Y:=w64 ((w64 ((w64 (b.X * a.1.Y)) + (w64 (b.Y * a.2.1.Y)))) + (w64 (b.Z * a.2.2.Y))),Z:=w64 ((w64 ((w64 (b.X * a.1.Z)) + (w64 (b.Y * a.2.1.Z)))) + (w64 (b.Z * a.2.2.Z)))} : qh)
noncomputable def q48 (a : qh × qh × qh) (c : Int) : Option ((Int) ⊕ ((Unit) ⊕ (Int))):=
  cond (decide (c < 24)) ((q19 c).bind fun b=>cond ((b.1.X == a.1.X) && ((b.1.Y == a.1.Y) && ((b.1.Z == a.1.Z) && ((b.2.1.X == a.2.1.X) && ((b.2.1.Y == a.2.1.Y) && ((b.2.1.Z == a.2.1.Z) && ((b.2.2.X == a.2.2.X) && ((b.2.2.Y == a.2.2.Y) && ((b.2.2.Z == a.2.2.Z) && true))))))))) (some (.inr (.inr c))) (some (.inl (IntKind.wrap .u8 (c + 1))))) (some (.inr (.inl ())))
noncomputable def q6v (a : qh × qh × qh) : Option Int:=
  (loop (q48 a) 0 : Option ((Unit) ⊕ (Int))).bind fun b=>(match b with | .inl _=>some 0 | .inr c=>some c)
noncomputable def q6u (a : Qm) (c : qh) : Option qh:=
  (q19 a.Turn).bind fun d=>(q49 d c).bind fun b=>some ({X:=w64 (b.X + a.At.X),Y:=w64 (b.Y + a.At.Y),Z:=w64 (b.Z + a.At.Z)} : qh)
noncomputable def q1a (b : (qh × qh × qh)) (a : Int × List qh) : Option ((Int × List qh) ⊕ (List qh)):=
  cond (decide (a.1 < 3)) ((idxA 3 a.2 a.1).bind fun c=>(q49 b c).bind fun d=>(idxA 3 a.2 a.1).bind fun _=>some (.inl (w64 (a.1 + 1),a.2.set a.1.toNat d))) (some (.inr a.2))
noncomputable def q6w (b : Qm) (c : Qm) : Option Qm:=
  (q19 b.Turn).bind fun a=>(q19 c.Turn).bind fun d=>(loop (q1a d) (0,[a.1,a.2.1,a.2.2])).bind fun f=>(arr3 f).bind fun g=>(q6v g).bind fun h=>(q6u c b.At).bind fun j=>some ({Turn:=h,At:=j} : Qm)
noncomputable def q6s (a : Qm) (b : Qm) : Option (Qm × Int):=
  (Uf a).bind fun c=>cond (c != 0) (some (({Turn:=0,At:=({X:=0,Y:=0,Z:=0} : qh)} : Qm),c)) ((Uf b).bind fun d=>cond (d != 0) (some (({Turn:=0,At:=({X:=0,Y:=0,Z:=0} : qh)} : Qm),d)) ((q6w a b).bind fun f=>(Uf f).bind fun g=>cond (g != 0) (some (({Turn:=0,At:=({X:=0,Y:=0,Z:=0} : qh)} : Qm),16)) (some (f,0))))
noncomputable def Zf (b : Q2) (c : qh) (d : qh) (f : Int) : Option (Q2 × Int):=
  (q6t b).bind fun g=>cond (g != 0) (some (({Frame:=({Turn:=0,At:=({X:=0,Y:=0,Z:=0} : qh)} : Qm),Size:=({X:=0,Y:=0,Z:=0} : qh)} : Q2),g)) ((Uf ({Turn:=f,At:=c} : Qm)).bind fun h=>(cond (h != 0) (some true) ((q2n d 0).bind fun j=>some (!j))).bind fun k=>cond k (some (({Frame:=({Turn:=0,At:=({X:=0,Y:=0,Z:=0} : qh)} : Qm),Size:=({X:=0,Y:=0,Z:=0} : qh)} : Q2),2)) ((q6s ({Turn:=f,At:=c} : Qm) b.Frame).bind fun a=>cond (a.2 != 0) (some (({Frame:=({Turn:=0,At:=({X:=0,Y:=0,Z:=0} : qh)} : Qm),Size:=({X:=0,Y:=0,Z:=0} : qh)} : Q2),a.2)) (some (({Frame:=a.1,Size:=d} : Q2),0))))
noncomputable def q7i (a : Q2) : Option Int:=
  (Zf a ({X:=0,Y:=0,Z:=0} : qh) ({X:=0,Y:=0,Z:=0} : qh) 0).bind fun b=>cond (b.2 != 0) (some 8) (some 0)
def q2l (x : Q2) : List DV:=[.int .u8 x.Frame.Turn,.int .i64 x.Frame.At.X,.int .i64 x.Frame.At.Y,.int .i64 x.Frame.At.Z,.int .i64 x.Size.X,.int .i64 x.Size.Y,.int .i64 x.Size.Z]
structure Ki where
  t_ : Int
  at_ : qh
  flat_ : qh
  deriving DecidableEq
def q9o (x : Ki) : List DV:=[.int .u8 x.t_,.int .i64 x.at_.X,.int .i64 x.at_.Y,.int .i64 x.at_.Z,.int .i64 x.flat_.X,.int .i64 x.flat_.Y,.int .i64 x.flat_.Z]
noncomputable def J1 (a : qh) (b : Int) : Option (Int × qh × qh):=
  (idxA 6 [({t_:=10,at_:=({X:=a.X,Y:=0,Z:=0} : qh),flat_:=({X:=a.Y,Y:=a.Z,Z:=0} : qh)} : Ki),({t_:=11,at_:=({X:=0,Y:=0,Z:=a.Z} : qh),flat_:=({X:=a.Y,Y:=a.Z,Z:=0} : qh)} : Ki),({t_:=3,at_:=({X:=0,Y:=a.Y,Z:=a.Z} : qh),flat_:=({X:=a.X,Y:=a.Z,Z:=0} : qh)} : Ki),({t_:=2,at_:=({X:=0,Y:=0,Z:=0} : qh),flat_:=({X:=a.X,Y:=a.Z,Z:=0} : qh)} : Ki),({t_:=0,at_:=({X:=0,Y:=0,Z:=a.Z} : qh),flat_:=({X:=a.X,Y:=a.Y,Z:=0} : qh)} : Ki),({t_:=1,at_:=({X:=0,Y:=a.Y,Z:=0} : qh),flat_:=({X:=a.X,Y:=a.Y,Z:=0} : qh)} : Ki)] b).bind fun c=>(idxA 6 [({t_:=10,at_:=({X:=a.X,Y:=0,Z:=0} : qh),flat_:=({X:=a.Y,Y:=a.Z,Z:=0} : qh)} : Ki),({t_:=11,at_:=({X:=0,Y:=0,Z:=a.Z} : qh),flat_:=({X:=a.Y,Y:=a.Z,Z:=0} : qh)} : Ki),({t_:=3,at_:=({X:=0,Y:=a.Y,Z:=a.Z} : qh),flat_:=({X:=a.X,Y:=a.Z,Z:=0} : qh)} : Ki),({t_:=2,at_:=({X:=0,Y:=0,Z:=0} : qh),flat_:=({X:=a.X,Y:=a.Z,Z:=0} : qh)} : Ki),({t_:=0,at_:=({X:=0,Y:=0,Z:=a.Z} : qh),flat_:=({X:=a.X,Y:=a.Y,Z:=0} : qh)} : Ki),({t_:=1,at_:=({X:=0,Y:=a.Y,Z:=0} : qh),flat_:=({X:=a.X,Y:=a.Y,Z:=0} : qh)} : Ki)] b).bind fun d=>(idxA 6 [({t_:=10,at_:=({X:=a.X,Y:=0,Z:=0} : qh),flat_:=({X:=a.Y,Y:=a.Z,Z:=0} : qh)} : Ki),({t_:=11,at_:=({X:=0,Y:=0,Z:=a.Z} : qh),flat_:=({X:=a.Y,Y:=a.Z,Z:=0} : qh)} : Ki),({t_:=3,at_:=({X:=0,Y:=a.Y,Z:=a.Z} : qh),flat_:=({X:=a.X,Y:=a.Z,Z:=0} : qh)} : Ki),({t_:=2,at_:=({X:=0,Y:=0,Z:=0} : qh),flat_:=({X:=a.X,Y:=a.Z,Z:=0} : qh)} : Ki),({t_:=0,at_:=({X:=0,Y:=0,Z:=a.Z} : qh),flat_:=({X:=a.X,Y:=a.Y,Z:=0} : qh)} : Ki),({t_:=1,at_:=({X:=0,Y:=a.Y,Z:=0} : qh),flat_:=({X:=a.X,Y:=a.Y,Z:=0} : qh)} : Ki)] b).bind fun f=>some (c.t_,d.at_,f.flat_)
noncomputable def q7g (a : Int) (g : Int) (h : Int) (j : Int) (k : Int) (b : Int) (c : Int) (d : Int) (l : List Q2) : Option (Int × Int × Int × Int × Int × Int × Int × Int × List Q2):=
  (J1 ({X:=b,Y:=c,Z:=d} : qh) a).bind fun f=>(Zf ({Frame:=({Turn:=g,At:=({X:=h,Y:=j,Z:=k} : qh)} : Qm),Size:=({X:=b,Y:=c,Z:=d} : qh)} : Q2) f.2.1 f.2.2 f.1).bind fun m=>(idxA 6 l a).bind fun _=>some (m.2,g,h,j,k,b,c,d,l.set a.toNat m.1)
noncomputable def q1s (a : Int × List Q2 × Int × Int × Int × Int × Int × Int × Int) : Option ((Int × List Q2 × Int × Int × Int × Int × Int × Int × Int) ⊕ ((List Q2) ⊕ ((Q2 × Q2 × Q2 × Q2 × Q2 × Q2) × Int))):=
  cond (decide (a.1 < 6)) ((q7g a.1 a.2.2.1 a.2.2.2.1 a.2.2.2.2.1 a.2.2.2.2.2.1 a.2.2.2.2.2.2.1 a.2.2.2.2.2.2.2.1 a.2.2.2.2.2.2.2.2 a.2.1).bind fun b=>cond (b.1 != 0) (some (.inr (.inr ((({Frame:=({Turn:=0,At:=({X:=0,Y:=0,Z:=0} : qh)} : Qm),Size:=({X:=0,Y:=0,Z:=0} : qh)} : Q2),({Frame:=({Turn:=0,At:=({X:=0,Y:=0,Z:=0} : qh)} : Qm),Size:=({X:=0,Y:=0,Z:=0} : qh)} : Q2),({Frame:=({Turn:=0,At:=({X:=0,Y:=0,Z:=0} : qh)} : Qm),Size:=({X:=0,Y:=0,Z:=0} : qh)} : Q2),({Frame:=({Turn:=0,At:=({X:=0,Y:=0,Z:=0} : qh)} : Qm),Size:=({X:=0,Y:=0,Z:=0} : qh)} : Q2),({Frame:=({Turn:=0,At:=({X:=0,Y:=0,Z:=0} : qh)} : Qm),Size:=({X:=0,Y:=0,Z:=0} : qh)} : Q2),({Frame:=({Turn:=0,At:=({X:=0,Y:=0,Z:=0} : qh)} : Qm),Size:=({X:=0,Y:=0,Z:=0} : qh)} : Q2)),b.1)))) (some (.inl (w64 (a.1 + 1),b.2.2.2.2.2.2.2.2,b.2.1,b.2.2.1,b.2.2.2.1,b.2.2.2.2.1,b.2.2.2.2.2.1,b.2.2.2.2.2.2.1,b.2.2.2.2.2.2.2.1)))) (some (.inr (.inl a.2.1)))
noncomputable def q7f (a : Q2) : Option ((Q2 × Q2 × Q2 × Q2 × Q2 × Q2) × Int):=
  (q7i a).bind fun b=>cond (b != 0) (some ((({Frame:=({Turn:=0,At:=({X:=0,Y:=0,Z:=0} : qh)} : Qm),Size:=({X:=0,Y:=0,Z:=0} : qh)} : Q2),({Frame:=({Turn:=0,At:=({X:=0,Y:=0,Z:=0} : qh)} : Qm),Size:=({X:=0,Y:=0,Z:=0} : qh)} : Q2),({Frame:=({Turn:=0,At:=({X:=0,Y:=0,Z:=0} : qh)} : Qm),Size:=({X:=0,Y:=0,Z:=0} : qh)} : Q2),({Frame:=({Turn:=0,At:=({X:=0,Y:=0,Z:=0} : qh)} : Qm),Size:=({X:=0,Y:=0,Z:=0} : qh)} : Q2),({Frame:=({Turn:=0,At:=({X:=0,Y:=0,Z:=0} : qh)} : Qm),Size:=({X:=0,Y:=0,Z:=0} : qh)} : Q2),({Frame:=({Turn:=0,At:=({X:=0,Y:=0,Z:=0} : qh)} : Qm),Size:=({X:=0,Y:=0,Z:=0} : qh)} : Q2)),b)) ((loop q1s (0,[({Frame:=({Turn:=0,At:=({X:=0,Y:=0,Z:=0} : qh)} : Qm),Size:=({X:=0,Y:=0,Z:=0} : qh)} : Q2),({Frame:=({Turn:=0,At:=({X:=0,Y:=0,Z:=0} : qh)} : Qm),Size:=({X:=0,Y:=0,Z:=0} : qh)} : Q2),({Frame:=({Turn:=0,At:=({X:=0,Y:=0,Z:=0} : qh)} : Qm),Size:=({X:=0,Y:=0,Z:=0} : qh)} : Q2),({Frame:=({Turn:=0,At:=({X:=0,Y:=0,Z:=0} : qh)} : Qm),Size:=({X:=0,Y:=0,Z:=0} : qh)} : Q2),({Frame:=({Turn:=0,At:=({X:=0,Y:=0,Z:=0} : qh)} : Qm),Size:=({X:=0,Y:=0,Z:=0} : qh)} : Q2),({Frame:=({Turn:=0,At:=({X:=0,Y:=0,Z:=0} : qh)} : Qm),Size:=({X:=0,Y:=0,Z:=0} : qh)} : Q2)],a.Frame.Turn,a.Frame.At.X,a.Frame.At.Y,a.Frame.At.Z,a.Size.X,a.Size.Y,a.Size.Z) : Option ((List Q2) ⊕ ((Q2 × Q2 × Q2 × Q2 × Q2 × Q2) × Int))).bind fun c=>(match c with | .inl d=>(arr6 d).bind fun f=>some (f,0) | .inr g=>some g))
noncomputable def qaj (b : List qi) (f : List qi) (a : Int) : Option ((Int) ⊕ ((Unit) ⊕ (Bool))):=
  cond (decide (a < (b.length : Int))) ((idx b a).bind fun c=>(idx f a).bind fun d=>cond (!((c.Lo == d.Lo) && ((c.Hi == d.Hi) && true))) (some (.inr (.inr false))) (some (.inl (w64 (a + 1))))) (some (.inr (.inl ())))
noncomputable def q2w (a : List qi) (b : List qi) : Option Bool:=
  cond ((a.length : Int) != (b.length : Int)) (some false) ((loop (qaj a b) 0 : Option ((Unit) ⊕ (Bool))).bind fun c=>(match c with | .inl _=>some true | .inr d=>some d))
noncomputable def q2r : Option Bool:=
  (q1n 0 0 2 3).bind fun h=>(q37 h 1 5).bind fun c=>(q28 c.1).bind fun d=>(q1n 0 0 2 2).bind fun j=>(q1n 0 0 1 1).bind fun k=>(q1t [({Region:=j,Height:=1} : Qe),({Region:=k,Height:=2} : Qe)] 0).bind fun b=>(q28 b.1).bind fun f=>(q7e b.1 0 0).bind fun g=>qa5.bind fun l=>(q7f l).bind fun a=>(cond (c.2 == 0) (some (d.2 == 0)) (some false)).bind fun m=>(cond m (some (d.1 == 24)) (some false)).bind fun n=>(cond n (some (b.2 == 0)) (some false)).bind fun o=>(cond o (some (f.2 == 0)) (some false)).bind fun p=>(cond p (some (f.1 == 6)) (some false)).bind fun q=>(cond q (some (g.2 == 0)) (some false)).bind fun r=>cond r ((q2w g.1 [({Lo:=0,Hi:=3} : qi)]).bind fun s=>(cond s (some (a.2 == 0)) (some false)).bind fun t=>(cond t (some ((a.1.2.2.2.2.1.Frame.Turn == 0) && ((a.1.2.2.2.2.1.Frame.At.X == 0) && ((a.1.2.2.2.2.1.Frame.At.Y == 0) && ((a.1.2.2.2.2.1.Frame.At.Z == 4) && ((a.1.2.2.2.2.1.Size.X == 2) && ((a.1.2.2.2.2.1.Size.Y == 3) && ((a.1.2.2.2.2.1.Size.Z == 0) && true)))))))) (some false)).bind fun u=>(cond u (some ((a.1.1.Frame.Turn == 10) && ((a.1.1.Frame.At.X == 2) && ((a.1.1.Frame.At.Y == 0) && ((a.1.1.Frame.At.Z == 0) && ((a.1.1.Size.X == 3) && ((a.1.1.Size.Y == 4) && ((a.1.1.Size.Z == 0) && true)))))))) (some false)).bind fun v=>some v) (some false)
noncomputable def q1r (b : List Qe) (a : Int) : Option ((Int) ⊕ ((Unit) ⊕ (Bool))):=
  cond (decide (a < (b.length : Int))) ((idx b a).bind fun c=>cond (decide ((c.Region.length : Int) > 12)) (some (.inr (.inr true))) (some (.inl (w64 (a + 1))))) (some (.inr (.inl ())))
noncomputable def q7d (a : List Qe) : Option Bool:=
  (loop (q1r a) 0 : Option ((Unit) ⊕ (Bool))).bind fun b=>(match b with | .inl _=>(cond (decide ((a.length : Int) > 12)) (some (decide ((a.length : Int)≤100))) (some false)).bind fun c=>(cond c (some true) (some (decide ((a.length : Int) > 120)))).bind fun d=>some d | .inr f=>some f)
noncomputable def q4l (a : Int) : Option Bool:=
  (cond (decide (a ≥ (-1000000))) (some (decide (a≤1000000))) (some false)).bind fun b=>some b
noncomputable def qam (a : qf) : Option Bool:=
  (cond (decide (a.X0 < a.X1)) (some (decide (a.Y0 < a.Y1))) (some false)).bind fun b=>(cond b ((q4l a.X0).bind fun c=>some c) (some false)).bind fun d=>(cond d ((q4l a.X1).bind fun f=>some f) (some false)).bind fun g=>(cond g ((q4l a.Y0).bind fun h=>some h) (some false)).bind fun j=>(cond j ((q4l a.Y1).bind fun k=>some k) (some false)).bind fun l=>some l
noncomputable def q2y (b : Int × List Int) (c : List Int) (a : Int) : Option ((Int) ⊕ (Int)):=
  (cond (decide (a > 0)) ((idx b.2 (w64 (a - 1))).bind fun d=>(idx c b.1).bind fun f=>some (decide (d > f))) (some false)).bind fun g=>cond g (some (.inl (w64 (a - 1)))) (some (.inr a))
noncomputable def q2x (d : List Int) (a : Int × List Int) : Option ((Int × List Int) ⊕ (List Int)):=
  cond (decide (a.1 < (d.length : Int))) (((loop (q2y a d) (a.2.length : Int)).bind fun c=>(cond (decide (c > 0)) ((idx a.2 (w64 (c - 1))).bind fun h=>(idx d a.1).bind fun j=>some (h == j)) (some false)).bind fun k=>cond k (some a.2) ((app 8 a.2 [0]).bind fun b=>(sub2 b.length (w64 (c + 1)) b.length).bind fun g=>(sub2 b.length c b.length).bind fun f=>(idx d a.1).bind fun l=>(idx (cpyw b g ((b.drop f.1).take f.2)) c).bind fun _=>some ((cpyw b g ((b.drop f.1).take f.2)).set c.toNat l))).bind fun m=>some (.inl (w64 (a.1 + 1),m))) (some (.inr a.2))
noncomputable def Jg (a : List Int) : Option (List Int):=
  (loop (q2x a) (0,[])).bind fun b=>some b
noncomputable def q33 (b : List qf) (a : Int × List Int) : Option ((Int × List Int) ⊕ (List Int)):=
  cond (decide (a.1 < (b.length : Int))) ((idx b a.1).bind fun c=>(idx b a.1).bind fun d=>(app 8 a.2 [c.X0,d.X1]).bind fun f=>some (.inl (w64 (a.1 + 1),f))) (some (.inr a.2))
noncomputable def q34 (b : List qf) (a : Int × List Int) : Option ((Int × List Int) ⊕ (List Int)):=
  cond (decide (a.1 < (b.length : Int))) ((idx b a.1).bind fun c=>(idx b a.1).bind fun d=>(app 8 a.2 [c.X0,d.X1]).bind fun f=>some (.inl (w64 (a.1 + 1),f))) (some (.inr a.2))
noncomputable def q7b (a : List qf) (b : List qf) : Option (List Int):=
  (loop (q33 a) (0,[])).bind fun c=>(loop (q34 b) (0,c)).bind fun d=>(Jg d).bind fun f=>some f
noncomputable def q35 (b : List qf) (a : Int × List Int) : Option ((Int × List Int) ⊕ (List Int)):=
  cond (decide (a.1 < (b.length : Int))) ((idx b a.1).bind fun c=>(idx b a.1).bind fun d=>(app 8 a.2 [c.Y0,d.Y1]).bind fun f=>some (.inl (w64 (a.1 + 1),f))) (some (.inr a.2))
noncomputable def q36 (b : List qf) (a : Int × List Int) : Option ((Int × List Int) ⊕ (List Int)):=
  cond (decide (a.1 < (b.length : Int))) ((idx b a.1).bind fun c=>(idx b a.1).bind fun d=>(app 8 a.2 [c.Y0,d.Y1]).bind fun f=>some (.inl (w64 (a.1 + 1),f))) (some (.inr a.2))
noncomputable def q7c (a : List qf) (b : List qf) : Option (List Int):=
  (loop (q35 a) (0,[])).bind fun c=>(loop (q36 b) (0,c)).bind fun d=>(Jg d).bind fun f=>some f
noncomputable def q1p (b : List qf) (c : Int) (d : Int) (a : Int) : Option ((Int) ⊕ ((Unit) ⊕ (Bool))):=
  cond (decide (a < (b.length : Int))) ((idx b a).bind fun f=>(cond (decide (f.X0≤c)) ((idx b a).bind fun g=>some (decide (c < g.X1))) (some false)).bind fun h=>(cond h ((idx b a).bind fun j=>some (decide (j.Y0≤d))) (some false)).bind fun k=>(cond k ((idx b a).bind fun l=>some (decide (d < l.Y1))) (some false)).bind fun m=>cond m (some (.inr (.inr true))) (some (.inl (w64 (a + 1))))) (some (.inr (.inl ())))
noncomputable def q30 (a : List qf) (b : Int) (c : Int) : Option Bool:=
  (loop (q1p a b c) 0 : Option ((Unit) ⊕ (Bool))).bind fun d=>(match d with | .inl _=>some false | .inr f=>some f)
noncomputable def q4j (c : Int) (a : Bool) (b : Bool) : Option Bool:=
  cond (c == 1) ((cond a (some b) (some false)).bind fun d=>some d) (cond (c == 2) ((cond a (some true) (some b)).bind fun f=>some f) ((cond a (some (!b)) (some false)).bind fun g=>some g))
noncomputable def q2v (b : List Int) (c : List Bool) (a : Int × List qi) : Option ((Int × List qi) ⊕ (List qi)):=
  cond (decide ((w64 (a.1 + 1)) < (b.length : Int))) (((idx c a.1).bind fun d=>cond (!d) (some a.2) ((cond (decide ((a.2.length : Int) > 0)) ((idx a.2 (w64 ((a.2.length : Int) - 1))).bind fun f=>(idx b a.1).bind fun g=>some (f.Hi == g)) (some false)).bind fun h=>cond h ((idx b (w64 (a.1 + 1))).bind fun j=>(idx a.2 (w64 ((a.2.length : Int) - 1))).bind fun k=>some (a.2.set (w64 ((a.2.length : Int) - 1)).toNat ({Lo:=k.Lo,Hi:=j} : qi))) ((idx b a.1).bind fun l=>(idx b (w64 (a.1 + 1))).bind fun m=>(app 16 a.2 [({Lo:=l,Hi:=m} : qi)]).bind fun n=>some n))).bind fun o=>some (.inl (w64 (a.1 + 1),o))) (some (.inr a.2))
noncomputable def q2u (a : List Int) (b : List Bool) : Option (List qi):=
  (loop (q2v a b) (0,[])).bind fun c=>some c
noncomputable def q31 (b : List Int) (c : List Int) (d : List qi × Int × Int × List qf) (f : List qf) (g : List qf) (h : Int) (a : Int × List Bool) : Option ((Int × List Bool) ⊕ (List Bool)):=
  cond (decide (a.1 < (b.length : Int))) ((idx c d.2.2.1).bind fun j=>(idx b a.1).bind fun k=>(q30 f j k).bind fun l=>(idx c d.2.2.1).bind fun m=>(idx b a.1).bind fun n=>(q30 g m n).bind fun o=>(q4j h l o).bind fun p=>(app 1 a.2 [p]).bind fun q=>some (.inl (w64 (a.1 + 1),q))) (some (.inr a.2))
noncomputable def q32 (c : List Int) (d : List qi × Int × Int × List qf) (a : Int × List qf) : Option ((Int × List qf) ⊕ (List qf)):=
  cond (decide (a.1 < (a.2.length : Int))) ((idx c (w64 (d.2.2.1 + 1))).bind fun f=>(idx a.2 a.1).bind fun b=>some (.inl (w64 (a.1 + 1),a.2.set a.1.toNat ({X0:=b.X0,Y0:=b.Y0,X1:=f,Y1:=b.Y1} : qf)))) (some (.inr a.2))
noncomputable def q4m (b : List qi) (d : List Int) (c : List qi × Int × Int × List qf) (a : Int × List qf) : Option ((Int × List qf) ⊕ (List qi × Int × List qf)):=
  cond (decide (a.1 < (b.length : Int))) ((idx d c.2.2.1).bind fun f=>(idx b a.1).bind fun g=>(idx d (w64 (c.2.2.1 + 1))).bind fun h=>(idx b a.1).bind fun j=>(app 32 a.2 [({X0:=f,Y0:=g.Lo,X1:=h,Y1:=j.Hi} : qf)]).bind fun k=>some (.inl (w64 (a.1 + 1),k))) (some (.inr (b,(c.2.2.2.length : Int),a.2)))
noncomputable def q1q (b : List Int) (d : List Int) (g : List qf) (h : List qf) (j : Int) (a : List qi × Int × Int × List qf) : Option ((List qi × Int × Int × List qf) ⊕ (List qf)):=
  cond (decide ((w64 (a.2.2.1 + 1)) < (b.length : Int))) (((loop (q31 d b a g h j) (0,[])).bind fun k=>(q2u d k).bind fun f=>(cond (decide (a.2.2.1 > 0)) ((q2w f a.1).bind fun l=>some l) (some false)).bind fun m=>cond m ((loop (q32 b a) (a.2.1,a.2.2.2)).bind fun n=>some (a.1,a.2.1,n)) ((loop (q4m f b a) (0,a.2.2.2)).bind fun o=>some o)).bind fun c=>some (.inl (c.1,c.2.1,w64 (a.2.2.1 + 1),c.2.2))) (some (.inr a.2.2.2))
noncomputable def q7a (c : Int) (a : List qf) (b : List qf) : Option (List qf):=
  (q7b a b).bind fun d=>(q7c a b).bind fun f=>(loop (q1q d f a b c) ([],0,0,[])).bind fun g=>some g
noncomputable def qal (d : List qf) (f : List qf) (a : Int) : Option ((Int) ⊕ ((Unit) ⊕ (Bool))):=
  cond (decide (a < (d.length : Int))) ((idx d a).bind fun b=>(idx f a).bind fun c=>cond (!((b.X0 == c.X0) && ((b.Y0 == c.Y0) && ((b.X1 == c.X1) && ((b.Y1 == c.Y1) && true))))) (some (.inr (.inr false))) (some (.inl (w64 (a + 1))))) (some (.inr (.inl ())))
noncomputable def q4n (a : List qf) (b : List qf) : Option Bool:=
  cond ((a.length : Int) != (b.length : Int)) (some false) ((loop (qal a b) 0 : Option ((Unit) ⊕ (Bool))).bind fun c=>(match c with | .inl _=>some true | .inr d=>some d))
noncomputable def q2z (b : List qf) (a : Int) : Option ((Int) ⊕ ((Unit) ⊕ (Int))):=
  cond (decide (a < (b.length : Int))) ((idx b a).bind fun c=>(qam c).bind fun d=>cond (!d) (some (.inr (.inr 8))) (some (.inl (w64 (a + 1))))) (some (.inr (.inl ())))
noncomputable def q4k (a : List qf) : Option Int:=
  cond (decide ((a.length : Int) > 400)) (some 4) ((loop (q2z a) 0 : Option ((Unit) ⊕ (Int))).bind fun b=>(match b with | .inl _=>(q7a 2 a []).bind fun c=>(q4n c a).bind fun d=>cond (!d) (some 8) (some 0) | .inr f=>some f))
noncomputable def q4w (c : List qf) (a : Int × Int) : Option ((Int × Int) ⊕ (Int)):=
  cond (decide (a.2 < (c.length : Int))) ((idx c a.2).bind fun b=>some (.inl (w64 (a.1 + (w64 ((w64 (b.X1 - b.X0)) * (w64 (b.Y1 - b.Y0))))),w64 (a.2 + 1)))) (some (.inr a.1))
noncomputable def q4v (a : List qf) : Option (Int × Int):=
  (q3a a).bind fun b=>cond (b != 0) (some (0,b)) ((loop (q4w a) (0,0)).bind fun c=>some (c,0))
noncomputable def q61 (a : qj) (b : qh) : Option Bool:=
  (cond (decide (a.Lo.X≤b.X)) (some (decide (b.X < a.Hi.X))) (some false)).bind fun c=>(cond c (some (decide (a.Lo.Y≤b.Y))) (some false)).bind fun d=>(cond d (some (decide (b.Y < a.Hi.Y))) (some false)).bind fun f=>(cond f (some (decide (a.Lo.Z≤b.Z))) (some false)).bind fun g=>(cond g (some (decide (b.Z < a.Hi.Z))) (some false)).bind fun h=>some h
noncomputable def q8n (a : List qj) (b : qh) : Option Bool:=
  (q3e a (fun c=>q61 c b)).bind fun d=>some d
noncomputable def Jx (b : List Qe) (f : Bool) (c : qh) (a : Int × Int × Bool × Int) : Option ((Int × Int × Bool × Int) ⊕ ((Int × Bool) ⊕ (Bool))):=
  cond (decide (a.2.2.2 < (b.length : Int))) ((idx b a.2.2.2).bind fun g=>(q4k g.Region).bind fun h=>(cond (h != 0) (some true) ((idx b a.2.2.2).bind fun j=>some (decide (j.Height < 1)))).bind fun k=>(cond k (some true) ((idx b a.2.2.2).bind fun l=>some (decide (l.Height > 100)))).bind fun m=>cond m (some (.inr (.inr f))) ((idx b a.2.2.2).bind fun n=>(q4v n.Region).bind fun d=>cond (d.2 != 0) (some (.inr (.inr false))) ((idx b a.2.2.2).bind fun o=>(cond a.2.2.1 (some true) ((cond (decide (a.2.1≤c.Z)) ((idx b a.2.2.2).bind fun p=>some (decide (c.Z < (w64 (a.2.1 + p.Height))))) (some false)).bind fun q=>(cond q ((idx b a.2.2.2).bind fun r=>(q30 r.Region c.X c.Y).bind fun s=>some s) (some false)).bind fun t=>some t)).bind fun u=>(idx b a.2.2.2).bind fun v=>some (.inl (w64 (a.1 + (w64 (d.1 * o.Height))),w64 (a.2.1 + v.Height),u,w64 (a.2.2.2 + 1)))))) (some (.inr (.inl (a.1,a.2.2.1))))
noncomputable def qa4 (a : List Qe) (b : Int) (f : qh) : Option Bool:=
  q2r.bind fun c=>(q7d a).bind fun j=>(cond j (some true) (some (decide ((a.length : Int) > 12)))).bind fun k=>(cond k (some true) (some (decide (b < (-1000))))).bind fun l=>(cond l (some true) (some (decide (b > 1000)))).bind fun m=>(cond m (some true) (some (!c))).bind fun n=>cond n (some c) ((loop (Jx a c f) (0,b,false,0) : Option ((Int × Bool) ⊕ (Bool))).bind fun o=>(match o with | .inl g=>(q1t a b).bind fun d=>(q28 d.1).bind fun h=>(cond c (some (d.2 == 0)) (some false)).bind fun p=>(cond p (some (h.2 == 0)) (some false)).bind fun q=>(cond q (some (h.1 == g.1)) (some false)).bind fun r=>(cond r ((q8n d.1 f).bind fun s=>some (s == g.2)) (some false)).bind fun t=>some t | .inr u=>some u))
noncomputable def qiw (d : List qj) (f : List qj) (c : Int) : Option ((Int) ⊕ ((Unit) ⊕ (Bool))):=
  cond (decide (c < (d.length : Int))) ((idx d c).bind fun a=>(idx f c).bind fun b=>cond (!((a.Lo.X == b.Lo.X) && ((a.Lo.Y == b.Lo.Y) && ((a.Lo.Z == b.Lo.Z) && ((a.Hi.X == b.Hi.X) && ((a.Hi.Y == b.Hi.Y) && ((a.Hi.Z == b.Hi.Z) && true))))))) (some (.inr (.inr false))) (some (.inl (w64 (c + 1))))) (some (.inr (.inl ())))
noncomputable def qru (a : List qj) (b : List qj) : Option Bool:=
  cond ((a.length : Int) != (b.length : Int)) (some false) ((loop (qiw a b) 0 : Option ((Unit) ⊕ (Bool))).bind fun c=>(match c with | .inl _=>some true | .inr d=>some d))
noncomputable def q4p (c : List qj) (a : Int × List qf) : Option ((Int × List qf) ⊕ (List qf)):=
  cond (decide (a.1 < (c.length : Int))) ((idx c a.1).bind fun b=>(app 32 a.2 [({X0:=b.Lo.X,Y0:=b.Lo.Y,X1:=b.Hi.X,Y1:=b.Hi.Y} : qf)]).bind fun d=>some (.inl (w64 (a.1 + 1),d))) (some (.inr a.2))
noncomputable def q7h (a : List qj) : Option (List qf × Int):=
  (q26 a).bind fun b=>cond (b != 0) (some ([],b)) ((loop (q4p a) (0,[])).bind fun d=>(q3b d).bind fun c=>some (c.1,c.2))
noncomputable def qit (a : qi) : Option Bool:=
  (cond (decide (a.Lo < a.Hi)) (some (decide (a.Lo ≥ (-1000000)))) (some false)).bind fun b=>(cond b (some (decide (a.Hi≤1000000))) (some false)).bind fun c=>some c
noncomputable def qdm (b : List qi) (a : Int) : Option ((Int) ⊕ ((Unit) ⊕ (Int))):=
  cond (decide (a < (b.length : Int))) ((idx b a).bind fun c=>(qit c).bind fun d=>(cond (!d) (some true) ((cond (decide (a > 0)) ((idx b (w64 (a - 1))).bind fun f=>(idx b a).bind fun g=>some (decide (f.Hi ≥ g.Lo))) (some false)).bind fun h=>some h)).bind fun j=>cond j (some (.inr (.inr 8))) (some (.inl (w64 (a + 1))))) (some (.inr (.inl ())))
noncomputable def qag (a : List qi) : Option Int:=
  cond (decide ((a.length : Int) > 400)) (some 4) ((loop (qdm a) 0 : Option ((Unit) ⊕ (Int))).bind fun b=>(match b with | .inl _=>some 0 | .inr c=>some c))
noncomputable def q76 (b : List qi) (c : Int) (a : Int) : Option ((Int) ⊕ ((Unit) ⊕ (Bool))):=
  cond (decide (a < (b.length : Int))) ((idx b a).bind fun d=>(cond (decide (d.Lo≤c)) ((idx b a).bind fun f=>some (decide (c < f.Hi))) (some false)).bind fun g=>cond g (some (.inr (.inr true))) (some (.inl (w64 (a + 1))))) (some (.inr (.inl ())))
noncomputable def qah (a : List qi) (b : Int) : Option Bool:=
  (loop (q76 a b) 0 : Option ((Unit) ⊕ (Bool))).bind fun c=>(match c with | .inl _=>some false | .inr d=>some d)
noncomputable def q78 (b : List qi) (a : Int × Int) : Option ((Int × Int) ⊕ (Int)):=
  cond (decide (a.2 < (b.length : Int))) ((idx b a.2).bind fun c=>(idx b a.2).bind fun d=>some (.inl (w64 ((w64 (a.1 + c.Hi)) - d.Lo),w64 (a.2 + 1)))) (some (.inr a.1))
noncomputable def qiq (a : List qi) : Option (Int × Int):=
  (qag a).bind fun b=>cond (b != 0) ((qag a).bind fun c=>some (0,c)) ((loop (q78 a) (0,0)).bind fun d=>some (d,0))
noncomputable def qb4 (c : List qj) (d : Int) (a : Int × List qf) : Option ((Int × List qf) ⊕ (List qf)):=
  cond (decide (a.1 < (c.length : Int))) (((idx c a.1).bind fun b=>(cond (decide (b.Lo.Z≤d)) (some (decide (d < b.Hi.Z))) (some false)).bind fun f=>cond f ((app 32 a.2 [({X0:=b.Lo.X,Y0:=b.Lo.Y,X1:=b.Hi.X,Y1:=b.Hi.Y} : qf)]).bind fun g=>some g) (some a.2)).bind fun h=>some (.inl (w64 (a.1 + 1),h))) (some (.inr a.2))
noncomputable def q8o (a : List qj) (c : Int) : Option (List qf × Int):=
  (q26 a).bind fun b=>cond (b != 0) (some ([],b)) ((loop (qb4 a c) (0,[])).bind fun d=>some (d,0))
noncomputable def q6x (a : List qf) (b : Int) (c : Int) (f : Int) : Option Bool:=
  q2r.bind fun g=>(cond (decide ((a.length : Int) > 60)) (some true) ((q4k a).bind fun m=>some (m != 0))).bind fun n=>(cond n (some true) (some (decide (b < (-1000))))).bind fun o=>(cond o (some true) (some (decide (c > 1000)))).bind fun p=>(cond p (some true) (some (decide (b > f)))).bind fun q=>(cond q (some true) (some (decide (f ≥ c)))).bind fun r=>(cond r (some true) (some (!g))).bind fun s=>cond s (some g) ((q37 a b c).bind fun d=>(q28 d.1).bind fun h=>(q4v a).bind fun j=>(q7h d.1).bind fun k=>(q8o d.1 f).bind fun l=>(cond g (some (d.2 == 0)) (some false)).bind fun t=>(cond t (some (h.2 == 0)) (some false)).bind fun u=>(cond u (some (j.2 == 0)) (some false)).bind fun v=>(cond v (some (h.1 == (w64 (j.1 * (w64 (c - b)))))) (some false)).bind fun w=>(cond w (some (k.2 == 0)) (some false)).bind fun x=>(cond x ((q4n k.1 a).bind fun y=>some y) (some false)).bind fun z=>(cond z (some (l.2 == 0)) (some false)).bind fun aa=>(cond aa ((q4n l.1 a).bind fun ab=>some ab) (some false)).bind fun ac=>some ac)
noncomputable def q3s (b : List qi) (a : Int) : Option ((Int) ⊕ ((Unit) ⊕ (Int))):=
  cond (decide (a < (b.length : Int))) ((idx b a).bind fun c=>(q2b c).bind fun d=>(cond (!d) (some true) ((cond (decide (a > 0)) ((idx b (w64 (a - 1))).bind fun f=>some (decide (f.Hi ≥ c.Lo))) (some false)).bind fun g=>some g)).bind fun h=>cond h (some (.inr (.inr 8))) (some (.inl (w64 (a + 1))))) (some (.inr (.inl ())))
noncomputable def qb7 (a : List qi) : Option Int:=
  cond (decide ((a.length : Int) > 400)) (some 4) ((loop (q3s a) 0 : Option ((Unit) ⊕ (Int))).bind fun b=>(match b with | .inl _=>some 0 | .inr c=>some c))
noncomputable def q75 (b : List qi) (a : Int × List Int) : Option ((Int × List Int) ⊕ (List Int)):=
  cond (decide (a.1 < (b.length : Int))) ((idx b a.1).bind fun c=>(idx b a.1).bind fun d=>(app 8 a.2 [c.Lo,d.Hi]).bind fun f=>some (.inl (w64 (a.1 + 1),f))) (some (.inr a.2))
noncomputable def qio (b : List qi) (a : Int × List Int) : Option ((Int × List Int) ⊕ (List Int)):=
  cond (decide (a.1 < (b.length : Int))) ((idx b a.1).bind fun c=>(idx b a.1).bind fun d=>(app 8 a.2 [c.Lo,d.Hi]).bind fun f=>some (.inl (w64 (a.1 + 1),f))) (some (.inr a.2))
noncomputable def qdn (a : List qi) (b : List qi) : Option (List Int):=
  (loop (q75 a) (0,[])).bind fun c=>(loop (qio b) (0,c)).bind fun d=>(Jg d).bind fun f=>some f
noncomputable def q77 (b : List Int) (c : List qi) (d : List qi) (f : Int) (a : Int × List Bool) : Option ((Int × List Bool) ⊕ (List Bool)):=
  cond (decide (a.1 < (b.length : Int))) ((idx b a.1).bind fun g=>(qah c g).bind fun h=>(idx b a.1).bind fun j=>(qah d j).bind fun k=>(q4j f h k).bind fun l=>(app 1 a.2 [l]).bind fun m=>some (.inl (w64 (a.1 + 1),m))) (some (.inr a.2))
noncomputable def qai (d : Int) (a : List qi) (b : List qi) : Option (List qi):=
  (qdn a b).bind fun c=>(loop (q77 c a b d) (0,[])).bind fun f=>(q2u c f).bind fun g=>some g
noncomputable def q8s (b : List qi) (a : Int × Int) : Option ((Int × Int) ⊕ (Int)):=
  cond (decide (a.2 < (b.length : Int))) ((idx b a.2).bind fun c=>some (.inl (w64 (a.1 + (w64 (c.Hi - c.Lo))),w64 (a.2 + 1)))) (some (.inr a.1))
noncomputable def qk7 (a : List qi) : Option (Int × Int):=
  (qb7 a).bind fun b=>cond (b != 0) (some (0,b)) ((loop (q8s a) (0,0)).bind fun c=>some (c,0))
noncomputable def qiv (a : qj) (b : qh) : Option Bool:=
  (cond (decide (a.Lo.X≤b.X)) (some (decide (b.X < a.Hi.X))) (some false)).bind fun c=>(cond c (some (decide (a.Lo.Y≤b.Y))) (some false)).bind fun d=>(cond d (some (decide (b.Y < a.Hi.Y))) (some false)).bind fun f=>(cond f (some (decide (a.Lo.Z≤b.Z))) (some false)).bind fun g=>(cond g (some (decide (b.Z < a.Hi.Z))) (some false)).bind fun h=>some h
end Go.Sh
