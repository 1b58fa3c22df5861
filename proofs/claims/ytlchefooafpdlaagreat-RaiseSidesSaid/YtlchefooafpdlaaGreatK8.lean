/- PX -/
import Derived.Test.YtlchefooafpdlaaGreatK7
namespace Go.Sh
open Go Go.Am
structure ql where
  X0 : Int
  Y0 : Int
  X1 : Int
  Y1 : Int
  deriving DecidableEq
structure K4 where
  Region : List ql
  Height : Int
  deriving DecidableEq
def qu (x : ql) : List DV:=[.int .i64 x.X0,.int .i64 x.Y0,.int .i64 x.X1,.int .i64 x.Y1]
def Jk (x : K4) : List DV:=[.sl 4 (x.Region.map qu),.int .i64 x.Height]
structure qi where
  X : Int
  Y : Int
  Z : Int
  deriving DecidableEq
noncomputable def q2g (a : Int) (b : Int) (c : Int) (d : Int) : Option (List ql):=
  some [({X0:=a,Y0:=b,X1:=c,Y1:=d} : ql)]
structure qk where
  Lo : qi
  Hi : qi
  deriving DecidableEq
noncomputable def q3o (b : List ql) (c : ql→Option Bool) (a : Int) : Option ((Int) ⊕ ((Unit) ⊕ (Int))):=
  cond (decide (a < (b.length : Int))) ((idx b a).bind fun d=>(c d).bind fun f=>cond f (some (.inr (.inr a))) (some (.inl (w64 (a + 1))))) (some (.inr (.inl ())))
noncomputable def qbs (a : List ql) (b : ql→Option Bool) : Option Int:=
  (loop (q3o a b) 0 : Option ((Unit) ⊕ (Int))).bind fun c=>(match c with | .inl _=>some (-1) | .inr d=>some d)
noncomputable def q8e (a : List ql) (b : ql→Option Bool) : Option Bool:=
  (qbs a b).bind fun c=>some (decide (c ≥ 0))
noncomputable def q2n (a : Int) : Option Bool:=
  (cond (decide (a ≥ (-1000000))) (some (decide (a≤1000000))) (some false)).bind fun b=>some b
noncomputable def q5j (a : ql) : Option Bool:=
  (cond (decide (a.X0 < a.X1)) (some (decide (a.Y0 < a.Y1))) (some false)).bind fun b=>(cond b ((q2n a.X0).bind fun c=>some c) (some false)).bind fun d=>(cond d ((q2n a.X1).bind fun f=>some f) (some false)).bind fun g=>(cond g ((q2n a.Y0).bind fun h=>some h) (some false)).bind fun j=>(cond j ((q2n a.Y1).bind fun k=>some k) (some false)).bind fun l=>some l
noncomputable def q2l (a : ql) : Option Bool:=
  (q5j a).bind fun b=>some (!b)
def Ke (x : List ql) : List DV:=[.sl 4 (x.map qu)]
def qc8 : ByteArray:=⟨#[0,1,2,2,3,3,3,3,4,4,4,4,4,4,4,4,5,5,5,5,5,5,5,5,5,5,5,5,5,5,5,5,6,6,6,6,6,6,6,6,6,6,6,6,6,6,6,6,6,6,6,6,6,6,6,6,6,6,6,6,6,6,6,6,7,7,7,7,7,7,7,7,7,7,7,7,7,7,7,7,7,7,7,7,7,7,7,7,7,7,7,7,7,7,7,7,7,7,7,7,7,7,7,7,7,7,7,7,7,7,7,7,7,7,7,7,7,7,7,7,7,7,7,7,7,7,7,7,8,8,8,8,8,8,8,8,8,8,8,8,8,8,8,8,8,8,8,8,8,8,8,8,8,8,8,8,8,8,8,8,8,8,8,8,8,8,8,8,8,8,8,8,8,8,8,8,8,8,8,8,8,8,8,8,8,8,8,8,8,8,8,8,8,8,8,8,8,8,8,8,8,8,8,8,8,8,8,8,8,8,8,8,8,8,8,8,8,8,8,8,8,8,8,8,8,8,8,8,8,8,8,8,8,8,8,8,8,8,8,8,8,8,8,8,8,8,8,8,8,8,8,8,8,8,8,8]⟩
noncomputable def q2h (c : Int) : Option Int:=
  (cond (decide (c ≥ 4294967296)) (some (Int.fdiv c (2 ^ 32),32)) (some (c,0))).bind fun a=>(cond (decide (a.1 ≥ 65536)) (some (Int.fdiv a.1 (2 ^ 16),w64 (a.2 + 16))) (some (a.1,a.2))).bind fun b=>(cond (decide (b.1 ≥ 256)) (some (Int.fdiv b.1 (2 ^ 8),w64 (b.2 + 8))) (some (b.1,b.2))).bind fun d=>(q45 qc8 (IntKind.wrap .u8 d.1)).bind fun f=>some (w64 (d.2 + (w64 f)))
noncomputable def Uk (a : Int) : Option Int:=
  (q2h a).bind fun b=>some b
noncomputable def q74 (a : Int) : Option Bool:=
  some (a != a)
noncomputable def Yv (a : Int) (b : Int) : Option Bool:=
  (q74 a).bind fun c=>(cond c ((q74 b).bind fun d=>some (!d)) (some false)).bind fun f=>(cond f (some true) (some (decide (a < b)))).bind fun g=>some g
noncomputable def q5x (c : Int) (a : Int × List Int) : Option ((Int × List Int) ⊕ (List Int)):=
  (cond (decide (a.1 > c)) ((idx a.2 a.1).bind fun d=>(idx a.2 (w64 (a.1 - 1))).bind fun f=>(Yv d f).bind fun g=>some g) (some false)).bind fun h=>cond h ((idx a.2 (w64 (a.1 - 1))).bind fun b=>(idx a.2 a.1).bind fun j=>(idx a.2 a.1).bind fun _=>(idx (a.2.set a.1.toNat b) (w64 (a.1 - 1))).bind fun _=>some (.inl (w64 (a.1 - 1),(a.2.set a.1.toNat b).set (w64 (a.1 - 1)).toNat j))) (some (.inr a.2))
noncomputable def q5w (b : Int) (c : Int) (a : Int × List Int) : Option ((Int × List Int) ⊕ (List Int)):=
  cond (decide (a.1 < b)) (((loop (q5x c) (a.1,a.2)).bind fun d=>some d).bind fun f=>some (.inl (w64 (a.1 + 1),f))) (some (.inr a.2))
noncomputable def q5v (b : List Int) (a : Int) (c : Int) : Option (List Int):=
  (loop (q5w c a) (w64 (a + 1),b)).bind fun d=>some d
noncomputable def q6j (d : Int) (b : Int) (a : Int × List Int) : Option ((Int × List Int) ⊕ (List Int)):=
  cond (decide ((w64 ((w64 (2 * a.1)) + 1)) ≥ d)) (some (.inr a.2)) ((cond (decide ((w64 ((w64 ((w64 (2 * a.1)) + 1)) + 1)) < d)) ((idx a.2 (w64 (b + (w64 ((w64 (2 * a.1)) + 1))))).bind fun g=>(idx a.2 (w64 ((w64 (b + (w64 ((w64 (2 * a.1)) + 1)))) + 1))).bind fun h=>(Yv g h).bind fun j=>some j) (some false)).bind fun k=>(cond k (some (w64 ((w64 ((w64 (2 * a.1)) + 1)) + 1))) (some (w64 ((w64 (2 * a.1)) + 1)))).bind fun c=>(idx a.2 (w64 (b + a.1))).bind fun l=>(idx a.2 (w64 (b + c))).bind fun m=>(Yv l m).bind fun n=>cond (!n) (some (.inr a.2)) ((idx a.2 (w64 (b + c))).bind fun f=>(idx a.2 (w64 (b + a.1))).bind fun o=>(idx a.2 (w64 (b + a.1))).bind fun _=>(idx (a.2.set (w64 (b + a.1)).toNat f) (w64 (b + c))).bind fun _=>some (.inl (c,(a.2.set (w64 (b + a.1)).toNat f).set (w64 (b + c)).toNat o))))
noncomputable def q3y (a : List Int) (b : Int) (c : Int) (d : Int) : Option (List Int):=
  (loop (q6j c d) (b,a)).bind fun f=>some f
noncomputable def q5t (d : Int) (b : Int) (a : Int × List Int) : Option ((Int × List Int) ⊕ (List Int)):=
  cond (decide (a.1 ≥ 0)) ((q3y a.2 a.1 (w64 (d - b)) b).bind fun c=>(Qr c.length a.2.length).bind fun _=>some (.inl (w64 (a.1 - 1),c))) (some (.inr a.2))
noncomputable def q5u (b : Int) (a : Int × List Int) : Option ((Int × List Int) ⊕ (List Int)):=
  cond (decide (a.1 ≥ 0)) ((idx a.2 (w64 (b + a.1))).bind fun c=>(idx a.2 b).bind fun d=>(idx a.2 b).bind fun _=>(idx (a.2.set b.toNat c) (w64 (b + a.1))).bind fun _=>(q3y ((a.2.set b.toNat c).set (w64 (b + a.1)).toNat d) 0 a.1 b).bind fun f=>(Qr f.length ((a.2.set b.toNat c).set (w64 (b + a.1)).toNat d).length).bind fun _=>some (.inl (w64 (a.1 - 1),f))) (some (.inr a.2))
noncomputable def q5s (c : List Int) (a : Int) (b : Int) : Option (List Int):=
  (loop (q5t b a) (w64 (Int.tdiv (w64 ((w64 (b - a)) - 1)) 2),c)).bind fun d=>(loop (q5u a) (w64 ((w64 (b - a)) - 1),d)).bind fun f=>some f
noncomputable def q2t (c : List Int) (a : Int) (b : Int) (d : Int) : Option (Int × Int × Int):=
  (idx c b).bind fun f=>(idx c a).bind fun g=>(Yv f g).bind fun h=>cond h (some (b,a,w64 (d + 1))) (some (a,b,d))
noncomputable def q3s (a : List Int) (f : Int) (g : Int) (h : Int) (j : Int) : Option (Int × Int):=
  (q2t a f g j).bind fun b=>(q2t a b.2.1 h b.2.2).bind fun c=>(q2t a b.1 c.1 c.2.2).bind fun d=>some (d.2.1,d.2.2)
noncomputable def q2s (c : List Int) (a : Int) (d : Int) : Option (Int × Int):=
  (q3s c (w64 (a - 1)) a (w64 (a + 1)) d).bind fun b=>some (b.1,b.2)
noncomputable def q5r (d : List Int) (a : Int) (b : Int) : Option (Int × Int):=
  (cond (decide ((w64 (b - a)) ≥ 8)) ((cond (decide ((w64 (b - a)) ≥ 50)) ((q2s d (w64 (a + (w64 ((w64 (Int.tdiv (w64 (b - a)) 4)) * 1)))) 0).bind fun g=>(q2s d (w64 (a + (w64 ((w64 (Int.tdiv (w64 (b - a)) 4)) * 2)))) g.2).bind fun h=>(q2s d (w64 (a + (w64 ((w64 (Int.tdiv (w64 (b - a)) 4)) * 3)))) h.2).bind fun j=>some (g.1,h.1,j.1,j.2)) (some (w64 (a + (w64 ((w64 (Int.tdiv (w64 (b - a)) 4)) * 1))),w64 (a + (w64 ((w64 (Int.tdiv (w64 (b - a)) 4)) * 2))),w64 (a + (w64 ((w64 (Int.tdiv (w64 (b - a)) 4)) * 3))),0))).bind fun f=>(q3s d f.1 f.2.1 f.2.2.1 f.2.2.2).bind fun k=>some (k.1,k.2)) (some (w64 (a + (w64 ((w64 (Int.tdiv (w64 (b - a)) 4)) * 2))),0))).bind fun c=>cond (c.2 == 0) (some (c.1,1)) (cond (c.2 == 12) (some (c.1,2)) (some (c.1,0)))
noncomputable def q99 (a : Int × Int × List Int) : Option ((Int × Int × List Int) ⊕ (List Int)):=
  cond (decide (a.1 < a.2.1)) ((idx a.2.2 a.2.1).bind fun b=>(idx a.2.2 a.1).bind fun c=>(idx a.2.2 a.1).bind fun _=>(idx (a.2.2.set a.1.toNat b) a.2.1).bind fun _=>some (.inl (w64 (a.1 + 1),w64 (a.2.1 - 1),(a.2.2.set a.1.toNat b).set a.2.1.toNat c))) (some (.inr a.2.2))
noncomputable def q6h (a : List Int) (b : Int) (c : Int) : Option (List Int):=
  (loop q99 (b,w64 (c - 1),a)).bind fun d=>some d
noncomputable def q61 (c : Int) (b : Int × Int × List Int) (a : Int) : Option ((Int) ⊕ (Int)):=
  (cond (decide (a < c)) ((idx b.2.2 a).bind fun d=>(idx b.2.2 (w64 (a - 1))).bind fun f=>(Yv d f).bind fun g=>some (!g)) (some false)).bind fun h=>cond h (some (.inl (w64 (a + 1)))) (some (.inr a))
noncomputable def q8w (a : Int × List Int) : Option ((Int × List Int) ⊕ (List Int)):=
  cond (decide (a.1 ≥ 1)) ((idx a.2 a.1).bind fun c=>(idx a.2 (w64 (a.1 - 1))).bind fun d=>(Yv c d).bind fun f=>cond (!f) (some (.inr a.2)) ((idx a.2 (w64 (a.1 - 1))).bind fun b=>(idx a.2 a.1).bind fun g=>(idx a.2 a.1).bind fun _=>(idx (a.2.set a.1.toNat b) (w64 (a.1 - 1))).bind fun _=>some (.inl (w64 (a.1 - 1),(a.2.set a.1.toNat b).set (w64 (a.1 - 1)).toNat g)))) (some (.inr a.2))
noncomputable def q62 (d : Int) (b : Int) (a : Int × List Int) : Option ((Int × List Int) ⊕ (Int × List Int)):=
  cond (decide (a.1 < d)) ((idx a.2 a.1).bind fun f=>(idx a.2 (w64 (a.1 - 1))).bind fun g=>(Yv f g).bind fun h=>cond (!h) (some (.inr (b,a.2))) ((idx a.2 (w64 (a.1 - 1))).bind fun c=>(idx a.2 a.1).bind fun j=>(idx a.2 a.1).bind fun _=>(idx (a.2.set a.1.toNat c) (w64 (a.1 - 1))).bind fun _=>some (.inl (w64 (a.1 + 1),(a.2.set a.1.toNat c).set (w64 (a.1 - 1)).toNat j)))) (some (.inr (b,a.2)))
noncomputable def q3v (c : Int) (g : Int) (b : Int × Int × List Int) : Option ((Int × Int × List Int) ⊕ ((List Int) ⊕ (Bool × List Int))):=
  cond (decide (b.2.1 < 5)) (((loop (q61 c b) b.1).bind fun a=>cond (a == c) (some (.inr (true,b.2.2))) (cond (decide ((w64 (c - g)) < 50)) (some (.inr (false,b.2.2))) ((idx b.2.2 (w64 (a - 1))).bind fun d=>(idx b.2.2 a).bind fun h=>(idx b.2.2 a).bind fun _=>(idx (b.2.2.set a.toNat d) (w64 (a - 1))).bind fun _=>(cond (decide ((w64 (a - g)) ≥ 2)) ((loop q8w (w64 (a - 1),(b.2.2.set a.toNat d).set (w64 (a - 1)).toNat h)).bind fun f=>some f) (some ((b.2.2.set a.toNat d).set (w64 (a - 1)).toNat h))).bind fun j=>cond (decide ((w64 (c - a)) ≥ 2)) ((loop (q62 c a) (w64 (a + 1),j)).bind fun f=>some (.inl f)) (some (.inl (a,j))))) : Option ((Int × List Int) ⊕ (Bool × List Int))).bind fun l=>(match l with | .inl k=>some (.inl (k.1,w64 (b.2.1 + 1),k.2)) | .inr m=>some (.inr (.inr m)))) (some (.inr (.inl b.2.2)))
noncomputable def q3u (b : List Int) (a : Int) (c : Int) : Option (Bool × List Int):=
  (loop (q3v c a) (w64 (a + 1),0,b) : Option ((List Int) ⊕ (Bool × List Int))).bind fun d=>(match d with | .inl f=>some (false,f) | .inr g=>some g)
noncomputable def q65 (b : Int × Int × List Int) (c : Int) (a : Int) : Option ((Int) ⊕ (Int)):=
  (cond (decide (a≤b.2.1)) ((idx b.2.2 c).bind fun d=>(idx b.2.2 a).bind fun f=>(Yv d f).bind fun g=>some (!g)) (some false)).bind fun h=>cond h (some (.inl (w64 (a + 1)))) (some (.inr a))
noncomputable def q66 (c : Int) (b : Int × Int × List Int) (d : Int) (a : Int) : Option ((Int) ⊕ (Int)):=
  (cond (decide (c≤a)) ((idx b.2.2 d).bind fun f=>(idx b.2.2 a).bind fun g=>(Yv f g).bind fun h=>some h) (some false)).bind fun j=>cond j (some (.inl (w64 (a - 1)))) (some (.inr a))
noncomputable def q64 (d : Int) (a : Int × Int × List Int) : Option ((Int × Int × List Int) ⊕ (Int × List Int)):=
  (loop (q65 a d) a.1).bind fun b=>(loop (q66 b a d) a.2.1).bind fun c=>cond (decide (b > c)) (some (.inr (b,a.2.2))) ((idx a.2.2 c).bind fun f=>(idx a.2.2 b).bind fun g=>(idx a.2.2 b).bind fun _=>(idx (a.2.2.set b.toNat f) c).bind fun _=>some (.inl (w64 (b + 1),w64 (c - 1),(a.2.2.set b.toNat f).set c.toNat g)))
noncomputable def q63 (b : List Int) (a : Int) (g : Int) (c : Int) : Option (Int × List Int):=
  (idx b c).bind fun d=>(idx b a).bind fun h=>(idx b a).bind fun _=>(idx (b.set a.toNat d) c).bind fun _=>(loop (q64 a) (w64 (a + 1),w64 (g - 1),(b.set a.toNat d).set c.toNat h)).bind fun f=>some (f.1,f.2)
noncomputable def q68 (h : Int) (c : List Int) (b : Int) (d : Int) (f : Int) (g : Int) (a : Int) : Option ((Int) ⊕ (Int)):=
  (cond (decide (a≤(w64 (h - 1)))) ((idx ((c.set b.toNat d).set f.toNat g) a).bind fun j=>(idx ((c.set b.toNat d).set f.toNat g) b).bind fun k=>(Yv j k).bind fun l=>some l) (some false)).bind fun m=>cond m (some (.inl (w64 (a + 1)))) (some (.inr a))
noncomputable def q69 (h : Int) (c : List Int) (b : Int) (d : Int) (f : Int) (g : Int) (a : Int) : Option ((Int) ⊕ (Int)):=
  (cond (decide (h≤a)) ((idx ((c.set b.toNat d).set f.toNat g) a).bind fun j=>(idx ((c.set b.toNat d).set f.toNat g) b).bind fun k=>(Yv j k).bind fun l=>some (!l)) (some false)).bind fun m=>cond m (some (.inl (w64 (a - 1)))) (some (.inr a))
noncomputable def q6b (b : Int × Int × List Int) (c : Int) (a : Int) : Option ((Int) ⊕ (Int)):=
  (cond (decide (a≤b.2.1)) ((idx b.2.2 a).bind fun d=>(idx b.2.2 c).bind fun f=>(Yv d f).bind fun g=>some g) (some false)).bind fun h=>cond h (some (.inl (w64 (a + 1)))) (some (.inr a))
noncomputable def q6c (c : Int) (b : Int × Int × List Int) (d : Int) (a : Int) : Option ((Int) ⊕ (Int)):=
  (cond (decide (c≤a)) ((idx b.2.2 a).bind fun f=>(idx b.2.2 d).bind fun g=>(Yv f g).bind fun h=>some (!h)) (some false)).bind fun j=>cond j (some (.inl (w64 (a - 1)))) (some (.inr a))
noncomputable def q6a (d : Int) (a : Int × Int × List Int) : Option ((Int × Int × List Int) ⊕ (Int × List Int)):=
  (loop (q6b a d) a.1).bind fun b=>(loop (q6c b a d) a.2.1).bind fun c=>cond (decide (b > c)) (some (.inr (c,a.2.2))) ((idx a.2.2 c).bind fun f=>(idx a.2.2 b).bind fun g=>(idx a.2.2 b).bind fun _=>(idx (a.2.2.set b.toNat f) c).bind fun _=>some (.inl (w64 (b + 1),w64 (c - 1),(a.2.2.set b.toNat f).set c.toNat g)))
noncomputable def q67 (b : List Int) (a : Int) (k : Int) (c : Int) : Option (Int × Bool × List Int):=
  (idx b c).bind fun d=>(idx b a).bind fun f=>(idx b a).bind fun _=>(idx (b.set a.toNat d) c).bind fun _=>(loop (q68 k b a d c f) (w64 (a + 1))).bind fun j=>(loop (q69 j b a d c f) (w64 (k - 1))).bind fun g=>cond (decide (j > g)) ((idx ((b.set a.toNat d).set c.toNat f) a).bind fun l=>(idx ((b.set a.toNat d).set c.toNat f) g).bind fun o=>(idx ((b.set a.toNat d).set c.toNat f) g).bind fun _=>(idx (((b.set a.toNat d).set c.toNat f).set g.toNat l) a).bind fun _=>some (g,true,(((b.set a.toNat d).set c.toNat f).set g.toNat l).set a.toNat o)) ((idx ((b.set a.toNat d).set c.toNat f) g).bind fun m=>(idx ((b.set a.toNat d).set c.toNat f) j).bind fun p=>(idx ((b.set a.toNat d).set c.toNat f) j).bind fun _=>(idx (((b.set a.toNat d).set c.toNat f).set j.toNat m) g).bind fun _=>(loop (q6a a) (w64 (j + 1),w64 (g - 1),(((b.set a.toNat d).set c.toNat f).set j.toNat m).set g.toNat p)).bind fun h=>(idx h.2 a).bind fun n=>(idx h.2 h.1).bind fun q=>(idx h.2 h.1).bind fun _=>(idx (h.2.set h.1.toNat n) a).bind fun _=>some (h.1,false,(h.2.set h.1.toNat n).set a.toNat q))
noncomputable def q1k (a : Int) : Option Int:=
  (Uk (IntKind.wrap .u64 a)).bind fun b=>(shlK .u64 1 b).bind fun c=>some c
noncomputable def q1l (a : Int) : Option Int:=
  some (xorI .u64 (xorI .u64 (xorI .u64 a (IntKind.wrap .u64 (a * (2 ^ 13)))) (Int.fdiv (xorI .u64 a (IntKind.wrap .u64 (a * (2 ^ 13)))) (2 ^ 7))) (IntKind.wrap .u64 ((xorI .u64 (xorI .u64 a (IntKind.wrap .u64 (a * (2 ^ 13)))) (Int.fdiv (xorI .u64 a (IntKind.wrap .u64 (a * (2 ^ 13)))) (2 ^ 7))) * (2 ^ 17))))
noncomputable def q5q (b : Int) (d : Int) (f : Int) (a : Int × List Int × Int) : Option ((Int × List Int × Int) ⊕ (List Int)):=
  cond (decide (a.1≤(w64 ((w64 (b + (w64 ((w64 (Int.tdiv (w64 (d - b)) 4)) * 2)))) + 1)))) ((q1l a.2.2).bind fun c=>(cond (decide ((w64 (andI .u64 c (IntKind.wrap .u64 (f - 1)))) ≥ (w64 (d - b)))) (some (w64 ((w64 (andI .u64 c (IntKind.wrap .u64 (f - 1)))) - (w64 (d - b))))) (some (w64 (andI .u64 c (IntKind.wrap .u64 (f - 1)))))).bind fun g=>(idx a.2.1 (w64 (b + g))).bind fun h=>(idx a.2.1 a.1).bind fun j=>(idx a.2.1 a.1).bind fun _=>(idx (a.2.1.set a.1.toNat h) (w64 (b + g))).bind fun _=>some (.inl (w64 (a.1 + 1),(a.2.1.set a.1.toNat h).set (w64 (b + g)).toNat j,c))) (some (.inr a.2.1))
noncomputable def q5p (c : List Int) (a : Int) (b : Int) : Option (List Int):=
  cond (decide ((w64 (b - a)) ≥ 8)) ((q1k (w64 (b - a))).bind fun d=>(loop (q5q a b d) (w64 ((w64 (a + (w64 ((w64 (Int.tdiv (w64 (b - a)) 4)) * 2)))) - 1),c,IntKind.wrap .u64 (w64 (b - a)))).bind fun f=>some f) (some c)
noncomputable def q3w (rec : List Int→Int→Int→Int→Option (List Int)) (a : Int × Int × Int × Bool × Bool × List Int) : Option ((Int × Int × Int × Bool × Bool × List Int) ⊕ (List Int)):=
  cond (decide ((w64 (a.2.1 - a.1))≤12)) ((q5v a.2.2.2.2.2 a.1 a.2.1).bind fun k=>(Qr k.length a.2.2.2.2.2.length).bind fun _=>some (.inr k)) (cond (a.2.2.1 == 0) ((q5s a.2.2.2.2.2 a.1 a.2.1).bind fun l=>(Qr l.length a.2.2.2.2.2.length).bind fun _=>some (.inr l)) ((cond (!a.2.2.2.1) ((q5p a.2.2.2.2.2 a.1 a.2.1).bind fun m=>(Qr m.length a.2.2.2.2.2.length).bind fun _=>some (w64 (a.2.2.1 - 1),m)) (some (a.2.2.1,a.2.2.2.2.2))).bind fun c=>(q5r c.2 a.1 a.2.1).bind fun g=>(cond (g.2 == 2) ((q6h c.2 a.1 a.2.1).bind fun n=>(Qr n.length c.2.length).bind fun _=>some (w64 ((w64 (a.2.1 - 1)) - (w64 (g.1 - a.1))),1,n)) (some (g.1,g.2,c.2))).bind fun d=>(cond a.2.2.2.1 (some a.2.2.2.2.1) (some false)).bind fun q=>(cond q (some (d.2.1 == 1)) (some false)).bind fun r=>(cond r ((q3u d.2.2 a.1 a.2.1).bind fun h=>(Qr h.2.length d.2.2.length).bind fun _=>cond h.1 (some (.inr h.2)) (some (.inl h.2))) (some (.inl d.2.2)) : Option ((List Int) ⊕ (List Int))).bind fun s=>(match s with | .inl f=>(cond (decide (a.1 > 0)) ((idx f (w64 (a.1 - 1))).bind fun t=>(idx f d.1).bind fun u=>(Yv t u).bind fun v=>some (!v)) (some false)).bind fun w=>cond w ((q63 f a.1 a.2.1 d.1).bind fun j=>(Qr j.2.length f.length).bind fun _=>some (.inl (j.1,a.2.1,c.1,a.2.2.2.1,a.2.2.2.2.1,j.2))) ((q67 f a.1 a.2.1 d.1).bind fun b=>(Qr b.2.2.length f.length).bind fun _=>cond (decide ((w64 (b.1 - a.1)) < (w64 (a.2.1 - b.1)))) ((rec b.2.2 a.1 b.1 c.1).bind fun o=>(Qr o.length b.2.2.length).bind fun _=>some (.inl (w64 (b.1 + 1),a.2.1,c.1,decide ((w64 (b.1 - a.1)) ≥ (w64 (Int.tdiv (w64 (a.2.1 - a.1)) 8))),b.2.1,o))) ((rec b.2.2 (w64 (b.1 + 1)) a.2.1 c.1).bind fun p=>(Qr p.length b.2.2.length).bind fun _=>some (.inl (a.1,b.1,c.1,decide ((w64 (a.2.1 - b.1)) ≥ (w64 (Int.tdiv (w64 (a.2.1 - a.1)) 8))),b.2.1,p)))) | .inr x=>some (.inr x))))
noncomputable def q3x (rec : List Int→Int→Int→Int→Option (List Int)) (a : List Int) (b : Int) (c : Int) (d : Int) : Option (List Int):=
  (loop (q3w rec) (b,c,d,true,true,a)).bind fun f=>some f
noncomputable def q6g : Nat→List Int→Int→Int→Int→Option (List Int)
  | 0,_,_,_,_=>none
  | n + 1,a,b,c,d=>q3x (q6g n)  a b c d
noncomputable def Jr (a : List Int) : Option (List Int):=
  (Uk (IntKind.wrap .u64 (a.length : Int))).bind fun c=>(lim (fun n=>q6g n a 0 (a.length : Int) c)).bind fun b=>(Qr b.length a.length).bind fun _=>some b
noncomputable def q1j (a : Int × (Nat × Nat) × Int × List Int) : Option ((Int × (Nat × Nat) × Int × List Int) ⊕ (Int × List Int)):=
  cond (decide (a.2.2.1 < (a.2.1.2 : Int))) (((idxW a.2.2.2 a.2.1 a.2.2.1).bind fun c=>(idxW a.2.2.2 a.2.1 (w64 (a.2.2.1 - 1))).bind fun d=>cond (c != d) ((idxW a.2.2.2 a.2.1 a.2.2.1).bind fun f=>(idx a.2.2.2 a.1).bind fun _=>some (w64 (a.1 + 1),a.2.1,a.2.2.2.set a.1.toNat f)) (some (a.1,a.2.1,a.2.2.2))).bind fun b=>some (.inl (b.1,b.2.1,w64 (a.2.2.1 + 1),b.2.2))) (some (.inr (a.1,a.2.2.2)))
noncomputable def J8 (a : List Int) (b : Int) : Option ((Int) ⊕ ((Unit) ⊕ ((Nat × Nat) × List Int))):=
  cond (decide (b < (a.length : Int))) ((idx a b).bind fun d=>(idx a (w64 (b - 1))).bind fun f=>cond (d == f) ((sub2 a.length b a.length).bind fun g=>(loop q1j (b,g,1,a)).bind fun c=>(sub2 c.2.length c.1 c.2.length).bind fun h=>(sub2 c.2.length 0 c.1).bind fun j=>some (.inr (.inr (j,clrw c.2 h 0)))) (some (.inl (w64 (b + 1))))) (some (.inr (.inl ())))
noncomputable def Uq (a : List Int) : Option ((Nat × Nat) × List Int):=
  cond (decide ((a.length : Int) < 2)) (some ((0,a.length),a)) ((loop (J8 a) 1 : Option ((Unit) ⊕ ((Nat × Nat) × List Int))).bind fun b=>(match b with | .inl _=>some ((0,a.length),a) | .inr c=>some c))
structure qm where
  Lo : Int
  Hi : Int
  deriving DecidableEq
def Q3 (x : qm) : List DV:=[.int .i64 x.Lo,.int .i64 x.Hi]
noncomputable def q2r (b : List qm) (c : qm→Option Bool) (a : Int) : Option ((Int) ⊕ ((Unit) ⊕ (Int))):=
  cond (decide (a < (b.length : Int))) ((idx b a).bind fun d=>(c d).bind fun f=>cond f (some (.inr (.inr a))) (some (.inl (w64 (a + 1))))) (some (.inr (.inl ())))
noncomputable def q8j (a : List qm) (b : qm→Option Bool) : Option Int:=
  (loop (q2r a b) 0 : Option ((Unit) ⊕ (Int))).bind fun c=>(match c with | .inl _=>some (-1) | .inr d=>some d)
noncomputable def q8g (a : List qm) (b : qm→Option Bool) : Option Bool:=
  (q8j a b).bind fun c=>some (decide (c ≥ 0))
noncomputable def q2y (a : qm) : Option Bool:=
  (cond (decide (a.Lo < a.Hi)) (some (decide (a.Lo ≥ (-1000000)))) (some false)).bind fun b=>(cond b (some (decide (a.Hi≤1000000))) (some false)).bind fun c=>some c
noncomputable def qc4 (a : qm) : Option Bool:=
  (q2y a).bind fun b=>some (!b)
def U9 (x : List qm) : List DV:=[.sl 2 (x.map Q3)]
structure qn where
  at_ : Int
  list_ : Int
  by_ : Int
  deriving DecidableEq
def Qa (x : qn) : List DV:=[.int .i64 x.at_,.int .i64 x.list_,.int .i64 x.by_]
noncomputable def q9i (a : qn) (b : qn) : Option Int:=
  some (w64 (a.at_ - b.at_))
noncomputable def q8s (c : Int) (d : qn→qn→Option Int) (a : Int × List qn) : Option ((Int × List qn) ⊕ (List qn)):=
  (cond (decide (a.1 > c)) ((idx a.2 a.1).bind fun f=>(idx a.2 (w64 (a.1 - 1))).bind fun g=>(d f g).bind fun h=>some (decide (h < 0))) (some false)).bind fun j=>cond j ((idx a.2 (w64 (a.1 - 1))).bind fun b=>(idx a.2 a.1).bind fun k=>(idx a.2 a.1).bind fun _=>(idx (a.2.set a.1.toNat b) (w64 (a.1 - 1))).bind fun _=>some (.inl (w64 (a.1 - 1),(a.2.set a.1.toNat b).set (w64 (a.1 - 1)).toNat k))) (some (.inr a.2))
noncomputable def q8r (b : Int) (c : Int) (d : qn→qn→Option Int) (a : Int × List qn) : Option ((Int × List qn) ⊕ (List qn)):=
  cond (decide (a.1 < b)) (((loop (q8s c d) (a.1,a.2)).bind fun f=>some f).bind fun g=>some (.inl (w64 (a.1 + 1),g))) (some (.inr a.2))
noncomputable def q8q (b : qn→qn→Option Int) (c : List qn) (a : Int) (d : Int) : Option (List qn):=
  (loop (q8r d a b) (w64 (a + 1),c)).bind fun f=>some f
noncomputable def q9a (d : Int) (b : Int) (f : qn→qn→Option Int) (a : Int × List qn) : Option ((Int × List qn) ⊕ (List qn)):=
  cond (decide ((w64 ((w64 (2 * a.1)) + 1)) ≥ d)) (some (.inr a.2)) ((cond (decide ((w64 ((w64 ((w64 (2 * a.1)) + 1)) + 1)) < d)) ((idx a.2 (w64 (b + (w64 ((w64 (2 * a.1)) + 1))))).bind fun h=>(idx a.2 (w64 ((w64 (b + (w64 ((w64 (2 * a.1)) + 1)))) + 1))).bind fun j=>(f h j).bind fun k=>some (decide (k < 0))) (some false)).bind fun l=>(cond l (some (w64 ((w64 ((w64 (2 * a.1)) + 1)) + 1))) (some (w64 ((w64 (2 * a.1)) + 1)))).bind fun c=>(idx a.2 (w64 (b + a.1))).bind fun m=>(idx a.2 (w64 (b + c))).bind fun n=>(f m n).bind fun o=>cond (!(decide (o < 0))) (some (.inr a.2)) ((idx a.2 (w64 (b + c))).bind fun g=>(idx a.2 (w64 (b + a.1))).bind fun p=>(idx a.2 (w64 (b + a.1))).bind fun _=>(idx (a.2.set (w64 (b + a.1)).toNat g) (w64 (b + c))).bind fun _=>some (.inl (c,(a.2.set (w64 (b + a.1)).toNat g).set (w64 (b + c)).toNat p))))
noncomputable def q6i (a : qn→qn→Option Int) (b : List qn) (c : Int) (d : Int) (f : Int) : Option (List qn):=
  (loop (q9a d f a) (c,b)).bind fun g=>some g
noncomputable def q8o (d : qn→qn→Option Int) (f : Int) (b : Int) (a : Int × List qn) : Option ((Int × List qn) ⊕ (List qn)):=
  cond (decide (a.1 ≥ 0)) ((q6i d a.2 a.1 (w64 (f - b)) b).bind fun c=>(Qr c.length a.2.length).bind fun _=>some (.inl (w64 (a.1 - 1),c))) (some (.inr a.2))
noncomputable def q8p (b : Int) (g : qn→qn→Option Int) (a : Int × List qn) : Option ((Int × List qn) ⊕ (List qn)):=
  cond (decide (a.1 ≥ 0)) ((idx a.2 (w64 (b + a.1))).bind fun c=>(idx a.2 b).bind fun d=>(idx a.2 b).bind fun _=>(idx (a.2.set b.toNat c) (w64 (b + a.1))).bind fun _=>(q6i g ((a.2.set b.toNat c).set (w64 (b + a.1)).toNat d) 0 a.1 b).bind fun f=>(Qr f.length ((a.2.set b.toNat c).set (w64 (b + a.1)).toNat d).length).bind fun _=>some (.inl (w64 (a.1 - 1),f))) (some (.inr a.2))
noncomputable def q8n (c : qn→qn→Option Int) (d : List qn) (a : Int) (b : Int) : Option (List qn):=
  (loop (q8o c b a) (w64 (Int.tdiv (w64 ((w64 (b - a)) - 1)) 2),d)).bind fun f=>(loop (q8p a c) (w64 ((w64 (b - a)) - 1),f)).bind fun g=>some g
noncomputable def q3t (f : qn→qn→Option Int) (c : List qn) (a : Int) (b : Int) (d : Int) : Option (Int × Int × Int):=
  (idx c b).bind fun g=>(idx c a).bind fun h=>(f g h).bind fun j=>cond (decide (j < 0)) (some (b,a,w64 (d + 1))) (some (a,b,d))
noncomputable def q5y (a : qn→qn→Option Int) (b : List qn) (g : Int) (h : Int) (j : Int) (k : Int) : Option (Int × Int):=
  (q3t a b g h k).bind fun c=>(q3t a b c.2.1 j c.2.2).bind fun d=>(q3t a b c.1 d.1 d.2.2).bind fun f=>some (f.2.1,f.2.2)
noncomputable def q3r (c : qn→qn→Option Int) (d : List qn) (a : Int) (f : Int) : Option (Int × Int):=
  (q5y c d (w64 (a - 1)) a (w64 (a + 1)) f).bind fun b=>some (b.1,b.2)
noncomputable def q8m (d : List qn) (a : Int) (b : Int) (f : qn→qn→Option Int) : Option (Int × Int):=
  (cond (decide ((w64 (b - a)) ≥ 8)) ((cond (decide ((w64 (b - a)) ≥ 50)) ((q3r f d (w64 (a + (w64 ((w64 (Int.tdiv (w64 (b - a)) 4)) * 1)))) 0).bind fun h=>(q3r f d (w64 (a + (w64 ((w64 (Int.tdiv (w64 (b - a)) 4)) * 2)))) h.2).bind fun j=>(q3r f d (w64 (a + (w64 ((w64 (Int.tdiv (w64 (b - a)) 4)) * 3)))) j.2).bind fun k=>some (h.1,j.1,k.1,k.2)) (some (w64 (a + (w64 ((w64 (Int.tdiv (w64 (b - a)) 4)) * 1))),w64 (a + (w64 ((w64 (Int.tdiv (w64 (b - a)) 4)) * 2))),w64 (a + (w64 ((w64 (Int.tdiv (w64 (b - a)) 4)) * 3))),0))).bind fun g=>(q5y f d g.1 g.2.1 g.2.2.1 g.2.2.2).bind fun l=>some (l.1,l.2)) (some (w64 (a + (w64 ((w64 (Int.tdiv (w64 (b - a)) 4)) * 2))),0))).bind fun c=>cond (c.2 == 0) (some (c.1,1)) (cond (c.2 == 12) (some (c.1,2)) (some (c.1,0)))
noncomputable def q98 (a : Int × Int × List qn) : Option ((Int × Int × List qn) ⊕ (List qn)):=
  cond (decide (a.1 < a.2.1)) ((idx a.2.2 a.2.1).bind fun b=>(idx a.2.2 a.1).bind fun c=>(idx a.2.2 a.1).bind fun _=>(idx (a.2.2.set a.1.toNat b) a.2.1).bind fun _=>some (.inl (w64 (a.1 + 1),w64 (a.2.1 - 1),(a.2.2.set a.1.toNat b).set a.2.1.toNat c))) (some (.inr a.2.2))
noncomputable def q97 (f : qn→qn→Option Int) (a : List qn) (b : Int) (c : Int) : Option (List qn):=
  (loop q98 (b,w64 (c - 1),a)).bind fun d=>some d
noncomputable def q8t (c : Int) (b : Int × Int × List qn) (d : qn→qn→Option Int) (a : Int) : Option ((Int) ⊕ (Int)):=
  (cond (decide (a < c)) ((idx b.2.2 a).bind fun f=>(idx b.2.2 (w64 (a - 1))).bind fun g=>(d f g).bind fun h=>some (!(decide (h < 0)))) (some false)).bind fun j=>cond j (some (.inl (w64 (a + 1)))) (some (.inr a))
noncomputable def q8u (c : qn→qn→Option Int) (a : Int × List qn) : Option ((Int × List qn) ⊕ (List qn)):=
  cond (decide (a.1 ≥ 1)) ((idx a.2 a.1).bind fun d=>(idx a.2 (w64 (a.1 - 1))).bind fun f=>(c d f).bind fun g=>cond (!(decide (g < 0))) (some (.inr a.2)) ((idx a.2 (w64 (a.1 - 1))).bind fun b=>(idx a.2 a.1).bind fun h=>(idx a.2 a.1).bind fun _=>(idx (a.2.set a.1.toNat b) (w64 (a.1 - 1))).bind fun _=>some (.inl (w64 (a.1 - 1),(a.2.set a.1.toNat b).set (w64 (a.1 - 1)).toNat h)))) (some (.inr a.2))
noncomputable def q8v (d : Int) (f : qn→qn→Option Int) (b : Int) (a : Int × List qn) : Option ((Int × List qn) ⊕ (Int × List qn)):=
  cond (decide (a.1 < d)) ((idx a.2 a.1).bind fun g=>(idx a.2 (w64 (a.1 - 1))).bind fun h=>(f g h).bind fun j=>cond (!(decide (j < 0))) (some (.inr (b,a.2))) ((idx a.2 (w64 (a.1 - 1))).bind fun c=>(idx a.2 a.1).bind fun k=>(idx a.2 a.1).bind fun _=>(idx (a.2.set a.1.toNat c) (w64 (a.1 - 1))).bind fun _=>some (.inl (w64 (a.1 + 1),(a.2.set a.1.toNat c).set (w64 (a.1 - 1)).toNat k)))) (some (.inr (b,a.2)))
noncomputable def q60 (c : Int) (d : qn→qn→Option Int) (h : Int) (b : Int × Int × List qn) : Option ((Int × Int × List qn) ⊕ ((List qn) ⊕ (Bool × List qn))):=
  cond (decide (b.2.1 < 5)) (((loop (q8t c b d) b.1).bind fun a=>cond (a == c) (some (.inr (true,b.2.2))) (cond (decide ((w64 (c - h)) < 50)) (some (.inr (false,b.2.2))) ((idx b.2.2 (w64 (a - 1))).bind fun f=>(idx b.2.2 a).bind fun j=>(idx b.2.2 a).bind fun _=>(idx (b.2.2.set a.toNat f) (w64 (a - 1))).bind fun _=>(cond (decide ((w64 (a - h)) ≥ 2)) ((loop (q8u d) (w64 (a - 1),(b.2.2.set a.toNat f).set (w64 (a - 1)).toNat j)).bind fun g=>some g) (some ((b.2.2.set a.toNat f).set (w64 (a - 1)).toNat j))).bind fun k=>cond (decide ((w64 (c - a)) ≥ 2)) ((loop (q8v c d a) (w64 (a + 1),k)).bind fun g=>some (.inl g)) (some (.inl (a,k))))) : Option ((Int × List qn) ⊕ (Bool × List qn))).bind fun m=>(match m with | .inl l=>some (.inl (l.1,w64 (b.2.1 + 1),l.2)) | .inr n=>some (.inr (.inr n)))) (some (.inr (.inl b.2.2)))
noncomputable def q5z (b : qn→qn→Option Int) (c : List qn) (a : Int) (d : Int) : Option (Bool × List qn):=
  (loop (q60 d b a) (w64 (a + 1),0,c) : Option ((List qn) ⊕ (Bool × List qn))).bind fun f=>(match f with | .inl g=>some (false,g) | .inr h=>some h)
noncomputable def q95 (b : Int × Int × List qn) (c : Int) (d : qn→qn→Option Int) (a : Int) : Option ((Int) ⊕ (Int)):=
  (cond (decide (a≤b.2.1)) ((idx b.2.2 c).bind fun f=>(idx b.2.2 a).bind fun g=>(d f g).bind fun h=>some (!(decide (h < 0)))) (some false)).bind fun j=>cond j (some (.inl (w64 (a + 1)))) (some (.inr a))
noncomputable def q96 (c : Int) (b : Int × Int × List qn) (d : Int) (f : qn→qn→Option Int) (a : Int) : Option ((Int) ⊕ (Int)):=
  (cond (decide (c≤a)) ((idx b.2.2 d).bind fun g=>(idx b.2.2 a).bind fun h=>(f g h).bind fun j=>some (decide (j < 0))) (some false)).bind fun k=>cond k (some (.inl (w64 (a - 1)))) (some (.inr a))
noncomputable def q94 (d : Int) (f : qn→qn→Option Int) (a : Int × Int × List qn) : Option ((Int × Int × List qn) ⊕ (Int × List qn)):=
  (loop (q95 a d f) a.1).bind fun b=>(loop (q96 b a d f) a.2.1).bind fun c=>cond (decide (b > c)) (some (.inr (b,a.2.2))) ((idx a.2.2 c).bind fun g=>(idx a.2.2 b).bind fun h=>(idx a.2.2 b).bind fun _=>(idx (a.2.2.set b.toNat g) c).bind fun _=>some (.inl (w64 (b + 1),w64 (c - 1),(a.2.2.set b.toNat g).set c.toNat h)))
noncomputable def q93 (g : qn→qn→Option Int) (b : List qn) (a : Int) (h : Int) (c : Int) : Option (Int × List qn):=
  (idx b c).bind fun d=>(idx b a).bind fun j=>(idx b a).bind fun _=>(idx (b.set a.toNat d) c).bind fun _=>(loop (q94 a g) (w64 (a + 1),w64 (h - 1),(b.set a.toNat d).set c.toNat j)).bind fun f=>some (f.1,f.2)
noncomputable def q8y (h : Int) (c : List qn) (b : Int) (d : qn) (f : Int) (g : qn) (j : qn→qn→Option Int) (a : Int) : Option ((Int) ⊕ (Int)):=
  (cond (decide (a≤(w64 (h - 1)))) ((idx ((c.set b.toNat d).set f.toNat g) a).bind fun k=>(idx ((c.set b.toNat d).set f.toNat g) b).bind fun l=>(j k l).bind fun m=>some (decide (m < 0))) (some false)).bind fun n=>cond n (some (.inl (w64 (a + 1)))) (some (.inr a))
noncomputable def q8z (h : Int) (c : List qn) (b : Int) (d : qn) (f : Int) (g : qn) (j : qn→qn→Option Int) (a : Int) : Option ((Int) ⊕ (Int)):=
  (cond (decide (h≤a)) ((idx ((c.set b.toNat d).set f.toNat g) a).bind fun k=>(idx ((c.set b.toNat d).set f.toNat g) b).bind fun l=>(j k l).bind fun m=>some (!(decide (m < 0)))) (some false)).bind fun n=>cond n (some (.inl (w64 (a - 1)))) (some (.inr a))
noncomputable def q91 (b : Int × Int × List qn) (c : Int) (d : qn→qn→Option Int) (a : Int) : Option ((Int) ⊕ (Int)):=
  (cond (decide (a≤b.2.1)) ((idx b.2.2 a).bind fun f=>(idx b.2.2 c).bind fun g=>(d f g).bind fun h=>some (decide (h < 0))) (some false)).bind fun j=>cond j (some (.inl (w64 (a + 1)))) (some (.inr a))
noncomputable def q92 (c : Int) (b : Int × Int × List qn) (d : Int) (f : qn→qn→Option Int) (a : Int) : Option ((Int) ⊕ (Int)):=
  (cond (decide (c≤a)) ((idx b.2.2 a).bind fun g=>(idx b.2.2 d).bind fun h=>(f g h).bind fun j=>some (!(decide (j < 0)))) (some false)).bind fun k=>cond k (some (.inl (w64 (a - 1)))) (some (.inr a))
noncomputable def q90 (d : Int) (f : qn→qn→Option Int) (a : Int × Int × List qn) : Option ((Int × Int × List qn) ⊕ (Int × List qn)):=
  (loop (q91 a d f) a.1).bind fun b=>(loop (q92 b a d f) a.2.1).bind fun c=>cond (decide (b > c)) (some (.inr (c,a.2.2))) ((idx a.2.2 c).bind fun g=>(idx a.2.2 b).bind fun h=>(idx a.2.2 b).bind fun _=>(idx (a.2.2.set b.toNat g) c).bind fun _=>some (.inl (w64 (b + 1),w64 (c - 1),(a.2.2.set b.toNat g).set c.toNat h)))
noncomputable def q8x (k : qn→qn→Option Int) (b : List qn) (a : Int) (l : Int) (c : Int) : Option (Int × Bool × List qn):=
  (idx b c).bind fun d=>(idx b a).bind fun f=>(idx b a).bind fun _=>(idx (b.set a.toNat d) c).bind fun _=>(loop (q8y l b a d c f k) (w64 (a + 1))).bind fun j=>(loop (q8z j b a d c f k) (w64 (l - 1))).bind fun g=>cond (decide (j > g)) ((idx ((b.set a.toNat d).set c.toNat f) a).bind fun m=>(idx ((b.set a.toNat d).set c.toNat f) g).bind fun p=>(idx ((b.set a.toNat d).set c.toNat f) g).bind fun _=>(idx (((b.set a.toNat d).set c.toNat f).set g.toNat m) a).bind fun _=>some (g,true,(((b.set a.toNat d).set c.toNat f).set g.toNat m).set a.toNat p)) ((idx ((b.set a.toNat d).set c.toNat f) g).bind fun n=>(idx ((b.set a.toNat d).set c.toNat f) j).bind fun q=>(idx ((b.set a.toNat d).set c.toNat f) j).bind fun _=>(idx (((b.set a.toNat d).set c.toNat f).set j.toNat n) g).bind fun _=>(loop (q90 a k) (w64 (j + 1),w64 (g - 1),(((b.set a.toNat d).set c.toNat f).set j.toNat n).set g.toNat q)).bind fun h=>(idx h.2 a).bind fun o=>(idx h.2 h.1).bind fun r=>(idx h.2 h.1).bind fun _=>(idx (h.2.set h.1.toNat o) a).bind fun _=>some (h.1,false,(h.2.set h.1.toNat o).set a.toNat r))
noncomputable def q8l (b : Int) (d : Int) (f : Int) (a : Int × List qn × Int) : Option ((Int × List qn × Int) ⊕ (List qn)):=
  cond (decide (a.1≤(w64 ((w64 (b + (w64 ((w64 (Int.tdiv (w64 (d - b)) 4)) * 2)))) + 1)))) ((q1l a.2.2).bind fun c=>(cond (decide ((w64 (andI .u64 c (IntKind.wrap .u64 (f - 1)))) ≥ (w64 (d - b)))) (some (w64 ((w64 (andI .u64 c (IntKind.wrap .u64 (f - 1)))) - (w64 (d - b))))) (some (w64 (andI .u64 c (IntKind.wrap .u64 (f - 1)))))).bind fun g=>(idx a.2.1 (w64 (b + g))).bind fun h=>(idx a.2.1 a.1).bind fun j=>(idx a.2.1 a.1).bind fun _=>(idx (a.2.1.set a.1.toNat h) (w64 (b + g))).bind fun _=>some (.inl (w64 (a.1 + 1),(a.2.1.set a.1.toNat h).set (w64 (b + g)).toNat j,c))) (some (.inr a.2.1))
noncomputable def q8k (g : qn→qn→Option Int) (c : List qn) (a : Int) (b : Int) : Option (List qn):=
  cond (decide ((w64 (b - a)) ≥ 8)) ((q1k (w64 (b - a))).bind fun d=>(loop (q8l a b d) (w64 ((w64 (a + (w64 ((w64 (Int.tdiv (w64 (b - a)) 4)) * 2)))) - 1),c,IntKind.wrap .u64 (w64 (b - a)))).bind fun f=>some f) (some c)
noncomputable def q6e (c : qn→qn→Option Int) (rec : List qn→Int→Int→Int→Option (List qn)) (a : Int × Int × Int × Bool × Bool × List qn) : Option ((Int × Int × Int × Bool × Bool × List qn) ⊕ (List qn)):=
  cond (decide ((w64 (a.2.1 - a.1))≤12)) ((q8q c a.2.2.2.2.2 a.1 a.2.1).bind fun l=>(Qr l.length a.2.2.2.2.2.length).bind fun _=>some (.inr l)) (cond (a.2.2.1 == 0) ((q8n c a.2.2.2.2.2 a.1 a.2.1).bind fun m=>(Qr m.length a.2.2.2.2.2.length).bind fun _=>some (.inr m)) ((cond (!a.2.2.2.1) ((q8k c a.2.2.2.2.2 a.1 a.2.1).bind fun n=>(Qr n.length a.2.2.2.2.2.length).bind fun _=>some (w64 (a.2.2.1 - 1),n)) (some (a.2.2.1,a.2.2.2.2.2))).bind fun d=>(q8m d.2 a.1 a.2.1 c).bind fun h=>(cond (h.2 == 2) ((q97 c d.2 a.1 a.2.1).bind fun o=>(Qr o.length d.2.length).bind fun _=>some (w64 ((w64 (a.2.1 - 1)) - (w64 (h.1 - a.1))),1,o)) (some (h.1,h.2,d.2))).bind fun f=>(cond a.2.2.2.1 (some a.2.2.2.2.1) (some false)).bind fun r=>(cond r (some (f.2.1 == 1)) (some false)).bind fun s=>(cond s ((q5z c f.2.2 a.1 a.2.1).bind fun j=>(Qr j.2.length f.2.2.length).bind fun _=>cond j.1 (some (.inr j.2)) (some (.inl j.2))) (some (.inl f.2.2)) : Option ((List qn) ⊕ (List qn))).bind fun t=>(match t with | .inl g=>(cond (decide (a.1 > 0)) ((idx g (w64 (a.1 - 1))).bind fun u=>(idx g f.1).bind fun v=>(c u v).bind fun w=>some (!(decide (w < 0)))) (some false)).bind fun x=>cond x ((q93 c g a.1 a.2.1 f.1).bind fun k=>(Qr k.2.length g.length).bind fun _=>some (.inl (k.1,a.2.1,d.1,a.2.2.2.1,a.2.2.2.2.1,k.2))) ((q8x c g a.1 a.2.1 f.1).bind fun b=>(Qr b.2.2.length g.length).bind fun _=>cond (decide ((w64 (b.1 - a.1)) < (w64 (a.2.1 - b.1)))) ((rec b.2.2 a.1 b.1 d.1).bind fun p=>(Qr p.length b.2.2.length).bind fun _=>some (.inl (w64 (b.1 + 1),a.2.1,d.1,decide ((w64 (b.1 - a.1)) ≥ (w64 (Int.tdiv (w64 (a.2.1 - a.1)) 8))),b.2.1,p))) ((rec b.2.2 (w64 (b.1 + 1)) a.2.1 d.1).bind fun q=>(Qr q.length b.2.2.length).bind fun _=>some (.inl (a.1,b.1,d.1,decide ((w64 (a.2.1 - b.1)) ≥ (w64 (Int.tdiv (w64 (a.2.1 - a.1)) 8))),b.2.1,q)))) | .inr y=>some (.inr y))))
noncomputable def q6f (rec : List qn→Int→Int→Int→Option (List qn)) (a : qn→qn→Option Int) (b : List qn) (c : Int) (d : Int) (f : Int) : Option (List qn):=
  (loop (q6e a rec) (c,d,f,true,true,b)).bind fun g=>some g
noncomputable def q6d : Nat→(qn→qn→Option Int)→List qn→Int→Int→Int→Option (List qn)
  | 0,_,_,_,_,_=>none
  | n + 1,a,b,c,d,f=>q6f (q6d n a) a b c d f
noncomputable def q5o (c : qn→qn→Option Int) (a : List qn) : Option (List qn):=
  (Uk (IntKind.wrap .u64 (a.length : Int))).bind fun d=>(lim (fun n=>q6d n c a 0 (a.length : Int) d)).bind fun b=>(Qr b.length a.length).bind fun _=>some b
noncomputable def qbw (a : List qn) : Option (List qn):=
  some a
noncomputable def q43 (b : List qm) (c : Int × List qn) (a : Int × List qn) : Option ((Int × List qn) ⊕ (List qn)):=
  cond (decide (a.1 < (b.length : Int))) ((idx b a.1).bind fun d=>(app 24 a.2 [({at_:=d.Lo,list_:=c.1,by_:=1} : qn),({at_:=d.Hi,list_:=c.1,by_:=(-1)} : qn)]).bind fun f=>some (.inl (w64 (a.1 + 1),f))) (some (.inr a.2))
noncomputable def Ut (b : List (List qm)) (a : Int × List qn) : Option ((Int × List qn) ⊕ (List qn)):=
  cond (decide (a.1 < (b.length : Int))) (((idx b a.1).bind fun c=>(loop (q43 c a) (0,a.2)).bind fun d=>some d).bind fun f=>some (.inl (w64 (a.1 + 1),f))) (some (.inr a.2))
noncomputable def q9j (b : List (List qm)) : Option (List (List qm) × List qn):=
  (loop (Ut b) (0,[])).bind fun c=>(q5o (fun f g=>q9i f g) c).bind fun a=>(Qr a.length c.length).bind fun _=>(qbw a).bind fun d=>(Qr d.length a.length).bind fun _=>some (b,d)
noncomputable def q9k (d : Int) (c : Bool) (b : Int) (a : List qm) : Option (Bool × Int × List qm):=
  (cond (!c) (some true) (some (b == d))).bind fun f=>cond f (some (c,b,a)) ((cond (decide ((a.length : Int) > 0)) ((idx a (w64 ((a.length : Int) - 1))).bind fun g=>some (g.Hi == b)) (some false)).bind fun h=>cond h ((idx a (w64 ((a.length : Int) - 1))).bind fun j=>some (c,b,a.set (w64 ((a.length : Int) - 1)).toNat ({Lo:=j.Lo,Hi:=d} : qm))) ((app 16 a [({Lo:=b,Hi:=d} : qm)]).bind fun k=>some (c,b,k)))
noncomputable def q44 (f : List (List qm) × List qn) (g : Bool→Bool→Option Bool) (a : Int × List Int × Int × Bool × List qm) : Option ((Int × List Int × Int × Bool × List qm) ⊕ (List qm)):=
  cond (decide (a.1 < (f.2.length : Int))) ((idx f.2 a.1).bind fun b=>((q9k b.at_ a.2.2.2.1 a.2.2.1 a.2.2.2.2).bind fun h=>(idxA 2 a.2.1 b.list_).bind fun c=>(idxA 2 a.2.1 b.list_).bind fun _=>(idxA 2 (a.2.1.set b.list_.toNat (w64 (c + b.by_))) 0).bind fun j=>(idxA 2 (a.2.1.set b.list_.toNat (w64 (c + b.by_))) 1).bind fun k=>(g (decide (j > 0)) (decide (k > 0))).bind fun l=>some (a.2.1.set b.list_.toNat (w64 (c + b.by_)),l,h.2.2)).bind fun d=>some (.inl (w64 (a.1 + 1),d.1,b.at_,d.2.1,d.2.2))) (some (.inr a.2.2.2.2))
noncomputable def q2x (a : List qm) (b : List qm) (d : Bool→Bool→Option Bool) : Option (List qm):=
  (q9j [a,b]).bind fun c=>(Qr c.1.length [a,b].length).bind fun _=>((loop (q44 c d) (0,[0,0],0,false,[])).bind fun f=>some f).bind fun g=>some g
noncomputable def q9h (a : Bool) (b : Bool) : Option Bool:=
  some a
noncomputable def q2w (a : List qm) : Option (List qm × Int):=
  cond (decide ((a.length : Int) > 400)) (some ([],4)) ((q8g a (fun b=>qc4 b)).bind fun c=>cond c (some ([],8)) ((q2x a [] (fun b d=>q9h b d)).bind fun f=>some (f,0)))
noncomputable def qbq (b : List qm) (f : List qm) (a : Int) : Option ((Int) ⊕ ((Unit) ⊕ (Bool))):=
  cond (decide (a < (b.length : Int))) ((idx b a).bind fun c=>(idx f a).bind fun d=>cond (!((c.Lo == d.Lo) && ((c.Hi == d.Hi) && true))) (some (.inr (.inr false))) (some (.inl (w64 (a + 1))))) (some (.inr (.inl ())))
noncomputable def q8i (a : List qm) (b : List qm) : Option Bool:=
  cond ((a.length : Int) != (b.length : Int)) (some false) ((loop (qbq a b) 0 : Option ((Unit) ⊕ (Bool))).bind fun c=>(match c with | .inl _=>some true | .inr d=>some d))
noncomputable def q5f (c : Int) (a : Int × List ql) : Option ((Int × List ql) ⊕ (List ql)):=
  cond (decide (a.1 < (a.2.length : Int))) ((idx a.2 a.1).bind fun b=>some (.inl (w64 (a.1 + 1),a.2.set a.1.toNat ({X0:=b.X0,Y0:=b.Y0,X1:=c,Y1:=b.Y1} : ql)))) (some (.inr a.2))
noncomputable def q5g (b : List qm) (f : Int) (c : Int) (g : List ql) (a : Int × List ql) : Option ((Int × List ql) ⊕ (List qm × Int × Int × List ql)):=
  cond (decide (a.1 < (b.length : Int))) ((idx b a.1).bind fun d=>(app 32 a.2 [({X0:=f,Y0:=d.Lo,X1:=c,Y1:=d.Hi} : ql)]).bind fun h=>some (.inl (w64 (a.1 + 1),h))) (some (.inr (b,(g.length : Int),c,a.2)))
noncomputable def q5e (a : List ql) (d : List qm) (f : Int) (h : Int) (g : Int) (b : Int) (c : List qm) : Option (List qm × Int × Int × List ql):=
  (cond (decide ((c.length : Int) > 0)) (some (h == g)) (some false)).bind fun j=>(cond j ((q8i d c).bind fun k=>some k) (some false)).bind fun l=>cond l ((loop (q5f b) (f,a)).bind fun m=>some (d,f,b,m)) ((loop (q5g c g b a) (0,a)).bind fun n=>some n)
noncomputable def Zr (b : List ql) (a : Int × List Int) : Option ((Int × List Int) ⊕ (List Int)):=
  cond (decide (a.1 < (b.length : Int))) ((idx b a.1).bind fun c=>(app 8 a.2 [c.X0,c.X1]).bind fun d=>some (.inl (w64 (a.1 + 1),d))) (some (.inr a.2))
noncomputable def U6 (c : List ql) (d : Int) (a : Int × List qm) : Option ((Int × List qm) ⊕ (List qm)):=
  cond (decide (a.1 < (c.length : Int))) (((idx c a.1).bind fun b=>(cond (decide (b.X0≤d)) (some (decide (d < b.X1))) (some false)).bind fun f=>cond f ((app 16 a.2 [({Lo:=b.Y0,Hi:=b.Y1} : qm)]).bind fun g=>some g) (some a.2)).bind fun h=>some (.inl (w64 (a.1 + 1),h))) (some (.inr a.2))
noncomputable def q2o (d : List Int) (g : List ql) (a : Int × List qm × Int × Int × List ql) : Option ((Int × List qm × Int × Int × List ql) ⊕ (List qm × Int × Int × List ql)):=
  cond (decide (a.1 < (d.length : Int))) ((idx d (w64 (a.1 - 1))).bind fun f=>(idx d a.1).bind fun h=>((idx [g] 0).bind fun j=>(loop (U6 j f) (0,[])).bind fun k=>some k).bind fun l=>((q2w l).bind fun m=>(q5e a.2.2.2.2 a.2.1 a.2.2.1 a.2.2.2.1 f h m.1).bind fun b=>some (b.1,b.2.1,b.2.2.1,b.2.2.2)).bind fun c=>some (.inl (w64 (a.1 + 1),c.1,c.2.1,c.2.2.1,c.2.2.2))) (some (.inr (a.2.1,a.2.2.1,a.2.2.2.1,a.2.2.2.2)))
noncomputable def q5i (d : List ql) : Option (List ql × Int):=
  (((idx [d] 0).bind fun j=>(loop (Zr j) (0,[])).bind fun b=>some b).bind fun f=>(Jr f).bind fun c=>(Qr c.length f.length).bind fun _=>(Uq c).bind fun a=>(Qr a.2.length c.length).bind fun _=>(Uw a.2.length a.1).bind fun _=>some ((a.2.drop a.1.1).take a.1.2)).bind fun k=>((loop (q2o k d) (1,[],0,0,[])).bind fun b=>some b).bind fun g=>(cond (decide ((g.2.2.2.length : Int) > 400)) (some (4,[])) (some (0,g.2.2.2))).bind fun h=>some (h.2,h.1)
noncomputable def qbn (d : List ql) (f : List ql) (a : Int) : Option ((Int) ⊕ ((Unit) ⊕ (Bool))):=
  cond (decide (a < (d.length : Int))) ((idx d a).bind fun b=>(idx f a).bind fun c=>cond (!((b.X0 == c.X0) && ((b.Y0 == c.Y0) && ((b.X1 == c.X1) && ((b.Y1 == c.Y1) && true))))) (some (.inr (.inr false))) (some (.inl (w64 (a + 1))))) (some (.inr (.inl ())))
noncomputable def Ur (a : List ql) (b : List ql) : Option Bool:=
  cond ((a.length : Int) != (b.length : Int)) (some false) ((loop (qbn a b) 0 : Option ((Unit) ⊕ (Bool))).bind fun c=>(match c with | .inl _=>some true | .inr d=>some d))
noncomputable def q2k (a : List ql) : Option Int:=
  cond (decide ((a.length : Int) > 400)) (some 4) ((q8e a (fun c=>q2l c)).bind fun d=>cond d (some 8) ((q5i a).bind fun b=>(cond (b.2 != 0) (some true) ((Ur b.1 a).bind fun f=>some (!f))).bind fun g=>cond g (some 8) (some 0)))
noncomputable def q57 (a : Int) : Option Bool:=
  (cond (decide (a ≥ (-1000000))) (some (decide (a≤1000000))) (some false)).bind fun b=>some b
def Q6 (x : qk) : List DV:=[.int .i64 x.Lo.X,.int .i64 x.Lo.Y,.int .i64 x.Lo.Z,.int .i64 x.Hi.X,.int .i64 x.Hi.Y,.int .i64 x.Hi.Z]
noncomputable def qes (a : Int) (b : Unit) : Option ((Unit) ⊕ (Unit)):=
  cond (decide (a < 0)) none (some (.inr ()))
noncomputable def q58 (c : List ql) (f : Int) (d : Int) (a : Int × List qk) : Option ((Int × List qk) ⊕ (List ql × Int × Int × List qk)):=
  cond (decide (a.1 < (c.length : Int))) ((idx c a.1).bind fun b=>(app 48 a.2 [({Lo:=({X:=b.X0,Y:=b.Y0,Z:=f} : qi),Hi:=({X:=b.X1,Y:=b.Y1,Z:=d} : qi)} : qk)]).bind fun g=>some (.inl (w64 (a.1 + 1),g))) (some (.inr (c,0,d,a.2)))
noncomputable def q84 (b : Int) (f : Int) (c : Int) (d : Int) (a : List ql) : Option (List ql × Int × Int × List qk):=
  (cond (decide ((a.length : Int) > 0)) (some (f == c)) (some false)).bind fun g=>(cond g ((Ur [] a).bind fun h=>some h) (some false)).bind fun j=>cond j ((loop (qes b) ()).bind fun _=>some ([],b,d,[])) ((loop (q58 a c d) (0,[])).bind fun k=>some k)
noncomputable def q54 (c : List ql) (a : Int) (b : Int) : Option (List qk × Int):=
  (q2k c).bind fun d=>cond (d != 0) (some ([],d)) ((q57 a).bind fun h=>(cond (!h) (some true) ((q57 b).bind fun j=>some (!j))).bind fun k=>(cond k (some true) (some (decide (a ≥ b)))).bind fun l=>cond l (some ([],2)) ((q84 0 0 a b c).bind fun f=>(cond (decide ((f.2.2.2.length : Int) > 400)) (some (4,[])) (some (0,f.2.2.2))).bind fun g=>some (g.2,g.1)))
noncomputable def q3p (b : List qk) (c : qk→Option Bool) (a : Int) : Option ((Int) ⊕ ((Unit) ⊕ (Int))):=
  cond (decide (a < (b.length : Int))) ((idx b a).bind fun d=>(c d).bind fun f=>cond f (some (.inr (.inr a))) (some (.inl (w64 (a + 1))))) (some (.inr (.inl ())))
noncomputable def qbt (a : List qk) (b : qk→Option Bool) : Option Int:=
  (loop (q3p a b) 0 : Option ((Unit) ⊕ (Int))).bind fun c=>(match c with | .inl _=>some (-1) | .inr d=>some d)
noncomputable def q8f (a : List qk) (b : qk→Option Bool) : Option Bool:=
  (qbt a b).bind fun c=>some (decide (c ≥ 0))
noncomputable def q6r (a : qi) : Option Bool:=
  (cond (decide ((min (min a.X a.Y) a.Z) ≥ (-1000000))) (some (decide ((max (max a.X a.Y) a.Z)≤1000000))) (some false)).bind fun b=>some b
noncomputable def q9d (a : qk) : Option Bool:=
  (cond (decide (a.Lo.X < a.Hi.X)) (some (decide (a.Lo.Y < a.Hi.Y))) (some false)).bind fun b=>(cond b (some (decide (a.Lo.Z < a.Hi.Z))) (some false)).bind fun c=>(cond c ((q6r a.Lo).bind fun d=>some d) (some false)).bind fun f=>(cond f ((q6r a.Hi).bind fun g=>some g) (some false)).bind fun h=>some h
noncomputable def q2u (a : qk) : Option Bool:=
  (q9d a).bind fun b=>some (!b)
def Qs (x : List qk) : List DV:=[.sl 6 (x.map Q6)]
noncomputable def q3n (b : List ql) (c : ql→Option Bool) (a : Int) : Option ((Int) ⊕ ((Unit) ⊕ (Int))):=
  cond (decide (a < (b.length : Int))) ((idx b a).bind fun d=>(c d).bind fun f=>cond f (some (.inr (.inr a))) (some (.inl (w64 (a + 1))))) (some (.inr (.inl ())))
noncomputable def qbr (a : List ql) (b : ql→Option Bool) : Option Int:=
  (loop (q3n a b) 0 : Option ((Unit) ⊕ (Int))).bind fun c=>(match c with | .inl _=>some (-1) | .inr d=>some d)
noncomputable def q8d (a : List ql) (b : ql→Option Bool) : Option Bool:=
  (qbr a b).bind fun c=>some (decide (c ≥ 0))
noncomputable def q2m (a : ql) : Option Bool:=
  (q5j a).bind fun b=>some (!b)
noncomputable def q1g (a : List ql) : Option (List ql × Int):=
  cond (decide ((a.length : Int) > 400)) (some ([],4)) ((q8d a (fun c=>q2m c)).bind fun d=>cond d (some ([],8)) ((q5i a).bind fun b=>some (b.1,b.2)))
noncomputable def q6p (c : Int) (a : Int × List qk) : Option ((Int × List qk) ⊕ (List qk)):=
  cond (decide (a.1 < (a.2.length : Int))) ((idx a.2 a.1).bind fun b=>some (.inl (w64 (a.1 + 1),a.2.set a.1.toNat ({Lo:=b.Lo,Hi:=({X:=b.Hi.X,Y:=b.Hi.Y,Z:=c} : qi)} : qk)))) (some (.inr a.2))
noncomputable def q6q (c : List ql) (f : Int) (d : Int) (g : List qk) (a : Int × List qk) : Option ((Int × List qk) ⊕ (List ql × Int × Int × List qk)):=
  cond (decide (a.1 < (c.length : Int))) ((idx c a.1).bind fun b=>(app 48 a.2 [({Lo:=({X:=b.X0,Y:=b.Y0,Z:=f} : qi),Hi:=({X:=b.X1,Y:=b.Y1,Z:=d} : qi)} : qk)]).bind fun h=>some (.inl (w64 (a.1 + 1),h))) (some (.inr (c,(g.length : Int),d,a.2)))
noncomputable def q6o (a : List qk) (d : List ql) (f : Int) (h : Int) (g : Int) (b : Int) (c : List ql) : Option (List ql × Int × Int × List qk):=
  (cond (decide ((c.length : Int) > 0)) (some (h == g)) (some false)).bind fun j=>(cond j ((Ur d c).bind fun k=>some k) (some false)).bind fun l=>cond l ((loop (q6p b) (f,a)).bind fun m=>some (d,f,b,m)) ((loop (q6q c g b a) (0,a)).bind fun n=>some n)
noncomputable def q1n (b : List qk) (a : Int × List Int) : Option ((Int × List Int) ⊕ (List Int)):=
  cond (decide (a.1 < (b.length : Int))) ((idx b a.1).bind fun c=>(app 8 a.2 [c.Lo.Z,c.Hi.Z]).bind fun d=>some (.inl (w64 (a.1 + 1),d))) (some (.inr a.2))
noncomputable def q1o (c : List qk) (d : Int) (a : Int × List ql) : Option ((Int × List ql) ⊕ (List ql)):=
  cond (decide (a.1 < (c.length : Int))) (((idx c a.1).bind fun b=>(cond (decide (b.Lo.Z≤d)) (some (decide (d < b.Hi.Z))) (some false)).bind fun f=>cond f ((app 32 a.2 [({X0:=b.Lo.X,Y0:=b.Lo.Y,X1:=b.Hi.X,Y1:=b.Hi.Y} : ql)]).bind fun g=>some g) (some a.2)).bind fun h=>some (.inl (w64 (a.1 + 1),h))) (some (.inr a.2))
noncomputable def q42 (d : List Int) (h : List qk) (a : Int × List ql × Int × Int × List qk) : Option ((Int × List ql × Int × Int × List qk) ⊕ ((List ql × Int × Int × List qk) ⊕ (List qk × Int))):=
  cond (decide (a.1 < (d.length : Int))) ((idx d (w64 (a.1 - 1))).bind fun g=>(idx d a.1).bind fun j=>((idx [h] 0).bind fun k=>(loop (q1o k g) (0,[])).bind fun l=>some l).bind fun m=>((q1g m).bind fun f=>cond (f.2 != 0) (some (.inr ([],f.2))) ((q6o a.2.2.2.2 a.2.1 a.2.2.1 a.2.2.2.1 g j f.1).bind fun b=>some (.inl (b.1,b.2.1,b.2.2.1,b.2.2.2))) : Option ((List ql × Int × Int × List qk) ⊕ (List qk × Int))).bind fun n=>(match n with | .inl c=>some (.inl (w64 (a.1 + 1),c.1,c.2.1,c.2.2.1,c.2.2.2)) | .inr o=>some (.inr (.inr o)))) (some (.inr (.inl (a.2.1,a.2.2.1,a.2.2.2.1,a.2.2.2.2))))
noncomputable def q9f (f : List qk) : Option (List qk × Int):=
  (((idx [f] 0).bind fun j=>(loop (q1n j) (0,[])).bind fun b=>some b).bind fun g=>(Jr g).bind fun c=>(Qr c.length g.length).bind fun _=>(Uq c).bind fun a=>(Qr a.2.length c.length).bind fun _=>(Uw a.2.length a.1).bind fun _=>some ((a.2.drop a.1.1).take a.1.2)).bind fun k=>((loop (q42 k f) (1,[],0,0,[]) : Option ((List ql × Int × Int × List qk) ⊕ (List qk × Int))).bind fun l=>(match l with | .inl b=>some (.inl b) | .inr d=>some (.inr d)) : Option ((List ql × Int × Int × List qk) ⊕ (List qk × Int))).bind fun m=>(match m with | .inl h=>cond (decide ((h.2.2.2.length : Int) > 400)) (some ([],4)) (some (h.2.2.2,0)) | .inr d=>some d)
noncomputable def qf9 (d : List qk) (f : List qk) (c : Int) : Option ((Int) ⊕ ((Unit) ⊕ (Bool))):=
  cond (decide (c < (d.length : Int))) ((idx d c).bind fun a=>(idx f c).bind fun b=>cond (!((a.Lo.X == b.Lo.X) && ((a.Lo.Y == b.Lo.Y) && ((a.Lo.Z == b.Lo.Z) && ((a.Hi.X == b.Hi.X) && ((a.Hi.Y == b.Hi.Y) && ((a.Hi.Z == b.Hi.Z) && true))))))) (some (.inr (.inr false))) (some (.inl (w64 (c + 1))))) (some (.inr (.inl ())))
noncomputable def qbp (a : List qk) (b : List qk) : Option Bool:=
  cond ((a.length : Int) != (b.length : Int)) (some false) ((loop (qf9 a b) 0 : Option ((Unit) ⊕ (Bool))).bind fun c=>(match c with | .inl _=>some true | .inr d=>some d))
noncomputable def q1m (a : List qk) : Option Int:=
  cond (decide ((a.length : Int) > 400)) (some 4) ((q8f a (fun c=>q2u c)).bind fun d=>cond d (some 8) ((q9f a).bind fun b=>(cond (b.2 != 0) (some true) ((qbp b.1 a).bind fun f=>some (!f))).bind fun g=>cond g (some 8) (some 0)))
noncomputable def q6t (a : qk) : Option (Int × Int × Int):=
  some (w64 (a.Hi.X - a.Lo.X),w64 (a.Hi.Y - a.Lo.Y),w64 (a.Hi.Z - a.Lo.Z))
noncomputable def q6n (c : List qk) (a : Int × Int) : Option ((Int × Int) ⊕ (Int)):=
  cond (decide (a.2 < (c.length : Int))) ((idx c a.2).bind fun d=>(q6t d).bind fun b=>some (.inl (w64 (a.1 + (w64 ((w64 (b.1 * b.2.1)) * b.2.2))),w64 (a.2 + 1)))) (some (.inr a.1))
noncomputable def q6m (a : List qk) : Option (Int × Int):=
  (q1m a).bind fun b=>cond (b != 0) (some (0,b)) ((loop (q6n a) (0,0)).bind fun c=>some (c,0))
noncomputable def q3q (b : List K4) (c : K4→Option Bool) (a : Int) : Option ((Int) ⊕ ((Unit) ⊕ (Int))):=
  cond (decide (a < (b.length : Int))) ((idx b a).bind fun d=>(c d).bind fun f=>cond f (some (.inr (.inr a))) (some (.inl (w64 (a + 1))))) (some (.inr (.inl ())))
noncomputable def qbu (a : List K4) (b : K4→Option Bool) : Option Int:=
  (loop (q3q a b) 0 : Option ((Unit) ⊕ (Int))).bind fun c=>(match c with | .inl _=>some (-1) | .inr d=>some d)
noncomputable def q8h (a : List K4) (b : K4→Option Bool) : Option Bool:=
  (qbu a b).bind fun c=>some (decide (c ≥ 0))
noncomputable def q1f (a : K4) : Option Bool:=
  (cond (decide (a.Height < 1)) (some true) (some (decide (a.Height > 1000000)))).bind fun b=>some b
noncomputable def q59 (c : Int) (a : Int × List qk) : Option ((Int × List qk) ⊕ (List qk)):=
  cond (decide (a.1 < (a.2.length : Int))) ((idx a.2 a.1).bind fun b=>some (.inl (w64 (a.1 + 1),a.2.set a.1.toNat ({Lo:=b.Lo,Hi:=({X:=b.Hi.X,Y:=b.Hi.Y,Z:=c} : qi)} : qk)))) (some (.inr a.2))
noncomputable def q5a (c : List ql) (f : Int) (d : Int) (g : List qk) (a : Int × List qk) : Option ((Int × List qk) ⊕ (List ql × Int × Int × List qk)):=
  cond (decide (a.1 < (c.length : Int))) ((idx c a.1).bind fun b=>(app 48 a.2 [({Lo:=({X:=b.X0,Y:=b.Y0,Z:=f} : qi),Hi:=({X:=b.X1,Y:=b.Y1,Z:=d} : qi)} : qk)]).bind fun h=>some (.inl (w64 (a.1 + 1),h))) (some (.inr (c,(g.length : Int),d,a.2)))
noncomputable def q85 (a : List qk) (d : List ql) (f : Int) (h : Int) (g : Int) (b : Int) (c : List ql) : Option (List ql × Int × Int × List qk):=
  (cond (decide ((c.length : Int) > 0)) (some (h == g)) (some false)).bind fun j=>(cond j ((Ur d c).bind fun k=>some k) (some false)).bind fun l=>cond l ((loop (q59 b) (f,a)).bind fun m=>some (d,f,b,m)) ((loop (q5a c g b a) (0,a)).bind fun n=>some n)
noncomputable def q3k (b : List K4) (a : Int) : Option ((Int) ⊕ ((Unit) ⊕ (List qk × Int))):=
  cond (decide (a < (b.length : Int))) ((idx b a).bind fun d=>(q2k d.Region).bind fun c=>cond (c != 0) (some (.inr (.inr ([],c)))) (some (.inl (w64 (a + 1))))) (some (.inr (.inl ())))
noncomputable def q3l (d : List K4) (a : Int × Int × List ql × Int × Int × List qk) : Option ((Int × Int × List ql × Int × Int × List qk) ⊕ ((List ql × Int × Int × List qk) ⊕ (List qk × Int))):=
  cond (decide (a.2.1 < (d.length : Int))) ((idx d a.2.1).bind fun b=>cond (decide ((w64 (a.1 + b.Height)) > 1000000)) (some (.inr (.inr ([],16)))) ((q85 a.2.2.2.2.2 a.2.2.1 a.2.2.2.1 a.2.2.2.2.1 a.1 (w64 (a.1 + b.Height)) b.Region).bind fun c=>some (.inl (w64 (a.1 + b.Height),w64 (a.2.1 + 1),c.1,c.2.1,c.2.2.1,c.2.2.2)))) (some (.inr (.inl (a.2.2.1,a.2.2.2.1,a.2.2.2.2.1,a.2.2.2.2.2))))
noncomputable def q3j (a : List K4) (c : Int) : Option (List qk × Int):=
  cond (decide ((a.length : Int) > 100)) (some ([],4)) ((loop (q3k a) 0 : Option ((Unit) ⊕ (List qk × Int))).bind fun g=>(match g with | .inl _=>(q57 c).bind fun h=>(cond (!h) (some true) ((q8h a (fun j=>q1f j)).bind fun k=>some k)).bind fun l=>cond l (some ([],2)) ((loop (q3l a) (c,0,[],0,0,[]) : Option ((List ql × Int × Int × List qk) ⊕ (List qk × Int))).bind fun m=>(match m with | .inl d=>(cond (decide ((d.2.2.2.length : Int) > 400)) (some (4,[])) (some (0,d.2.2.2))).bind fun f=>some (f.2,f.1) | .inr b=>some b)) | .inr b=>some b))
noncomputable def q53 (c : List qk) (d : Int) (f : Int) (a : Int × List qm) : Option ((Int × List qm) ⊕ (List qm)):=
  cond (decide (a.1 < (c.length : Int))) (((idx c a.1).bind fun b=>(cond (decide (b.Lo.X≤d)) (some (decide (d < b.Hi.X))) (some false)).bind fun g=>(cond g (some (decide (b.Lo.Y≤f))) (some false)).bind fun h=>(cond h (some (decide (f < b.Hi.Y))) (some false)).bind fun j=>cond j ((app 16 a.2 [({Lo:=b.Lo.Z,Hi:=b.Hi.Z} : qm)]).bind fun k=>some k) (some a.2)).bind fun l=>some (.inl (w64 (a.1 + 1),l))) (some (.inr a.2))
noncomputable def q82 (a : List qk) (d : Int) (f : Int) : Option (List qm × Int):=
  (q1m a).bind fun b=>cond (b != 0) (some ([],b)) ((loop (q53 a d f) (0,[])).bind fun g=>(q2w g).bind fun c=>some (c.1,c.2))
structure Qq where
  Turn : Int
  At : qi
  deriving DecidableEq
structure Q2 where
  Frame : Qq
  Size : qi
  deriving DecidableEq
noncomputable def qav : Option Q2:=
  some ({Frame:=({Turn:=0,At:=({X:=0,Y:=0,Z:=0} : qi)} : Qq),Size:=({X:=2,Y:=3,Z:=4} : qi)} : Q2)
noncomputable def q12 (a : qi) (b : Int) : Option Bool:=
  (cond (decide ((min (min a.X a.Y) a.Z) ≥ b)) (some (decide ((max (max a.X a.Y) a.Z)≤1000000))) (some false)).bind fun c=>some c
noncomputable def q11 (a : Qq) : Option Int:=
  (cond (decide (a.Turn ≥ 24)) (some true) ((q12 a.At (-1000000)).bind fun b=>some (!b))).bind fun c=>cond c (some 8) (some 0)
noncomputable def q4j (a : Q2) : Option Int:=
  (q11 a.Frame).bind fun b=>(cond (b != 0) (some true) ((q12 a.Size 0).bind fun c=>some (!c))).bind fun d=>cond d (some 8) (some 0)
noncomputable def qan (a : Int) : Option qi:=
  cond ((IntKind.wrap .u8 (Int.tdiv a 2)) == 0) (some ({X:=w64 (1 - (w64 (2 * (w64 (Int.tmod a 2))))),Y:=0,Z:=0} : qi)) (cond ((IntKind.wrap .u8 (Int.tdiv a 2)) == 1) (some ({X:=0,Y:=w64 (1 - (w64 (2 * (w64 (Int.tmod a 2))))),Z:=0} : qi)) (some ({X:=0,Y:=0,Z:=w64 (1 - (w64 (2 * (w64 (Int.tmod a 2)))))} : qi)))
noncomputable def qdp (a : qi) (b : qi) : Option qi:=
  some ({X:=w64 ((w64 (a.Y * b.Z)) - (w64 (a.Z * b.Y))),Y:=w64 ((w64 (a.Z * b.X)) - (w64 (a.X * b.Z))),Z:=w64 ((w64 (a.X * b.Y)) - (w64 (a.Y * b.X)))} : qi)
noncomputable def q21 (a : Int) : Option (qi × qi × qi):=
  (cond (decide ((Int.tmod a 4) ≥ (IntKind.wrap .u8 ((IntKind.wrap .u8 (Int.tdiv (IntKind.wrap .u8 (Int.tdiv a 4)) 2)) * 2)))) (some (IntKind.wrap .u8 ((Int.tmod a 4) + 2))) (some (Int.tmod a 4))).bind fun d=>(qan (IntKind.wrap .u8 (Int.tdiv a 4))).bind fun b=>(qan d).bind fun c=>(qdp b c).bind fun f=>some (b,c,f)
def Jl (x : qi) : List DV:=[.int .i64 x.X,.int .i64 x.Y,.int .i64 x.Z]
noncomputable def q4l (a : qi × qi × qi) (b : qi) : Option qi:=
  some ({X:=w64 ((w64 ((w64 (b.X * a.1.X)) + (w64 (b.Y * a.2.1.X)))) + (w64 (b.Z * a.2.2.X))),Y:=w64 ((w64 ((w64 (b.X * a.1.Y)) + (w64 (b.Y * a.2.1.Y)))) + (w64 (b.Z * a.2.2.Y))),Z:=w64 ((w64 ((w64 (b.X * a.1.Z)) + (w64 (b.Y * a.2.1.Z)))) + (w64 (b.Z * a.2.2.Z)))} : qi)
noncomputable def q4k (a : qi × qi × qi) (c : Int) : Option ((Int) ⊕ ((Unit) ⊕ (Int))):=
  cond (decide (c < 24)) ((q21 c).bind fun b=>cond ((b.1.X == a.1.X) && ((b.1.Y == a.1.Y) && ((b.1.Z == a.1.Z) && ((b.2.1.X == a.2.1.X) && ((b.2.1.Y == a.2.1.Y) && ((b.2.1.Z == a.2.1.Z) && ((b.2.2.X == a.2.2.X) && ((b.2.2.Y == a.2.2.Y) && ((b.2.2.Z == a.2.2.Z) && true))))))))) (some (.inr (.inr c))) (some (.inl (IntKind.wrap .u8 (c + 1))))) (some (.inr (.inl ())))
noncomputable def q7l (a : qi × qi × qi) : Option Int:=
  (loop (q4k a) 0 : Option ((Unit) ⊕ (Int))).bind fun b=>(match b with | .inl _=>some 0 | .inr c=>some c)
noncomputable def q3a (a : Qq) (c : qi) : Option qi:=
  (q21 a.Turn).bind fun d=>(q4l d c).bind fun b=>some ({X:=w64 (b.X + a.At.X),Y:=w64 (b.Y + a.At.Y),Z:=w64 (b.Z + a.At.Z)} : qi)
noncomputable def q22 (b : (qi × qi × qi)) (a : Int × List qi) : Option ((Int × List qi) ⊕ (List qi)):=
  cond (decide (a.1 < 3)) ((idxA 3 a.2 a.1).bind fun c=>(q4l b c).bind fun d=>(idxA 3 a.2 a.1).bind fun _=>some (.inl (w64 (a.1 + 1),a.2.set a.1.toNat d))) (some (.inr a.2))
noncomputable def q7m (b : Qq) (c : Qq) : Option Qq:=
  (q21 b.Turn).bind fun a=>(q21 c.Turn).bind fun d=>(loop (q22 d) (0,[a.1,a.2.1,a.2.2])).bind fun f=>(arr3 f).bind fun g=>(q7l g).bind fun h=>(q3a c b.At).bind fun j=>some ({Turn:=h,At:=j} : Qq)
noncomputable def q7k (a : Qq) (b : Qq) : Option (Qq × Int):=
  (q11 a).bind fun c=>cond (c != 0) (some (({Turn:=0,At:=({X:=0,Y:=0,Z:=0} : qi)} : Qq),c)) ((q11 b).bind fun d=>cond (d != 0) (some (({Turn:=0,At:=({X:=0,Y:=0,Z:=0} : qi)} : Qq),d)) ((q7m a b).bind fun f=>(q11 f).bind fun g=>cond (g != 0) (some (({Turn:=0,At:=({X:=0,Y:=0,Z:=0} : qi)} : Qq),16)) (some (f,0))))
noncomputable def Zz (b : Q2) (c : qi) (d : qi) (f : Int) : Option (Q2 × Int):=
  (q4j b).bind fun g=>cond (g != 0) (some (({Frame:=({Turn:=0,At:=({X:=0,Y:=0,Z:=0} : qi)} : Qq),Size:=({X:=0,Y:=0,Z:=0} : qi)} : Q2),g)) ((q11 ({Turn:=f,At:=c} : Qq)).bind fun h=>(cond (h != 0) (some true) ((q12 d 0).bind fun j=>some (!j))).bind fun k=>cond k (some (({Frame:=({Turn:=0,At:=({X:=0,Y:=0,Z:=0} : qi)} : Qq),Size:=({X:=0,Y:=0,Z:=0} : qi)} : Q2),2)) ((q7k ({Turn:=f,At:=c} : Qq) b.Frame).bind fun a=>cond (a.2 != 0) (some (({Frame:=({Turn:=0,At:=({X:=0,Y:=0,Z:=0} : qi)} : Qq),Size:=({X:=0,Y:=0,Z:=0} : qi)} : Q2),a.2)) (some (({Frame:=a.1,Size:=d} : Q2),0))))
noncomputable def q56 (a : Q2) : Option Int:=
  (Zz a ({X:=0,Y:=0,Z:=0} : qi) ({X:=0,Y:=0,Z:=0} : qi) 0).bind fun b=>cond (b.2 != 0) (some 8) (some 0)
def Zi (x : Q2) : List DV:=[.int .u8 x.Frame.Turn,.int .i64 x.Frame.At.X,.int .i64 x.Frame.At.Y,.int .i64 x.Frame.At.Z,.int .i64 x.Size.X,.int .i64 x.Size.Y,.int .i64 x.Size.Z]
structure Kw where
  t_ : Int
  at_ : qi
  flat_ : qi
  deriving DecidableEq
def qab (x : Kw) : List DV:=[.int .u8 x.t_,.int .i64 x.at_.X,.int .i64 x.at_.Y,.int .i64 x.at_.Z,.int .i64 x.flat_.X,.int .i64 x.flat_.Y,.int .i64 x.flat_.Z]
noncomputable def J6 (a : qi) (b : Int) : Option (Int × qi × qi):=
  (idxA 6 [({t_:=10,at_:=({X:=a.X,Y:=0,Z:=0} : qi),flat_:=({X:=a.Y,Y:=a.Z,Z:=0} : qi)} : Kw),({t_:=11,at_:=({X:=0,Y:=0,Z:=a.Z} : qi),flat_:=({X:=a.Y,Y:=a.Z,Z:=0} : qi)} : Kw),({t_:=3,at_:=({X:=0,Y:=a.Y,Z:=a.Z} : qi),flat_:=({X:=a.X,Y:=a.Z,Z:=0} : qi)} : Kw),({t_:=2,at_:=({X:=0,Y:=0,Z:=0} : qi),flat_:=({X:=a.X,Y:=a.Z,Z:=0} : qi)} : Kw),({t_:=0,at_:=({X:=0,Y:=0,Z:=a.Z} : qi),flat_:=({X:=a.X,Y:=a.Y,Z:=0} : qi)} : Kw),({t_:=1,at_:=({X:=0,Y:=a.Y,Z:=0} : qi),flat_:=({X:=a.X,Y:=a.Y,Z:=0} : qi)} : Kw)] b).bind fun c=>(idxA 6 [({t_:=10,at_:=({X:=a.X,Y:=0,Z:=0} : qi),flat_:=({X:=a.Y,Y:=a.Z,Z:=0} : qi)} : Kw),({t_:=11,at_:=({X:=0,Y:=0,Z:=a.Z} : qi),flat_:=({X:=a.Y,Y:=a.Z,Z:=0} : qi)} : Kw),({t_:=3,at_:=({X:=0,Y:=a.Y,Z:=a.Z} : qi),flat_:=({X:=a.X,Y:=a.Z,Z:=0} : qi)} : Kw),({t_:=2,at_:=({X:=0,Y:=0,Z:=0} : qi),flat_:=({X:=a.X,Y:=a.Z,Z:=0} : qi)} : Kw),({t_:=0,at_:=({X:=0,Y:=0,Z:=a.Z} : qi),flat_:=({X:=a.X,Y:=a.Y,Z:=0} : qi)} : Kw),({t_:=1,at_:=({X:=0,Y:=a.Y,Z:=0} : qi),flat_:=({X:=a.X,Y:=a.Y,Z:=0} : qi)} : Kw)] b).bind fun d=>(idxA 6 [({t_:=10,at_:=({X:=a.X,Y:=0,Z:=0} : qi),flat_:=({X:=a.Y,Y:=a.Z,Z:=0} : qi)} : Kw),({t_:=11,at_:=({X:=0,Y:=0,Z:=a.Z} : qi),flat_:=({X:=a.Y,Y:=a.Z,Z:=0} : qi)} : Kw),({t_:=3,at_:=({X:=0,Y:=a.Y,Z:=a.Z} : qi),flat_:=({X:=a.X,Y:=a.Z,Z:=0} : qi)} : Kw),({t_:=2,at_:=({X:=0,Y:=0,Z:=0} : qi),flat_:=({X:=a.X,Y:=a.Z,Z:=0} : qi)} : Kw),({t_:=0,at_:=({X:=0,Y:=0,Z:=a.Z} : qi),flat_:=({X:=a.X,Y:=a.Y,Z:=0} : qi)} : Kw),({t_:=1,at_:=({X:=0,Y:=a.Y,Z:=0} : qi),flat_:=({X:=a.X,Y:=a.Y,Z:=0} : qi)} : Kw)] b).bind fun f=>some (c.t_,d.at_,f.flat_)
noncomputable def q83 (a : Int) (g : Int) (h : Int) (j : Int) (k : Int) (b : Int) (c : Int) (d : Int) (l : List Q2) : Option (Int × Int × Int × Int × Int × Int × Int × Int × List Q2):=
  (J6 ({X:=b,Y:=c,Z:=d} : qi) a).bind fun f=>(Zz ({Frame:=({Turn:=g,At:=({X:=h,Y:=j,Z:=k} : qi)} : Qq),Size:=({X:=b,Y:=c,Z:=d} : qi)} : Q2) f.2.1 f.2.2 f.1).bind fun m=>(idxA 6 l a).bind fun _=>some (m.2,g,h,j,k,b,c,d,l.set a.toNat m.1)
noncomputable def U5 (a : Int × List Q2 × Int × Int × Int × Int × Int × Int × Int) : Option ((Int × List Q2 × Int × Int × Int × Int × Int × Int × Int) ⊕ ((List Q2) ⊕ ((Q2 × Q2 × Q2 × Q2 × Q2 × Q2) × Int))):=
  cond (decide (a.1 < 6)) ((q83 a.1 a.2.2.1 a.2.2.2.1 a.2.2.2.2.1 a.2.2.2.2.2.1 a.2.2.2.2.2.2.1 a.2.2.2.2.2.2.2.1 a.2.2.2.2.2.2.2.2 a.2.1).bind fun b=>cond (b.1 != 0) (some (.inr (.inr ((({Frame:=({Turn:=0,At:=({X:=0,Y:=0,Z:=0} : qi)} : Qq),Size:=({X:=0,Y:=0,Z:=0} : qi)} : Q2),({Frame:=({Turn:=0,At:=({X:=0,Y:=0,Z:=0} : qi)} : Qq),Size:=({X:=0,Y:=0,Z:=0} : qi)} : Q2),({Frame:=({Turn:=0,At:=({X:=0,Y:=0,Z:=0} : qi)} : Qq),Size:=({X:=0,Y:=0,Z:=0} : qi)} : Q2),({Frame:=({Turn:=0,At:=({X:=0,Y:=0,Z:=0} : qi)} : Qq),Size:=({X:=0,Y:=0,Z:=0} : qi)} : Q2),({Frame:=({Turn:=0,At:=({X:=0,Y:=0,Z:=0} : qi)} : Qq),Size:=({X:=0,Y:=0,Z:=0} : qi)} : Q2),({Frame:=({Turn:=0,At:=({X:=0,Y:=0,Z:=0} : qi)} : Qq),Size:=({X:=0,Y:=0,Z:=0} : qi)} : Q2)),b.1)))) (some (.inl (w64 (a.1 + 1),b.2.2.2.2.2.2.2.2,b.2.1,b.2.2.1,b.2.2.2.1,b.2.2.2.2.1,b.2.2.2.2.2.1,b.2.2.2.2.2.2.1,b.2.2.2.2.2.2.2.1)))) (some (.inr (.inl a.2.1)))
noncomputable def q2j (a : Q2) : Option ((Q2 × Q2 × Q2 × Q2 × Q2 × Q2) × Int):=
  (q56 a).bind fun b=>cond (b != 0) (some ((({Frame:=({Turn:=0,At:=({X:=0,Y:=0,Z:=0} : qi)} : Qq),Size:=({X:=0,Y:=0,Z:=0} : qi)} : Q2),({Frame:=({Turn:=0,At:=({X:=0,Y:=0,Z:=0} : qi)} : Qq),Size:=({X:=0,Y:=0,Z:=0} : qi)} : Q2),({Frame:=({Turn:=0,At:=({X:=0,Y:=0,Z:=0} : qi)} : Qq),Size:=({X:=0,Y:=0,Z:=0} : qi)} : Q2),({Frame:=({Turn:=0,At:=({X:=0,Y:=0,Z:=0} : qi)} : Qq),Size:=({X:=0,Y:=0,Z:=0} : qi)} : Q2),({Frame:=({Turn:=0,At:=({X:=0,Y:=0,Z:=0} : qi)} : Qq),Size:=({X:=0,Y:=0,Z:=0} : qi)} : Q2),({Frame:=({Turn:=0,At:=({X:=0,Y:=0,Z:=0} : qi)} : Qq),Size:=({X:=0,Y:=0,Z:=0} : qi)} : Q2)),b)) ((loop U5 (0,[({Frame:=({Turn:=0,At:=({X:=0,Y:=0,Z:=0} : qi)} : Qq),Size:=({X:=0,Y:=0,Z:=0} : qi)} : Q2),({Frame:=({Turn:=0,At:=({X:=0,Y:=0,Z:=0} : qi)} : Qq),Size:=({X:=0,Y:=0,Z:=0} : qi)} : Q2),({Frame:=({Turn:=0,At:=({X:=0,Y:=0,Z:=0} : qi)} : Qq),Size:=({X:=0,Y:=0,Z:=0} : qi)} : Q2),({Frame:=({Turn:=0,At:=({X:=0,Y:=0,Z:=0} : qi)} : Qq),Size:=({X:=0,Y:=0,Z:=0} : qi)} : Q2),({Frame:=({Turn:=0,At:=({X:=0,Y:=0,Z:=0} : qi)} : Qq),Size:=({X:=0,Y:=0,Z:=0} : qi)} : Q2),({Frame:=({Turn:=0,At:=({X:=0,Y:=0,Z:=0} : qi)} : Qq),Size:=({X:=0,Y:=0,Z:=0} : qi)} : Q2)],a.Frame.Turn,a.Frame.At.X,a.Frame.At.Y,a.Frame.At.Z,a.Size.X,a.Size.Y,a.Size.Z) : Option ((List Q2) ⊕ ((Q2 × Q2 × Q2 × Q2 × Q2 × Q2) × Int))).bind fun c=>(match c with | .inl d=>(arr6 d).bind fun f=>some (f,0) | .inr g=>some g))
noncomputable def qbc (b : List qm) (f : List qm) (a : Int) : Option ((Int) ⊕ ((Unit) ⊕ (Bool))):=
  cond (decide (a < (b.length : Int))) ((idx b a).bind fun c=>(idx f a).bind fun d=>cond (!((c.Lo == d.Lo) && ((c.Hi == d.Hi) && true))) (some (.inr (.inr false))) (some (.inl (w64 (a + 1))))) (some (.inr (.inl ())))
noncomputable def qbb (a : List qm) (b : List qm) : Option Bool:=
  cond ((a.length : Int) != (b.length : Int)) (some false) ((loop (qbc a b) 0 : Option ((Unit) ⊕ (Bool))).bind fun c=>(match c with | .inl _=>some true | .inr d=>some d))
noncomputable def q7p : Option Bool:=
  (q2g 0 0 2 3).bind fun h=>(q54 h 1 5).bind fun c=>(q6m c.1).bind fun d=>(q2g 0 0 2 2).bind fun j=>(q2g 0 0 1 1).bind fun k=>(q3j [({Region:=j,Height:=1} : K4),({Region:=k,Height:=2} : K4)] 0).bind fun b=>(q6m b.1).bind fun f=>(q82 b.1 0 0).bind fun g=>qav.bind fun l=>(q2j l).bind fun a=>(cond (c.2 == 0) (some (d.2 == 0)) (some false)).bind fun m=>(cond m (some (d.1 == 24)) (some false)).bind fun n=>(cond n (some (b.2 == 0)) (some false)).bind fun o=>(cond o (some (f.2 == 0)) (some false)).bind fun p=>(cond p (some (f.1 == 6)) (some false)).bind fun q=>(cond q (some (g.2 == 0)) (some false)).bind fun r=>cond r ((qbb g.1 [({Lo:=0,Hi:=3} : qm)]).bind fun s=>(cond s (some (a.2 == 0)) (some false)).bind fun t=>(cond t (some ((a.1.2.2.2.2.1.Frame.Turn == 0) && ((a.1.2.2.2.2.1.Frame.At.X == 0) && ((a.1.2.2.2.2.1.Frame.At.Y == 0) && ((a.1.2.2.2.2.1.Frame.At.Z == 4) && ((a.1.2.2.2.2.1.Size.X == 2) && ((a.1.2.2.2.2.1.Size.Y == 3) && ((a.1.2.2.2.2.1.Size.Z == 0) && true)))))))) (some false)).bind fun u=>(cond u (some ((a.1.1.Frame.Turn == 10) && ((a.1.1.Frame.At.X == 2) && ((a.1.1.Frame.At.Y == 0) && ((a.1.1.Frame.At.Z == 0) && ((a.1.1.Size.X == 3) && ((a.1.1.Size.Y == 4) && ((a.1.1.Size.Z == 0) && true)))))))) (some false)).bind fun v=>some v) (some false)
noncomputable def q7z (b : Int × List Int) (c : List Int) (a : Int) : Option ((Int) ⊕ (Int)):=
  (cond (decide (a > 0)) ((idx b.2 (w64 (a - 1))).bind fun d=>(idx c b.1).bind fun f=>some (decide (d > f))) (some false)).bind fun g=>cond g (some (.inl (w64 (a - 1)))) (some (.inr a))
noncomputable def q7y (d : List Int) (a : Int × List Int) : Option ((Int × List Int) ⊕ (List Int)):=
  cond (decide (a.1 < (d.length : Int))) (((loop (q7z a d) (a.2.length : Int)).bind fun c=>(cond (decide (c > 0)) ((idx a.2 (w64 (c - 1))).bind fun h=>(idx d a.1).bind fun j=>some (h == j)) (some false)).bind fun k=>cond k (some a.2) ((app 8 a.2 [0]).bind fun b=>(sub2 b.length (w64 (c + 1)) b.length).bind fun g=>(sub2 b.length c b.length).bind fun f=>(idx d a.1).bind fun l=>(idx (cpyw b g ((b.drop f.1).take f.2)) c).bind fun _=>some ((cpyw b g ((b.drop f.1).take f.2)).set c.toNat l))).bind fun m=>some (.inl (w64 (a.1 + 1),m))) (some (.inr a.2))
noncomputable def q51 (a : List Int) : Option (List Int):=
  (loop (q7y a) (0,[])).bind fun b=>some b
noncomputable def qep (c : Int) (a : Bool) (b : Bool) : Option Bool:=
  cond (c == 1) ((cond a (some b) (some false)).bind fun d=>some d) (cond (c == 2) ((cond a (some true) (some b)).bind fun f=>some f) ((cond a (some (!b)) (some false)).bind fun g=>some g))
noncomputable def q7t (b : List Int) (c : List Bool) (a : Int × List qm) : Option ((Int × List qm) ⊕ (List qm)):=
  cond (decide ((w64 (a.1 + 1)) < (b.length : Int))) (((idx c a.1).bind fun d=>cond (!d) (some a.2) ((cond (decide ((a.2.length : Int) > 0)) ((idx a.2 (w64 ((a.2.length : Int) - 1))).bind fun f=>(idx b a.1).bind fun g=>some (f.Hi == g)) (some false)).bind fun h=>cond h ((idx b (w64 (a.1 + 1))).bind fun j=>(idx a.2 (w64 ((a.2.length : Int) - 1))).bind fun k=>some (a.2.set (w64 ((a.2.length : Int) - 1)).toNat ({Lo:=k.Lo,Hi:=j} : qm))) ((idx b a.1).bind fun l=>(idx b (w64 (a.1 + 1))).bind fun m=>(app 16 a.2 [({Lo:=l,Hi:=m} : qm)]).bind fun n=>some n))).bind fun o=>some (.inl (w64 (a.1 + 1),o))) (some (.inr a.2))
noncomputable def qem (a : List Int) (b : List Bool) : Option (List qm):=
  (loop (q7t a b) (0,[])).bind fun c=>some c
noncomputable def q52 (a : qi) (b : Int) : Option Bool:=
  (cond (decide (a.X ≥ b)) (some (decide (a.Y ≥ b))) (some false)).bind fun c=>(cond c (some (decide (a.Z ≥ b))) (some false)).bind fun d=>(cond d (some (decide (a.X≤1000000))) (some false)).bind fun f=>(cond f (some (decide (a.Y≤1000000))) (some false)).bind fun g=>(cond g (some (decide (a.Z≤1000000))) (some false)).bind fun h=>some h
noncomputable def qkq (d : List qk) (f : List qk) (c : Int) : Option ((Int) ⊕ ((Unit) ⊕ (Bool))):=
  cond (decide (c < (d.length : Int))) ((idx d c).bind fun a=>(idx f c).bind fun b=>cond (!((a.Lo.X == b.Lo.X) && ((a.Lo.Y == b.Lo.Y) && ((a.Lo.Z == b.Lo.Z) && ((a.Hi.X == b.Hi.X) && ((a.Hi.Y == b.Hi.Y) && ((a.Hi.Z == b.Hi.Z) && true))))))) (some (.inr (.inr false))) (some (.inl (w64 (c + 1))))) (some (.inr (.inl ())))
noncomputable def qtc (a : List qk) (b : List qk) : Option Bool:=
  cond ((a.length : Int) != (b.length : Int)) (some false) ((loop (qkq a b) 0 : Option ((Unit) ⊕ (Bool))).bind fun c=>(match c with | .inl _=>some true | .inr d=>some d))
noncomputable def qko (a : qm) : Option Bool:=
  (cond (decide (a.Lo < a.Hi)) (some (decide (a.Lo ≥ (-1000000)))) (some false)).bind fun b=>(cond b (some (decide (a.Hi≤1000000))) (some false)).bind fun c=>some c
noncomputable def qen (b : List qm) (a : Int) : Option ((Int) ⊕ ((Unit) ⊕ (Int))):=
  cond (decide (a < (b.length : Int))) ((idx b a).bind fun c=>(qko c).bind fun d=>(cond (!d) (some true) ((cond (decide (a > 0)) ((idx b (w64 (a - 1))).bind fun f=>(idx b a).bind fun g=>some (decide (f.Hi ≥ g.Lo))) (some false)).bind fun h=>some h)).bind fun j=>cond j (some (.inr (.inr 8))) (some (.inl (w64 (a + 1))))) (some (.inr (.inl ())))
noncomputable def qb8 (a : List qm) : Option Int:=
  cond (decide ((a.length : Int) > 400)) (some 4) ((loop (qen a) 0 : Option ((Unit) ⊕ (Int))).bind fun b=>(match b with | .inl _=>some 0 | .inr c=>some c))
noncomputable def q7v (b : List qm) (c : Int) (a : Int) : Option ((Int) ⊕ ((Unit) ⊕ (Bool))):=
  cond (decide (a < (b.length : Int))) ((idx b a).bind fun d=>(cond (decide (d.Lo≤c)) ((idx b a).bind fun f=>some (decide (c < f.Hi))) (some false)).bind fun g=>cond g (some (.inr (.inr true))) (some (.inl (w64 (a + 1))))) (some (.inr (.inl ())))
noncomputable def qb9 (a : List qm) (b : Int) : Option Bool:=
  (loop (q7v a b) 0 : Option ((Unit) ⊕ (Bool))).bind fun c=>(match c with | .inl _=>some false | .inr d=>some d)
noncomputable def q7x (b : List qm) (a : Int × Int) : Option ((Int × Int) ⊕ (Int)):=
  cond (decide (a.2 < (b.length : Int))) ((idx b a.2).bind fun c=>(idx b a.2).bind fun d=>some (.inl (w64 ((w64 (a.1 + c.Hi)) - d.Lo),w64 (a.2 + 1)))) (some (.inr a.1))
noncomputable def qkn (a : List qm) : Option (Int × Int):=
  (qb8 a).bind fun b=>cond (b != 0) ((qb8 a).bind fun c=>some (0,c)) ((loop (q7x a) (0,0)).bind fun d=>some (d,0))
noncomputable def q80 (a : Qq) : Option Int:=
  (cond (decide (a.Turn ≥ 24)) (some true) ((q52 a.At (-1000000)).bind fun b=>some (!b))).bind fun c=>cond c (some 8) (some 0)
noncomputable def q81 (a : Q2) : Option Int:=
  (q80 a.Frame).bind fun b=>(cond (b != 0) (some true) ((q52 a.Size 0).bind fun c=>some (!c))).bind fun d=>cond d (some 8) (some 0)
noncomputable def q39 (b : Q2) (a : Int × List qi) : Option ((Int × List qi) ⊕ ((List qi) ⊕ ((qi × qi × qi × qi × qi × qi × qi × qi) × Int))):=
  cond (decide (a.1 < 8)) ((q3a b.Frame ({X:=w64 ((Int.tmod a.1 2) * b.Size.X),Y:=w64 ((Int.tmod (w64 (Int.tdiv a.1 2)) 2) * b.Size.Y),Z:=w64 ((w64 (Int.tdiv a.1 4)) * b.Size.Z)} : qi)).bind fun c=>(idxA 8 a.2 a.1).bind fun _=>(idxA 8 (a.2.set a.1.toNat c) a.1).bind fun d=>(q12 d (-1000000)).bind fun f=>cond (!f) (some (.inr (.inr ((({X:=0,Y:=0,Z:=0} : qi),({X:=0,Y:=0,Z:=0} : qi),({X:=0,Y:=0,Z:=0} : qi),({X:=0,Y:=0,Z:=0} : qi),({X:=0,Y:=0,Z:=0} : qi),({X:=0,Y:=0,Z:=0} : qi),({X:=0,Y:=0,Z:=0} : qi),({X:=0,Y:=0,Z:=0} : qi)),16)))) (some (.inl (w64 (a.1 + 1),a.2.set a.1.toNat c)))) (some (.inr (.inl a.2)))
noncomputable def q7j (a : Q2) : Option ((qi × qi × qi × qi × qi × qi × qi × qi) × Int):=
  (q4j a).bind fun b=>cond (b != 0) (some ((({X:=0,Y:=0,Z:=0} : qi),({X:=0,Y:=0,Z:=0} : qi),({X:=0,Y:=0,Z:=0} : qi),({X:=0,Y:=0,Z:=0} : qi),({X:=0,Y:=0,Z:=0} : qi),({X:=0,Y:=0,Z:=0} : qi),({X:=0,Y:=0,Z:=0} : qi),({X:=0,Y:=0,Z:=0} : qi)),b)) ((loop (q39 a) (0,[({X:=0,Y:=0,Z:=0} : qi),({X:=0,Y:=0,Z:=0} : qi),({X:=0,Y:=0,Z:=0} : qi),({X:=0,Y:=0,Z:=0} : qi),({X:=0,Y:=0,Z:=0} : qi),({X:=0,Y:=0,Z:=0} : qi),({X:=0,Y:=0,Z:=0} : qi),({X:=0,Y:=0,Z:=0} : qi)]) : Option ((List qi) ⊕ ((qi × qi × qi × qi × qi × qi × qi × qi) × Int))).bind fun c=>(match c with | .inl d=>(arr8 d).bind fun f=>some (f,0) | .inr g=>some g))
noncomputable def q38 (b : (qi × qi × qi × qi × qi × qi × qi × qi) × Int) (a : Int × Int × Int × Int × Int × Int × Int) : Option ((Int × Int × Int × Int × Int × Int × Int) ⊕ (Int × Int × Int × Int × Int × Int)):=
  cond (decide (a.1 < 8)) ((idxA 8 [b.1.1,b.1.2.1,b.1.2.2.1,b.1.2.2.2.1,b.1.2.2.2.2.1,b.1.2.2.2.2.2.1,b.1.2.2.2.2.2.2.1,b.1.2.2.2.2.2.2.2] a.1).bind fun c=>some (.inl (w64 (a.1 + 1),min a.2.1 c.X,min a.2.2.1 c.Y,min a.2.2.2.1 c.Z,max a.2.2.2.2.1 c.X,max a.2.2.2.2.2.1 c.Y,max a.2.2.2.2.2.2 c.Z))) (some (.inr (a.2.1,a.2.2.1,a.2.2.2.1,a.2.2.2.2.1,a.2.2.2.2.2.1,a.2.2.2.2.2.2)))
noncomputable def q20 (c : Q2) : Option (qk × Int):=
  (q7j c).bind fun a=>cond (a.2 != 0) (some (({Lo:=({X:=0,Y:=0,Z:=0} : qi),Hi:=({X:=0,Y:=0,Z:=0} : qi)} : qk),a.2)) ((cond (c.Size.X == 0) (some true) (some (c.Size.Y == 0))).bind fun d=>(cond d (some true) (some (c.Size.Z == 0))).bind fun f=>cond f (some (({Lo:=({X:=0,Y:=0,Z:=0} : qi),Hi:=({X:=0,Y:=0,Z:=0} : qi)} : qk),6)) ((loop (q38 a) (0,a.1.1.X,a.1.1.Y,a.1.1.Z,a.1.1.X,a.1.1.Y,a.1.1.Z)).bind fun b=>some (({Lo:=({X:=b.1,Y:=b.2.1,Z:=b.2.2.1} : qi),Hi:=({X:=b.2.2.2.1,Y:=b.2.2.2.2.1,Z:=b.2.2.2.2.2} : qi)} : qk),0)))
noncomputable def q9c (a : qk) (b : qk) : Option Int:=
  (cond ((w64 ((min a.Hi.X b.Hi.X) - (max a.Lo.X b.Lo.X))) == 0) (some (decide ((w64 ((min a.Hi.Y b.Hi.Y) - (max a.Lo.Y b.Lo.Y))) > 0))) (some false)).bind fun c=>(cond c (some (decide ((w64 ((min a.Hi.Z b.Hi.Z) - (max a.Lo.Z b.Lo.Z))) > 0))) (some false)).bind fun d=>cond d (some (w64 ((w64 ((min a.Hi.Y b.Hi.Y) - (max a.Lo.Y b.Lo.Y))) * (w64 ((min a.Hi.Z b.Hi.Z) - (max a.Lo.Z b.Lo.Z)))))) ((cond (decide ((w64 ((min a.Hi.X b.Hi.X) - (max a.Lo.X b.Lo.X))) > 0)) (some ((w64 ((min a.Hi.Y b.Hi.Y) - (max a.Lo.Y b.Lo.Y))) == 0)) (some false)).bind fun f=>(cond f (some (decide ((w64 ((min a.Hi.Z b.Hi.Z) - (max a.Lo.Z b.Lo.Z))) > 0))) (some false)).bind fun g=>cond g (some (w64 ((w64 ((min a.Hi.X b.Hi.X) - (max a.Lo.X b.Lo.X))) * (w64 ((min a.Hi.Z b.Hi.Z) - (max a.Lo.Z b.Lo.Z)))))) ((cond (decide ((w64 ((min a.Hi.X b.Hi.X) - (max a.Lo.X b.Lo.X))) > 0)) (some (decide ((w64 ((min a.Hi.Y b.Hi.Y) - (max a.Lo.Y b.Lo.Y))) > 0))) (some false)).bind fun h=>(cond h (some ((w64 ((min a.Hi.Z b.Hi.Z) - (max a.Lo.Z b.Lo.Z))) == 0)) (some false)).bind fun j=>cond j (some (w64 ((w64 ((min a.Hi.X b.Hi.X) - (max a.Lo.X b.Lo.X))) * (w64 ((min a.Hi.Y b.Hi.Y) - (max a.Lo.Y b.Lo.Y)))))) (some 0)))
noncomputable def q40 (b : List qk) (c : qk) (a : Int × Int) : Option ((Int × Int) ⊕ (Int)):=
  cond (decide (a.2 < (b.length : Int))) ((idx b a.2).bind fun d=>(q9c c d).bind fun f=>some (.inl (w64 (a.1 - (w64 (2 * f))),w64 (a.2 + 1)))) (some (.inr a.1))
noncomputable def q3z (c : List qk) (a : Int × Int) : Option ((Int × Int) ⊕ (Int)):=
  cond (decide (a.2 < (c.length : Int))) (((idx c a.2).bind fun d=>(q6t d).bind fun b=>(slc c 0 a.2).bind fun f=>(loop (q40 f d) (w64 (a.1 + (w64 (2 * (w64 ((w64 ((w64 (b.1 * b.2.1)) + (w64 (b.1 * b.2.2)))) + (w64 (b.2.1 * b.2.2))))))),0)).bind fun g=>some g).bind fun h=>some (.inl (h,w64 (a.2 + 1)))) (some (.inr a.1))
noncomputable def Us (a : List qk) : Option (Int × Int):=
  (q1m a).bind fun b=>cond (b != 0) (some (0,b)) ((loop (q3z a) (0,0)).bind fun c=>some (c,0))
noncomputable def q55 (a : Q2) (b : Int) : Option (Q2 × Int):=
  (q56 a).bind fun c=>cond (c != 0) (some (({Frame:=({Turn:=0,At:=({X:=0,Y:=0,Z:=0} : qi)} : Qq),Size:=({X:=0,Y:=0,Z:=0} : qi)} : Q2),c)) ((cond (decide (b < 0)) (some true) (some (decide (b > 1000000)))).bind fun d=>cond d (some (({Frame:=({Turn:=0,At:=({X:=0,Y:=0,Z:=0} : qi)} : Qq),Size:=({X:=0,Y:=0,Z:=0} : qi)} : Q2),2)) (some (({Frame:=a.Frame,Size:=({X:=a.Size.X,Y:=a.Size.Y,Z:=b} : qi)} : Q2),0)))
noncomputable def qbz (b : List qk) (a : Int × List Int) : Option ((Int × List Int) ⊕ (List Int)):=
  cond (decide (a.1 < (b.length : Int))) ((idx b a.1).bind fun c=>(app 8 a.2 [c.Lo.Z,c.Hi.Z]).bind fun d=>some (.inl (w64 (a.1 + 1),d))) (some (.inr a.2))
noncomputable def qc0 (b : List qk) (a : Int × List Int) : Option ((Int × List Int) ⊕ (List Int)):=
  cond (decide (a.1 < (b.length : Int))) ((idx b a.1).bind fun c=>(app 8 a.2 [c.Lo.Z,c.Hi.Z]).bind fun d=>some (.inl (w64 (a.1 + 1),d))) (some (.inr a.2))
noncomputable def qc1 (c : List qk) (d : Int) (a : Int × List ql) : Option ((Int × List ql) ⊕ (List ql)):=
  cond (decide (a.1 < (c.length : Int))) (((idx c a.1).bind fun b=>(cond (decide (b.Lo.Z≤d)) (some (decide (d < b.Hi.Z))) (some false)).bind fun f=>cond f ((app 32 a.2 [({X0:=b.Lo.X,Y0:=b.Lo.Y,X1:=b.Hi.X,Y1:=b.Hi.Y} : ql)]).bind fun g=>some g) (some a.2)).bind fun h=>some (.inl (w64 (a.1 + 1),h))) (some (.inr a.2))
noncomputable def qc2 (c : List qk) (d : Int) (a : Int × List ql) : Option ((Int × List ql) ⊕ (List ql)):=
  cond (decide (a.1 < (c.length : Int))) (((idx c a.1).bind fun b=>(cond (decide (b.Lo.Z≤d)) (some (decide (d < b.Hi.Z))) (some false)).bind fun f=>cond f ((app 32 a.2 [({X0:=b.Lo.X,Y0:=b.Lo.Y,X1:=b.Hi.X,Y1:=b.Hi.Y} : ql)]).bind fun g=>some g) (some a.2)).bind fun h=>some (.inl (w64 (a.1 + 1),h))) (some (.inr a.2))
noncomputable def q41 (f : List Int) (l : List qk) (m : List qk) (o : List ql→List ql→Option (List ql × Int)) (a : Int × List ql × Int × Int × List qk) : Option ((Int × List ql × Int × Int × List qk) ⊕ ((List ql × Int × Int × List qk) ⊕ (List qk × Int))):=
  cond (decide (a.1 < (f.length : Int))) ((idx f (w64 (a.1 - 1))).bind fun g=>(idx f a.1).bind fun p=>((idx [l,m] 0).bind fun q=>(loop (qc1 q g) (0,[])).bind fun h=>some h).bind fun r=>((idx [l,m] 1).bind fun s=>(loop (qc2 s g) (0,[])).bind fun h=>some h).bind fun t=>((q1g r).bind fun b=>(cond (b.2 == 0) ((q1g t).bind fun j=>cond (j.2 == 0) ((o b.1 j.1).bind fun n=>some (n.1,n.2)) (some (b.1,j.2))) (some (b.1,b.2))).bind fun k=>cond (k.2 != 0) (some (.inr ([],k.2))) ((q6o a.2.2.2.2 a.2.1 a.2.2.1 a.2.2.2.1 g p k.1).bind fun c=>some (.inl (c.1,c.2.1,c.2.2.1,c.2.2.2))) : Option ((List ql × Int × Int × List qk) ⊕ (List qk × Int))).bind fun u=>(match u with | .inl d=>some (.inl (w64 (a.1 + 1),d.1,d.2.1,d.2.2.1,d.2.2.2)) | .inr v=>some (.inr (.inr v)))) (some (.inr (.inl (a.2.1,a.2.2.1,a.2.2.2.1,a.2.2.2.2))))
noncomputable def q9e (k : List ql→List ql→Option (List ql × Int)) (c : List qk) (d : List qk) : Option (List qk × Int):=
  (((idx [c,d] 0).bind fun l=>(loop (qbz l) (0,[])).bind fun b=>some b).bind fun m=>((idx [c,d] 1).bind fun n=>(loop (qc0 n) (0,m)).bind fun b=>some b).bind fun h=>(Jr h).bind fun f=>(Qr f.length h.length).bind fun _=>(Uq f).bind fun a=>(Qr a.2.length f.length).bind fun _=>(Uw a.2.length a.1).bind fun _=>some ((a.2.drop a.1.1).take a.1.2)).bind fun o=>((loop (q41 o c d k) (1,[],0,0,[]) : Option ((List ql × Int × Int × List qk) ⊕ (List qk × Int))).bind fun p=>(match p with | .inl b=>some (.inl b) | .inr g=>some (.inr g)) : Option ((List ql × Int × Int × List qk) ⊕ (List qk × Int))).bind fun q=>(match q with | .inl j=>cond (decide ((j.2.2.2.length : Int) > 400)) (some ([],4)) (some (j.2.2.2,0)) | .inr g=>some g)
noncomputable def q6s (a : List qk) (b : List qk) (g : List ql→List ql→Option (List ql × Int)) : Option (List qk × Int):=
  (q1m a).bind fun c=>cond (c != 0) (some ([],c)) ((q1m b).bind fun d=>cond (d != 0) (some ([],d)) ((q9e g a b).bind fun f=>some (f.1,f.2)))
noncomputable def q86 (b : List ql) (c : List ql) : Option Int:=
  (q2k b).bind fun a=>cond (a != 0) (some a) ((q2k c).bind fun d=>some d)
noncomputable def qbf (b : List ql) (a : Int × List Int) : Option ((Int × List Int) ⊕ (List Int)):=
  cond (decide (a.1 < (b.length : Int))) ((idx b a.1).bind fun c=>(app 8 a.2 [c.X0,c.X1]).bind fun d=>some (.inl (w64 (a.1 + 1),d))) (some (.inr a.2))
noncomputable def qbg (b : List ql) (a : Int × List Int) : Option ((Int × List Int) ⊕ (List Int)):=
  cond (decide (a.1 < (b.length : Int))) ((idx b a.1).bind fun c=>(app 8 a.2 [c.X0,c.X1]).bind fun d=>some (.inl (w64 (a.1 + 1),d))) (some (.inr a.2))
noncomputable def qbh (c : List ql) (d : Int) (a : Int × List qm) : Option ((Int × List qm) ⊕ (List qm)):=
  cond (decide (a.1 < (c.length : Int))) (((idx c a.1).bind fun b=>(cond (decide (b.X0≤d)) (some (decide (d < b.X1))) (some false)).bind fun f=>cond f ((app 16 a.2 [({Lo:=b.Y0,Hi:=b.Y1} : qm)]).bind fun g=>some g) (some a.2)).bind fun h=>some (.inl (w64 (a.1 + 1),h))) (some (.inr a.2))
noncomputable def qbi (c : List ql) (d : Int) (a : Int × List qm) : Option ((Int × List qm) ⊕ (List qm)):=
  cond (decide (a.1 < (c.length : Int))) (((idx c a.1).bind fun b=>(cond (decide (b.X0≤d)) (some (decide (d < b.X1))) (some false)).bind fun f=>cond f ((app 16 a.2 [({Lo:=b.Y0,Hi:=b.Y1} : qm)]).bind fun g=>some g) (some a.2)).bind fun h=>some (.inl (w64 (a.1 + 1),h))) (some (.inr a.2))
noncomputable def q3m (d : List Int) (j : List ql) (k : List ql) (l : List qm→List qm→Option (List qm × Int)) (a : Int × List qm × Int × Int × List ql) : Option ((Int × List qm × Int × Int × List ql) ⊕ ((List qm × Int × Int × List ql) ⊕ (List ql × Int))):=
  cond (decide (a.1 < (d.length : Int))) ((idx d (w64 (a.1 - 1))).bind fun f=>(idx d a.1).bind fun m=>((idx [j,k] 0).bind fun n=>(loop (qbh n f) (0,[])).bind fun g=>some g).bind fun o=>((idx [j,k] 1).bind fun p=>(loop (qbi p f) (0,[])).bind fun g=>some g).bind fun q=>((l o q).bind fun h=>cond (h.2 != 0) (some (.inr ([],h.2))) ((q5e a.2.2.2.2 a.2.1 a.2.2.1 a.2.2.2.1 f m h.1).bind fun b=>some (.inl (b.1,b.2.1,b.2.2.1,b.2.2.2))) : Option ((List qm × Int × Int × List ql) ⊕ (List ql × Int))).bind fun r=>(match r with | .inl c=>some (.inl (w64 (a.1 + 1),c.1,c.2.1,c.2.2.1,c.2.2.2)) | .inr s=>some (.inr (.inr s)))) (some (.inr (.inl (a.2.1,a.2.2.1,a.2.2.2.1,a.2.2.2.2))))
noncomputable def q5h (c : List ql) (d : List ql) (m : List qm→List qm→Option (List qm × Int)) : Option (List ql × Int):=
  (q86 c d).bind fun h=>cond (h != 0) (some ([],h)) ((((idx [c,d] 0).bind fun n=>(loop (qbf n) (0,[])).bind fun b=>some b).bind fun o=>((idx [c,d] 1).bind fun p=>(loop (qbg p) (0,o)).bind fun b=>some b).bind fun j=>(Jr j).bind fun f=>(Qr f.length j.length).bind fun _=>(Uq f).bind fun a=>(Qr a.2.length f.length).bind fun _=>(Uw a.2.length a.1).bind fun _=>some ((a.2.drop a.1.1).take a.1.2)).bind fun q=>((loop (q3m q c d m) (1,[],0,0,[]) : Option ((List qm × Int × Int × List ql) ⊕ (List ql × Int))).bind fun r=>(match r with | .inl b=>some (.inl b) | .inr g=>some (.inr g)) : Option ((List qm × Int × Int × List ql) ⊕ (List ql × Int))).bind fun s=>(match s with | .inl k=>(cond (decide ((k.2.2.2.length : Int) > 400)) (some (4,[])) (some (0,k.2.2.2))).bind fun l=>some (l.2,l.1) | .inr g=>some g))
noncomputable def q1p (b : List qm) (a : Int) : Option ((Int) ⊕ ((Unit) ⊕ (Int))):=
  cond (decide (a < (b.length : Int))) ((idx b a).bind fun c=>(q2y c).bind fun d=>(cond (!d) (some true) ((cond (decide (a > 0)) ((idx b (w64 (a - 1))).bind fun f=>some (decide (f.Hi ≥ c.Lo))) (some false)).bind fun g=>some g)).bind fun h=>cond h (some (.inr (.inr 8))) (some (.inl (w64 (a + 1))))) (some (.inr (.inl ())))
noncomputable def q2v (a : List qm) : Option Int:=
  cond (decide ((a.length : Int) > 400)) (some 4) ((loop (q1p a) 0 : Option ((Unit) ⊕ (Int))).bind fun b=>(match b with | .inl _=>some 0 | .inr c=>some c))
noncomputable def q6w (a : List qm) (b : List qm) (g : Bool→Bool→Option Bool) : Option (List qm × Int):=
  (q2v a).bind fun c=>cond (c != 0) (some ([],c)) ((q2v b).bind fun d=>cond (d != 0) (some ([],d)) ((q2x a b g).bind fun f=>cond (decide ((f.length : Int) > 400)) (some ([],4)) (some (f,0))))
noncomputable def qc5 (a : Bool) (b : Bool) : Option Bool:=
  (cond a (some b) (some false)).bind fun c=>some c
noncomputable def q6u (b : List qm) (c : List qm) : Option (List qm × Int):=
  (q6w b c (fun d f=>qc5 d f)).bind fun a=>some (a.1,a.2)
noncomputable def q5c (b : List ql) (c : List ql) : Option (List ql × Int):=
  (q5h b c (fun d f=>q6u d f)).bind fun a=>some (a.1,a.2)
noncomputable def q6k (b : List qk) (c : List qk) : Option (List qk × Int):=
  (q6s b c (fun d f=>q5c d f)).bind fun a=>some (a.1,a.2)
noncomputable def qc6 (a : Bool) (b : Bool) : Option Bool:=
  (cond a (some true) (some b)).bind fun c=>some c
noncomputable def q6v (b : List qm) (c : List qm) : Option (List qm × Int):=
  (q6w b c (fun d f=>qc6 d f)).bind fun a=>some (a.1,a.2)
noncomputable def q5d (b : List ql) (c : List ql) : Option (List ql × Int):=
  (q5h b c (fun d f=>q6v d f)).bind fun a=>some (a.1,a.2)
noncomputable def q6l (b : List qk) (c : List qk) : Option (List qk × Int):=
  (q6s b c (fun d f=>q5d d f)).bind fun a=>some (a.1,a.2)
noncomputable def q3f (a : (Q2 × Q2 × Q2 × Q2 × Q2 × Q2) × Int) (b : Int × Int) : Option ((Int × Int) ⊕ (Int)):=
  cond (decide (b.2 < 6)) ((idxA 6 [a.1.1,a.1.2.1,a.1.2.2.1,a.1.2.2.2.1,a.1.2.2.2.2.1,a.1.2.2.2.2.2] b.2).bind fun c=>(idxA 6 [a.1.1,a.1.2.1,a.1.2.2.1,a.1.2.2.2.1,a.1.2.2.2.2.1,a.1.2.2.2.2.2] b.2).bind fun d=>some (.inl (w64 (b.1 + (w64 (c.Size.X * d.Size.Y))),w64 (b.2 + 1)))) (some (.inr b.1))
noncomputable def qau (b : Q2) (c : Int) : Option Bool:=
  q7p.bind fun g=>(q81 b).bind fun o=>(cond (o != 0) (some true) (some (decide ((min (min b.Size.X b.Size.Y) b.Size.Z) < 1)))).bind fun p=>(cond p (some true) (some (decide ((max (max b.Size.X b.Size.Y) b.Size.Z) > 1000)))).bind fun q=>(cond q (some true) (some (decide ((max (max b.Frame.At.X b.Frame.At.Y) b.Frame.At.Z) > 1000)))).bind fun r=>(cond r (some true) (some (decide ((min (min b.Frame.At.X b.Frame.At.Y) b.Frame.At.Z) < (-1000))))).bind fun s=>(cond s (some true) (some (decide (c < 0)))).bind fun t=>(cond t (some true) (some (decide (c > 5)))).bind fun u=>(cond u (some true) (some (!g))).bind fun v=>cond v (some g) ((q2j b).bind fun a=>(q20 b).bind fun d=>(cond (a.2 != 0) (some true) (some (d.2 != 0))).bind fun w=>cond w (some false) ((loop (q3f a) (0,0)).bind fun x=>(Us [d.1]).bind fun h=>(cond (h.2 != 0) (some true) (some (h.1 != x))).bind fun y=>cond y (some false) ((idxA 6 [a.1.1,a.1.2.1,a.1.2.2.1,a.1.2.2.2.1,a.1.2.2.2.2.1,a.1.2.2.2.2.2] c).bind fun z=>(q55 z 1).bind fun j=>(q20 j.1).bind fun f=>(cond (j.2 != 0) (some true) (some (f.2 != 0))).bind fun aa=>cond aa (some false) ((q6k [d.1] [f.1]).bind fun k=>(q6l [d.1] [f.1]).bind fun l=>(Us l.1).bind fun m=>(Us [f.1]).bind fun n=>(idxA 6 [a.1.1,a.1.2.1,a.1.2.2.1,a.1.2.2.2.1,a.1.2.2.2.2.1,a.1.2.2.2.2.2] c).bind fun ab=>(idxA 6 [a.1.1,a.1.2.1,a.1.2.2.1,a.1.2.2.2.1,a.1.2.2.2.2.1,a.1.2.2.2.2.2] c).bind fun ac=>(cond g (some (k.2 == 0)) (some false)).bind fun ad=>(cond ad (some ((k.1.length : Int) == 0)) (some false)).bind fun ae=>(cond ae (some (l.2 == 0)) (some false)).bind fun af=>(cond af (some (m.2 == 0)) (some false)).bind fun ag=>(cond ag (some (n.2 == 0)) (some false)).bind fun ah=>(cond ah (some (m.1 == (w64 ((w64 (h.1 + n.1)) - (w64 (2 * (w64 (ab.Size.X * ac.Size.Y)))))))) (some false)).bind fun ai=>some ai))))
noncomputable def q7u (b : List qm) (a : Int × List Int) : Option ((Int × List Int) ⊕ (List Int)):=
  cond (decide (a.1 < (b.length : Int))) ((idx b a.1).bind fun c=>(idx b a.1).bind fun d=>(app 8 a.2 [c.Lo,d.Hi]).bind fun f=>some (.inl (w64 (a.1 + 1),f))) (some (.inr a.2))
noncomputable def qkl (b : List qm) (a : Int × List Int) : Option ((Int × List Int) ⊕ (List Int)):=
  cond (decide (a.1 < (b.length : Int))) ((idx b a.1).bind fun c=>(idx b a.1).bind fun d=>(app 8 a.2 [c.Lo,d.Hi]).bind fun f=>some (.inl (w64 (a.1 + 1),f))) (some (.inr a.2))
noncomputable def qeo (a : List qm) (b : List qm) : Option (List Int):=
  (loop (q7u a) (0,[])).bind fun c=>(loop (qkl b) (0,c)).bind fun d=>(q51 d).bind fun f=>some f
noncomputable def q7w (b : List Int) (c : List qm) (d : List qm) (f : Int) (a : Int × List Bool) : Option ((Int × List Bool) ⊕ (List Bool)):=
  cond (decide (a.1 < (b.length : Int))) ((idx b a.1).bind fun g=>(qb9 c g).bind fun h=>(idx b a.1).bind fun j=>(qb9 d j).bind fun k=>(qep f h k).bind fun l=>(app 1 a.2 [l]).bind fun m=>some (.inl (w64 (a.1 + 1),m))) (some (.inr a.2))
noncomputable def qba (d : Int) (a : List qm) (b : List qm) : Option (List qm):=
  (qeo a b).bind fun c=>(loop (q7w c a b d) (0,[])).bind fun f=>(qem c f).bind fun g=>some g
noncomputable def q9g (b : List qm) (a : Int × Int) : Option ((Int × Int) ⊕ (Int)):=
  cond (decide (a.2 < (b.length : Int))) ((idx b a.2).bind fun c=>some (.inl (w64 (a.1 + (w64 (c.Hi - c.Lo))),w64 (a.2 + 1)))) (some (.inr a.1))
noncomputable def qm4 (a : List qm) : Option (Int × Int):=
  (q2v a).bind fun b=>cond (b != 0) (some (0,b)) ((loop (q9g a) (0,0)).bind fun c=>some (c,0))
end Go.Sh
