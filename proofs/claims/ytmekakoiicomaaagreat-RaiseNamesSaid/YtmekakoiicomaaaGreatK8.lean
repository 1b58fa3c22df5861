/- PX -/
import Derived.Test.YtmekakoiicomaaaGreatK7
namespace Go.Sh
open Go Go.Am
structure ql where
  X0 : Int
  Y0 : Int
  X1 : Int
  Y1 : Int
  deriving DecidableEq
def Q0 (x : ql) : List DV:=[.int .i64 x.X0,.int .i64 x.Y0,.int .i64 x.X1,.int .i64 x.Y1]
noncomputable def Uy (a : Int) (b : Int) (c : Int) (d : Int) : Option (List ql):=
  some [({X0:=a,Y0:=b,X1:=c,Y1:=d} : ql)]
structure qj where
  X : Int
  Y : Int
  Z : Int
  deriving DecidableEq
structure qn where
  Lo : qj
  Hi : qj
  deriving DecidableEq
noncomputable def q33 (b : List ql) (c : ql→Option Bool) (a : Int) : Option ((Int) ⊕ ((Unit) ⊕ (Int))):=
  cond (decide (a < (b.length : Int))) ((idx b a).bind fun d=>(c d).bind fun f=>cond f (some (.inr (.inr a))) (some (.inl (w64 (a + 1))))) (some (.inr (.inl ())))
noncomputable def qa7 (a : List ql) (b : ql→Option Bool) : Option Int:=
  (loop (q33 a b) 0 : Option ((Unit) ⊕ (Int))).bind fun c=>(match c with | .inl _=>some (-1) | .inr d=>some d)
noncomputable def q78 (a : List ql) (b : ql→Option Bool) : Option Bool:=
  (qa7 a b).bind fun c=>some (decide (c ≥ 0))
noncomputable def q1z (a : Int) : Option Bool:=
  (cond (decide (a ≥ (-1000000))) (some (decide (a≤1000000))) (some false)).bind fun b=>some b
noncomputable def q4j (a : ql) : Option Bool:=
  (cond (decide (a.X0 < a.X1)) (some (decide (a.Y0 < a.Y1))) (some false)).bind fun b=>(cond b ((q1z a.X0).bind fun c=>some c) (some false)).bind fun d=>(cond d ((q1z a.X1).bind fun f=>some f) (some false)).bind fun g=>(cond g ((q1z a.Y0).bind fun h=>some h) (some false)).bind fun j=>(cond j ((q1z a.Y1).bind fun k=>some k) (some false)).bind fun l=>some l
noncomputable def q1x (a : ql) : Option Bool:=
  (q4j a).bind fun b=>some (!b)
def Zj (x : List ql) : List DV:=[.sl 4 (x.map Q0)]
def qah : ByteArray:=⟨#[0,1,2,2,3,3,3,3,4,4,4,4,4,4,4,4,5,5,5,5,5,5,5,5,5,5,5,5,5,5,5,5,6,6,6,6,6,6,6,6,6,6,6,6,6,6,6,6,6,6,6,6,6,6,6,6,6,6,6,6,6,6,6,6,7,7,7,7,7,7,7,7,7,7,7,7,7,7,7,7,7,7,7,7,7,7,7,7,7,7,7,7,7,7,7,7,7,7,7,7,7,7,7,7,7,7,7,7,7,7,7,7,7,7,7,7,7,7,7,7,7,7,7,7,7,7,7,7,8,8,8,8,8,8,8,8,8,8,8,8,8,8,8,8,8,8,8,8,8,8,8,8,8,8,8,8,8,8,8,8,8,8,8,8,8,8,8,8,8,8,8,8,8,8,8,8,8,8,8,8,8,8,8,8,8,8,8,8,8,8,8,8,8,8,8,8,8,8,8,8,8,8,8,8,8,8,8,8,8,8,8,8,8,8,8,8,8,8,8,8,8,8,8,8,8,8,8,8,8,8,8,8,8,8,8,8,8,8,8,8,8,8,8,8,8,8,8,8,8,8,8,8,8,8,8,8]⟩
noncomputable def q1u (c : Int) : Option Int:=
  (cond (decide (c ≥ 4294967296)) (some (Int.fdiv c (2 ^ 32),32)) (some (c,0))).bind fun a=>(cond (decide (a.1 ≥ 65536)) (some (Int.fdiv a.1 (2 ^ 16),w64 (a.2 + 16))) (some (a.1,a.2))).bind fun b=>(cond (decide (b.1 ≥ 256)) (some (Int.fdiv b.1 (2 ^ 8),w64 (b.2 + 8))) (some (b.1,b.2))).bind fun d=>(q3k qah (IntKind.wrap .u8 d.1)).bind fun f=>some (w64 (d.2 + (w64 f)))
noncomputable def Ua (a : Int) : Option Int:=
  (q1u a).bind fun b=>some b
noncomputable def q61 (a : Int) : Option Bool:=
  some (a != a)
noncomputable def Yr (a : Int) (b : Int) : Option Bool:=
  (q61 a).bind fun c=>(cond c ((q61 b).bind fun d=>some (!d)) (some false)).bind fun f=>(cond f (some true) (some (decide (a < b)))).bind fun g=>some g
noncomputable def q4x (c : Int) (a : Int × List Int) : Option ((Int × List Int) ⊕ (List Int)):=
  (cond (decide (a.1 > c)) ((idx a.2 a.1).bind fun d=>(idx a.2 (w64 (a.1 - 1))).bind fun f=>(Yr d f).bind fun g=>some g) (some false)).bind fun h=>cond h ((idx a.2 (w64 (a.1 - 1))).bind fun b=>(idx a.2 a.1).bind fun j=>(idx a.2 a.1).bind fun _=>(idx (a.2.set a.1.toNat b) (w64 (a.1 - 1))).bind fun _=>some (.inl (w64 (a.1 - 1),(a.2.set a.1.toNat b).set (w64 (a.1 - 1)).toNat j))) (some (.inr a.2))
noncomputable def q4w (b : Int) (c : Int) (a : Int × List Int) : Option ((Int × List Int) ⊕ (List Int)):=
  cond (decide (a.1 < b)) (((loop (q4x c) (a.1,a.2)).bind fun d=>some d).bind fun f=>some (.inl (w64 (a.1 + 1),f))) (some (.inr a.2))
noncomputable def q4v (b : List Int) (a : Int) (c : Int) : Option (List Int):=
  (loop (q4w c a) (w64 (a + 1),b)).bind fun d=>some d
noncomputable def q5j (d : Int) (b : Int) (a : Int × List Int) : Option ((Int × List Int) ⊕ (List Int)):=
  cond (decide ((w64 ((w64 (2 * a.1)) + 1)) ≥ d)) (some (.inr a.2)) ((cond (decide ((w64 ((w64 ((w64 (2 * a.1)) + 1)) + 1)) < d)) ((idx a.2 (w64 (b + (w64 ((w64 (2 * a.1)) + 1))))).bind fun g=>(idx a.2 (w64 ((w64 (b + (w64 ((w64 (2 * a.1)) + 1)))) + 1))).bind fun h=>(Yr g h).bind fun j=>some j) (some false)).bind fun k=>(cond k (some (w64 ((w64 ((w64 (2 * a.1)) + 1)) + 1))) (some (w64 ((w64 (2 * a.1)) + 1)))).bind fun c=>(idx a.2 (w64 (b + a.1))).bind fun l=>(idx a.2 (w64 (b + c))).bind fun m=>(Yr l m).bind fun n=>cond (!n) (some (.inr a.2)) ((idx a.2 (w64 (b + c))).bind fun f=>(idx a.2 (w64 (b + a.1))).bind fun o=>(idx a.2 (w64 (b + a.1))).bind fun _=>(idx (a.2.set (w64 (b + a.1)).toNat f) (w64 (b + c))).bind fun _=>some (.inl (c,(a.2.set (w64 (b + a.1)).toNat f).set (w64 (b + c)).toNat o))))
noncomputable def q3d (a : List Int) (b : Int) (c : Int) (d : Int) : Option (List Int):=
  (loop (q5j c d) (b,a)).bind fun f=>some f
noncomputable def q4t (d : Int) (b : Int) (a : Int × List Int) : Option ((Int × List Int) ⊕ (List Int)):=
  cond (decide (a.1 ≥ 0)) ((q3d a.2 a.1 (w64 (d - b)) b).bind fun c=>(Qw c.length a.2.length).bind fun _=>some (.inl (w64 (a.1 - 1),c))) (some (.inr a.2))
noncomputable def q4u (b : Int) (a : Int × List Int) : Option ((Int × List Int) ⊕ (List Int)):=
  cond (decide (a.1 ≥ 0)) ((idx a.2 (w64 (b + a.1))).bind fun c=>(idx a.2 b).bind fun d=>(idx a.2 b).bind fun _=>(idx (a.2.set b.toNat c) (w64 (b + a.1))).bind fun _=>(q3d ((a.2.set b.toNat c).set (w64 (b + a.1)).toNat d) 0 a.1 b).bind fun f=>(Qw f.length ((a.2.set b.toNat c).set (w64 (b + a.1)).toNat d).length).bind fun _=>some (.inl (w64 (a.1 - 1),f))) (some (.inr a.2))
noncomputable def q4s (c : List Int) (a : Int) (b : Int) : Option (List Int):=
  (loop (q4t b a) (w64 (Int.tdiv (w64 ((w64 (b - a)) - 1)) 2),c)).bind fun d=>(loop (q4u a) (w64 ((w64 (b - a)) - 1),d)).bind fun f=>some f
noncomputable def q27 (c : List Int) (a : Int) (b : Int) (d : Int) : Option (Int × Int × Int):=
  (idx c b).bind fun f=>(idx c a).bind fun g=>(Yr f g).bind fun h=>cond h (some (b,a,w64 (d + 1))) (some (a,b,d))
noncomputable def q37 (a : List Int) (f : Int) (g : Int) (h : Int) (j : Int) : Option (Int × Int):=
  (q27 a f g j).bind fun b=>(q27 a b.2.1 h b.2.2).bind fun c=>(q27 a b.1 c.1 c.2.2).bind fun d=>some (d.2.1,d.2.2)
noncomputable def q26 (c : List Int) (a : Int) (d : Int) : Option (Int × Int):=
  (q37 c (w64 (a - 1)) a (w64 (a + 1)) d).bind fun b=>some (b.1,b.2)
noncomputable def q4r (d : List Int) (a : Int) (b : Int) : Option (Int × Int):=
  (cond (decide ((w64 (b - a)) ≥ 8)) ((cond (decide ((w64 (b - a)) ≥ 50)) ((q26 d (w64 (a + (w64 ((w64 (Int.tdiv (w64 (b - a)) 4)) * 1)))) 0).bind fun g=>(q26 d (w64 (a + (w64 ((w64 (Int.tdiv (w64 (b - a)) 4)) * 2)))) g.2).bind fun h=>(q26 d (w64 (a + (w64 ((w64 (Int.tdiv (w64 (b - a)) 4)) * 3)))) h.2).bind fun j=>some (g.1,h.1,j.1,j.2)) (some (w64 (a + (w64 ((w64 (Int.tdiv (w64 (b - a)) 4)) * 1))),w64 (a + (w64 ((w64 (Int.tdiv (w64 (b - a)) 4)) * 2))),w64 (a + (w64 ((w64 (Int.tdiv (w64 (b - a)) 4)) * 3))),0))).bind fun f=>(q37 d f.1 f.2.1 f.2.2.1 f.2.2.2).bind fun k=>some (k.1,k.2)) (some (w64 (a + (w64 ((w64 (Int.tdiv (w64 (b - a)) 4)) * 2))),0))).bind fun c=>cond (c.2 == 0) (some (c.1,1)) (cond (c.2 == 12) (some (c.1,2)) (some (c.1,0)))
noncomputable def q83 (a : Int × Int × List Int) : Option ((Int × Int × List Int) ⊕ (List Int)):=
  cond (decide (a.1 < a.2.1)) ((idx a.2.2 a.2.1).bind fun b=>(idx a.2.2 a.1).bind fun c=>(idx a.2.2 a.1).bind fun _=>(idx (a.2.2.set a.1.toNat b) a.2.1).bind fun _=>some (.inl (w64 (a.1 + 1),w64 (a.2.1 - 1),(a.2.2.set a.1.toNat b).set a.2.1.toNat c))) (some (.inr a.2.2))
noncomputable def q5h (a : List Int) (b : Int) (c : Int) : Option (List Int):=
  (loop q83 (b,w64 (c - 1),a)).bind fun d=>some d
noncomputable def q51 (c : Int) (b : Int × Int × List Int) (a : Int) : Option ((Int) ⊕ (Int)):=
  (cond (decide (a < c)) ((idx b.2.2 a).bind fun d=>(idx b.2.2 (w64 (a - 1))).bind fun f=>(Yr d f).bind fun g=>some (!g)) (some false)).bind fun h=>cond h (some (.inl (w64 (a + 1)))) (some (.inr a))
noncomputable def q7q (a : Int × List Int) : Option ((Int × List Int) ⊕ (List Int)):=
  cond (decide (a.1 ≥ 1)) ((idx a.2 a.1).bind fun c=>(idx a.2 (w64 (a.1 - 1))).bind fun d=>(Yr c d).bind fun f=>cond (!f) (some (.inr a.2)) ((idx a.2 (w64 (a.1 - 1))).bind fun b=>(idx a.2 a.1).bind fun g=>(idx a.2 a.1).bind fun _=>(idx (a.2.set a.1.toNat b) (w64 (a.1 - 1))).bind fun _=>some (.inl (w64 (a.1 - 1),(a.2.set a.1.toNat b).set (w64 (a.1 - 1)).toNat g)))) (some (.inr a.2))
noncomputable def q52 (d : Int) (b : Int) (a : Int × List Int) : Option ((Int × List Int) ⊕ (Int × List Int)):=
  cond (decide (a.1 < d)) ((idx a.2 a.1).bind fun f=>(idx a.2 (w64 (a.1 - 1))).bind fun g=>(Yr f g).bind fun h=>cond (!h) (some (.inr (b,a.2))) ((idx a.2 (w64 (a.1 - 1))).bind fun c=>(idx a.2 a.1).bind fun j=>(idx a.2 a.1).bind fun _=>(idx (a.2.set a.1.toNat c) (w64 (a.1 - 1))).bind fun _=>some (.inl (w64 (a.1 + 1),(a.2.set a.1.toNat c).set (w64 (a.1 - 1)).toNat j)))) (some (.inr (b,a.2)))
noncomputable def q3a (c : Int) (g : Int) (b : Int × Int × List Int) : Option ((Int × Int × List Int) ⊕ ((List Int) ⊕ (Bool × List Int))):=
  cond (decide (b.2.1 < 5)) (((loop (q51 c b) b.1).bind fun a=>cond (a == c) (some (.inr (true,b.2.2))) (cond (decide ((w64 (c - g)) < 50)) (some (.inr (false,b.2.2))) ((idx b.2.2 (w64 (a - 1))).bind fun d=>(idx b.2.2 a).bind fun h=>(idx b.2.2 a).bind fun _=>(idx (b.2.2.set a.toNat d) (w64 (a - 1))).bind fun _=>(cond (decide ((w64 (a - g)) ≥ 2)) ((loop q7q (w64 (a - 1),(b.2.2.set a.toNat d).set (w64 (a - 1)).toNat h)).bind fun f=>some f) (some ((b.2.2.set a.toNat d).set (w64 (a - 1)).toNat h))).bind fun j=>cond (decide ((w64 (c - a)) ≥ 2)) ((loop (q52 c a) (w64 (a + 1),j)).bind fun f=>some (.inl f)) (some (.inl (a,j))))) : Option ((Int × List Int) ⊕ (Bool × List Int))).bind fun l=>(match l with | .inl k=>some (.inl (k.1,w64 (b.2.1 + 1),k.2)) | .inr m=>some (.inr (.inr m)))) (some (.inr (.inl b.2.2)))
noncomputable def q39 (b : List Int) (a : Int) (c : Int) : Option (Bool × List Int):=
  (loop (q3a c a) (w64 (a + 1),0,b) : Option ((List Int) ⊕ (Bool × List Int))).bind fun d=>(match d with | .inl f=>some (false,f) | .inr g=>some g)
noncomputable def q55 (b : Int × Int × List Int) (c : Int) (a : Int) : Option ((Int) ⊕ (Int)):=
  (cond (decide (a≤b.2.1)) ((idx b.2.2 c).bind fun d=>(idx b.2.2 a).bind fun f=>(Yr d f).bind fun g=>some (!g)) (some false)).bind fun h=>cond h (some (.inl (w64 (a + 1)))) (some (.inr a))
noncomputable def q56 (c : Int) (b : Int × Int × List Int) (d : Int) (a : Int) : Option ((Int) ⊕ (Int)):=
  (cond (decide (c≤a)) ((idx b.2.2 d).bind fun f=>(idx b.2.2 a).bind fun g=>(Yr f g).bind fun h=>some h) (some false)).bind fun j=>cond j (some (.inl (w64 (a - 1)))) (some (.inr a))
noncomputable def q54 (d : Int) (a : Int × Int × List Int) : Option ((Int × Int × List Int) ⊕ (Int × List Int)):=
  (loop (q55 a d) a.1).bind fun b=>(loop (q56 b a d) a.2.1).bind fun c=>cond (decide (b > c)) (some (.inr (b,a.2.2))) ((idx a.2.2 c).bind fun f=>(idx a.2.2 b).bind fun g=>(idx a.2.2 b).bind fun _=>(idx (a.2.2.set b.toNat f) c).bind fun _=>some (.inl (w64 (b + 1),w64 (c - 1),(a.2.2.set b.toNat f).set c.toNat g)))
noncomputable def q53 (b : List Int) (a : Int) (g : Int) (c : Int) : Option (Int × List Int):=
  (idx b c).bind fun d=>(idx b a).bind fun h=>(idx b a).bind fun _=>(idx (b.set a.toNat d) c).bind fun _=>(loop (q54 a) (w64 (a + 1),w64 (g - 1),(b.set a.toNat d).set c.toNat h)).bind fun f=>some (f.1,f.2)
noncomputable def q58 (h : Int) (c : List Int) (b : Int) (d : Int) (f : Int) (g : Int) (a : Int) : Option ((Int) ⊕ (Int)):=
  (cond (decide (a≤(w64 (h - 1)))) ((idx ((c.set b.toNat d).set f.toNat g) a).bind fun j=>(idx ((c.set b.toNat d).set f.toNat g) b).bind fun k=>(Yr j k).bind fun l=>some l) (some false)).bind fun m=>cond m (some (.inl (w64 (a + 1)))) (some (.inr a))
noncomputable def q59 (h : Int) (c : List Int) (b : Int) (d : Int) (f : Int) (g : Int) (a : Int) : Option ((Int) ⊕ (Int)):=
  (cond (decide (h≤a)) ((idx ((c.set b.toNat d).set f.toNat g) a).bind fun j=>(idx ((c.set b.toNat d).set f.toNat g) b).bind fun k=>(Yr j k).bind fun l=>some (!l)) (some false)).bind fun m=>cond m (some (.inl (w64 (a - 1)))) (some (.inr a))
noncomputable def q5b (b : Int × Int × List Int) (c : Int) (a : Int) : Option ((Int) ⊕ (Int)):=
  (cond (decide (a≤b.2.1)) ((idx b.2.2 a).bind fun d=>(idx b.2.2 c).bind fun f=>(Yr d f).bind fun g=>some g) (some false)).bind fun h=>cond h (some (.inl (w64 (a + 1)))) (some (.inr a))
noncomputable def q5c (c : Int) (b : Int × Int × List Int) (d : Int) (a : Int) : Option ((Int) ⊕ (Int)):=
  (cond (decide (c≤a)) ((idx b.2.2 a).bind fun f=>(idx b.2.2 d).bind fun g=>(Yr f g).bind fun h=>some (!h)) (some false)).bind fun j=>cond j (some (.inl (w64 (a - 1)))) (some (.inr a))
noncomputable def q5a (d : Int) (a : Int × Int × List Int) : Option ((Int × Int × List Int) ⊕ (Int × List Int)):=
  (loop (q5b a d) a.1).bind fun b=>(loop (q5c b a d) a.2.1).bind fun c=>cond (decide (b > c)) (some (.inr (c,a.2.2))) ((idx a.2.2 c).bind fun f=>(idx a.2.2 b).bind fun g=>(idx a.2.2 b).bind fun _=>(idx (a.2.2.set b.toNat f) c).bind fun _=>some (.inl (w64 (b + 1),w64 (c - 1),(a.2.2.set b.toNat f).set c.toNat g)))
noncomputable def q57 (b : List Int) (a : Int) (k : Int) (c : Int) : Option (Int × Bool × List Int):=
  (idx b c).bind fun d=>(idx b a).bind fun f=>(idx b a).bind fun _=>(idx (b.set a.toNat d) c).bind fun _=>(loop (q58 k b a d c f) (w64 (a + 1))).bind fun j=>(loop (q59 j b a d c f) (w64 (k - 1))).bind fun g=>cond (decide (j > g)) ((idx ((b.set a.toNat d).set c.toNat f) a).bind fun l=>(idx ((b.set a.toNat d).set c.toNat f) g).bind fun o=>(idx ((b.set a.toNat d).set c.toNat f) g).bind fun _=>(idx (((b.set a.toNat d).set c.toNat f).set g.toNat l) a).bind fun _=>some (g,true,(((b.set a.toNat d).set c.toNat f).set g.toNat l).set a.toNat o)) ((idx ((b.set a.toNat d).set c.toNat f) g).bind fun m=>(idx ((b.set a.toNat d).set c.toNat f) j).bind fun p=>(idx ((b.set a.toNat d).set c.toNat f) j).bind fun _=>(idx (((b.set a.toNat d).set c.toNat f).set j.toNat m) g).bind fun _=>(loop (q5a a) (w64 (j + 1),w64 (g - 1),(((b.set a.toNat d).set c.toNat f).set j.toNat m).set g.toNat p)).bind fun h=>(idx h.2 a).bind fun n=>(idx h.2 h.1).bind fun q=>(idx h.2 h.1).bind fun _=>(idx (h.2.set h.1.toNat n) a).bind fun _=>some (h.1,false,(h.2.set h.1.toNat n).set a.toNat q))
noncomputable def q18 (a : Int) : Option Int:=
  (Ua (IntKind.wrap .u64 a)).bind fun b=>(shlK .u64 1 b).bind fun c=>some c
noncomputable def q19 (a : Int) : Option Int:=
  some (xorI .u64 (xorI .u64 (xorI .u64 a (IntKind.wrap .u64 (a * (2 ^ 13)))) (Int.fdiv (xorI .u64 a (IntKind.wrap .u64 (a * (2 ^ 13)))) (2 ^ 7))) (IntKind.wrap .u64 ((xorI .u64 (xorI .u64 a (IntKind.wrap .u64 (a * (2 ^ 13)))) (Int.fdiv (xorI .u64 a (IntKind.wrap .u64 (a * (2 ^ 13)))) (2 ^ 7))) * (2 ^ 17))))
noncomputable def q4q (b : Int) (d : Int) (f : Int) (a : Int × List Int × Int) : Option ((Int × List Int × Int) ⊕ (List Int)):=
  cond (decide (a.1≤(w64 ((w64 (b + (w64 ((w64 (Int.tdiv (w64 (d - b)) 4)) * 2)))) + 1)))) ((q19 a.2.2).bind fun c=>(cond (decide ((w64 (andI .u64 c (IntKind.wrap .u64 (f - 1)))) ≥ (w64 (d - b)))) (some (w64 ((w64 (andI .u64 c (IntKind.wrap .u64 (f - 1)))) - (w64 (d - b))))) (some (w64 (andI .u64 c (IntKind.wrap .u64 (f - 1)))))).bind fun g=>(idx a.2.1 (w64 (b + g))).bind fun h=>(idx a.2.1 a.1).bind fun j=>(idx a.2.1 a.1).bind fun _=>(idx (a.2.1.set a.1.toNat h) (w64 (b + g))).bind fun _=>some (.inl (w64 (a.1 + 1),(a.2.1.set a.1.toNat h).set (w64 (b + g)).toNat j,c))) (some (.inr a.2.1))
noncomputable def q4p (c : List Int) (a : Int) (b : Int) : Option (List Int):=
  cond (decide ((w64 (b - a)) ≥ 8)) ((q18 (w64 (b - a))).bind fun d=>(loop (q4q a b d) (w64 ((w64 (a + (w64 ((w64 (Int.tdiv (w64 (b - a)) 4)) * 2)))) - 1),c,IntKind.wrap .u64 (w64 (b - a)))).bind fun f=>some f) (some c)
noncomputable def q3b (rec : List Int→Int→Int→Int→Option (List Int)) (a : Int × Int × Int × Bool × Bool × List Int) : Option ((Int × Int × Int × Bool × Bool × List Int) ⊕ (List Int)):=
  cond (decide ((w64 (a.2.1 - a.1))≤12)) ((q4v a.2.2.2.2.2 a.1 a.2.1).bind fun k=>(Qw k.length a.2.2.2.2.2.length).bind fun _=>some (.inr k)) (cond (a.2.2.1 == 0) ((q4s a.2.2.2.2.2 a.1 a.2.1).bind fun l=>(Qw l.length a.2.2.2.2.2.length).bind fun _=>some (.inr l)) ((cond (!a.2.2.2.1) ((q4p a.2.2.2.2.2 a.1 a.2.1).bind fun m=>(Qw m.length a.2.2.2.2.2.length).bind fun _=>some (w64 (a.2.2.1 - 1),m)) (some (a.2.2.1,a.2.2.2.2.2))).bind fun c=>(q4r c.2 a.1 a.2.1).bind fun g=>(cond (g.2 == 2) ((q5h c.2 a.1 a.2.1).bind fun n=>(Qw n.length c.2.length).bind fun _=>some (w64 ((w64 (a.2.1 - 1)) - (w64 (g.1 - a.1))),1,n)) (some (g.1,g.2,c.2))).bind fun d=>(cond a.2.2.2.1 (some a.2.2.2.2.1) (some false)).bind fun q=>(cond q (some (d.2.1 == 1)) (some false)).bind fun r=>(cond r ((q39 d.2.2 a.1 a.2.1).bind fun h=>(Qw h.2.length d.2.2.length).bind fun _=>cond h.1 (some (.inr h.2)) (some (.inl h.2))) (some (.inl d.2.2)) : Option ((List Int) ⊕ (List Int))).bind fun s=>(match s with | .inl f=>(cond (decide (a.1 > 0)) ((idx f (w64 (a.1 - 1))).bind fun t=>(idx f d.1).bind fun u=>(Yr t u).bind fun v=>some (!v)) (some false)).bind fun w=>cond w ((q53 f a.1 a.2.1 d.1).bind fun j=>(Qw j.2.length f.length).bind fun _=>some (.inl (j.1,a.2.1,c.1,a.2.2.2.1,a.2.2.2.2.1,j.2))) ((q57 f a.1 a.2.1 d.1).bind fun b=>(Qw b.2.2.length f.length).bind fun _=>cond (decide ((w64 (b.1 - a.1)) < (w64 (a.2.1 - b.1)))) ((rec b.2.2 a.1 b.1 c.1).bind fun o=>(Qw o.length b.2.2.length).bind fun _=>some (.inl (w64 (b.1 + 1),a.2.1,c.1,decide ((w64 (b.1 - a.1)) ≥ (w64 (Int.tdiv (w64 (a.2.1 - a.1)) 8))),b.2.1,o))) ((rec b.2.2 (w64 (b.1 + 1)) a.2.1 c.1).bind fun p=>(Qw p.length b.2.2.length).bind fun _=>some (.inl (a.1,b.1,c.1,decide ((w64 (a.2.1 - b.1)) ≥ (w64 (Int.tdiv (w64 (a.2.1 - a.1)) 8))),b.2.1,p)))) | .inr x=>some (.inr x))))
noncomputable def q3c (rec : List Int→Int→Int→Int→Option (List Int)) (a : List Int) (b : Int) (c : Int) (d : Int) : Option (List Int):=
  (loop (q3b rec) (b,c,d,true,true,a)).bind fun f=>some f
noncomputable def q5g : Nat→List Int→Int→Int→Int→Option (List Int)
  | 0,_,_,_,_=>none
  | n + 1,a,b,c,d=>q3c (q5g n)  a b c d
noncomputable def Uf (a : List Int) : Option (List Int):=
  (Ua (IntKind.wrap .u64 (a.length : Int))).bind fun c=>(lim (fun n=>q5g n a 0 (a.length : Int) c)).bind fun b=>(Qw b.length a.length).bind fun _=>some b
noncomputable def q17 (a : Int × (Nat × Nat) × Int × List Int) : Option ((Int × (Nat × Nat) × Int × List Int) ⊕ (Int × List Int)):=
  cond (decide (a.2.2.1 < (a.2.1.2 : Int))) (((idxW a.2.2.2 a.2.1 a.2.2.1).bind fun c=>(idxW a.2.2.2 a.2.1 (w64 (a.2.2.1 - 1))).bind fun d=>cond (c != d) ((idxW a.2.2.2 a.2.1 a.2.2.1).bind fun f=>(idx a.2.2.2 a.1).bind fun _=>some (w64 (a.1 + 1),a.2.1,a.2.2.2.set a.1.toNat f)) (some (a.1,a.2.1,a.2.2.2))).bind fun b=>some (.inl (b.1,b.2.1,w64 (a.2.2.1 + 1),b.2.2))) (some (.inr (a.1,a.2.2.2)))
noncomputable def J0 (a : List Int) (b : Int) : Option ((Int) ⊕ ((Unit) ⊕ ((Nat × Nat) × List Int))):=
  cond (decide (b < (a.length : Int))) ((idx a b).bind fun d=>(idx a (w64 (b - 1))).bind fun f=>cond (d == f) ((sub2 a.length b a.length).bind fun g=>(loop q17 (b,g,1,a)).bind fun c=>(sub2 c.2.length c.1 c.2.length).bind fun h=>(sub2 c.2.length 0 c.1).bind fun j=>some (.inr (.inr (j,clrw c.2 h 0)))) (some (.inl (w64 (b + 1))))) (some (.inr (.inl ())))
noncomputable def q24 (a : List Int) : Option ((Nat × Nat) × List Int):=
  cond (decide ((a.length : Int) < 2)) (some ((0,a.length),a)) ((loop (J0 a) 1 : Option ((Unit) ⊕ ((Nat × Nat) × List Int))).bind fun b=>(match b with | .inl _=>some ((0,a.length),a) | .inr c=>some c))
structure qm where
  Lo : Int
  Hi : Int
  deriving DecidableEq
def Qn (x : qm) : List DV:=[.int .i64 x.Lo,.int .i64 x.Hi]
noncomputable def q25 (b : List qm) (c : qm→Option Bool) (a : Int) : Option ((Int) ⊕ ((Unit) ⊕ (Int))):=
  cond (decide (a < (b.length : Int))) ((idx b a).bind fun d=>(c d).bind fun f=>cond f (some (.inr (.inr a))) (some (.inl (w64 (a + 1))))) (some (.inr (.inl ())))
noncomputable def q7d (a : List qm) (b : qm→Option Bool) : Option Int:=
  (loop (q25 a b) 0 : Option ((Unit) ⊕ (Int))).bind fun c=>(match c with | .inl _=>some (-1) | .inr d=>some d)
noncomputable def q7a (a : List qm) (b : qm→Option Bool) : Option Bool:=
  (q7d a b).bind fun c=>some (decide (c ≥ 0))
noncomputable def q2b (a : qm) : Option Bool:=
  (cond (decide (a.Lo < a.Hi)) (some (decide (a.Lo ≥ (-1000000)))) (some false)).bind fun b=>(cond b (some (decide (a.Hi≤1000000))) (some false)).bind fun c=>some c
noncomputable def qag (a : qm) : Option Bool:=
  (q2b a).bind fun b=>some (!b)
def Jx (x : List qm) : List DV:=[.sl 2 (x.map Qn)]
structure qh where
  at_ : Int
  list_ : Int
  by_ : Int
  deriving DecidableEq
def Qb (x : qh) : List DV:=[.int .i64 x.at_,.int .i64 x.list_,.int .i64 x.by_]
noncomputable def q8a (a : qh) (b : qh) : Option Int:=
  some (w64 (a.at_ - b.at_))
noncomputable def q7m (c : Int) (d : qh→qh→Option Int) (a : Int × List qh) : Option ((Int × List qh) ⊕ (List qh)):=
  (cond (decide (a.1 > c)) ((idx a.2 a.1).bind fun f=>(idx a.2 (w64 (a.1 - 1))).bind fun g=>(d f g).bind fun h=>some (decide (h < 0))) (some false)).bind fun j=>cond j ((idx a.2 (w64 (a.1 - 1))).bind fun b=>(idx a.2 a.1).bind fun k=>(idx a.2 a.1).bind fun _=>(idx (a.2.set a.1.toNat b) (w64 (a.1 - 1))).bind fun _=>some (.inl (w64 (a.1 - 1),(a.2.set a.1.toNat b).set (w64 (a.1 - 1)).toNat k))) (some (.inr a.2))
noncomputable def q7l (b : Int) (c : Int) (d : qh→qh→Option Int) (a : Int × List qh) : Option ((Int × List qh) ⊕ (List qh)):=
  cond (decide (a.1 < b)) (((loop (q7m c d) (a.1,a.2)).bind fun f=>some f).bind fun g=>some (.inl (w64 (a.1 + 1),g))) (some (.inr a.2))
noncomputable def q7k (b : qh→qh→Option Int) (c : List qh) (a : Int) (d : Int) : Option (List qh):=
  (loop (q7l d a b) (w64 (a + 1),c)).bind fun f=>some f
noncomputable def q84 (d : Int) (b : Int) (f : qh→qh→Option Int) (a : Int × List qh) : Option ((Int × List qh) ⊕ (List qh)):=
  cond (decide ((w64 ((w64 (2 * a.1)) + 1)) ≥ d)) (some (.inr a.2)) ((cond (decide ((w64 ((w64 ((w64 (2 * a.1)) + 1)) + 1)) < d)) ((idx a.2 (w64 (b + (w64 ((w64 (2 * a.1)) + 1))))).bind fun h=>(idx a.2 (w64 ((w64 (b + (w64 ((w64 (2 * a.1)) + 1)))) + 1))).bind fun j=>(f h j).bind fun k=>some (decide (k < 0))) (some false)).bind fun l=>(cond l (some (w64 ((w64 ((w64 (2 * a.1)) + 1)) + 1))) (some (w64 ((w64 (2 * a.1)) + 1)))).bind fun c=>(idx a.2 (w64 (b + a.1))).bind fun m=>(idx a.2 (w64 (b + c))).bind fun n=>(f m n).bind fun o=>cond (!(decide (o < 0))) (some (.inr a.2)) ((idx a.2 (w64 (b + c))).bind fun g=>(idx a.2 (w64 (b + a.1))).bind fun p=>(idx a.2 (w64 (b + a.1))).bind fun _=>(idx (a.2.set (w64 (b + a.1)).toNat g) (w64 (b + c))).bind fun _=>some (.inl (c,(a.2.set (w64 (b + a.1)).toNat g).set (w64 (b + c)).toNat p))))
noncomputable def q5i (a : qh→qh→Option Int) (b : List qh) (c : Int) (d : Int) (f : Int) : Option (List qh):=
  (loop (q84 d f a) (c,b)).bind fun g=>some g
noncomputable def q7i (d : qh→qh→Option Int) (f : Int) (b : Int) (a : Int × List qh) : Option ((Int × List qh) ⊕ (List qh)):=
  cond (decide (a.1 ≥ 0)) ((q5i d a.2 a.1 (w64 (f - b)) b).bind fun c=>(Qw c.length a.2.length).bind fun _=>some (.inl (w64 (a.1 - 1),c))) (some (.inr a.2))
noncomputable def q7j (b : Int) (g : qh→qh→Option Int) (a : Int × List qh) : Option ((Int × List qh) ⊕ (List qh)):=
  cond (decide (a.1 ≥ 0)) ((idx a.2 (w64 (b + a.1))).bind fun c=>(idx a.2 b).bind fun d=>(idx a.2 b).bind fun _=>(idx (a.2.set b.toNat c) (w64 (b + a.1))).bind fun _=>(q5i g ((a.2.set b.toNat c).set (w64 (b + a.1)).toNat d) 0 a.1 b).bind fun f=>(Qw f.length ((a.2.set b.toNat c).set (w64 (b + a.1)).toNat d).length).bind fun _=>some (.inl (w64 (a.1 - 1),f))) (some (.inr a.2))
noncomputable def q7h (c : qh→qh→Option Int) (d : List qh) (a : Int) (b : Int) : Option (List qh):=
  (loop (q7i c b a) (w64 (Int.tdiv (w64 ((w64 (b - a)) - 1)) 2),d)).bind fun f=>(loop (q7j a c) (w64 ((w64 (b - a)) - 1),f)).bind fun g=>some g
noncomputable def q38 (f : qh→qh→Option Int) (c : List qh) (a : Int) (b : Int) (d : Int) : Option (Int × Int × Int):=
  (idx c b).bind fun g=>(idx c a).bind fun h=>(f g h).bind fun j=>cond (decide (j < 0)) (some (b,a,w64 (d + 1))) (some (a,b,d))
noncomputable def q4y (a : qh→qh→Option Int) (b : List qh) (g : Int) (h : Int) (j : Int) (k : Int) : Option (Int × Int):=
  (q38 a b g h k).bind fun c=>(q38 a b c.2.1 j c.2.2).bind fun d=>(q38 a b c.1 d.1 d.2.2).bind fun f=>some (f.2.1,f.2.2)
noncomputable def q36 (c : qh→qh→Option Int) (d : List qh) (a : Int) (f : Int) : Option (Int × Int):=
  (q4y c d (w64 (a - 1)) a (w64 (a + 1)) f).bind fun b=>some (b.1,b.2)
noncomputable def q7g (d : List qh) (a : Int) (b : Int) (f : qh→qh→Option Int) : Option (Int × Int):=
  (cond (decide ((w64 (b - a)) ≥ 8)) ((cond (decide ((w64 (b - a)) ≥ 50)) ((q36 f d (w64 (a + (w64 ((w64 (Int.tdiv (w64 (b - a)) 4)) * 1)))) 0).bind fun h=>(q36 f d (w64 (a + (w64 ((w64 (Int.tdiv (w64 (b - a)) 4)) * 2)))) h.2).bind fun j=>(q36 f d (w64 (a + (w64 ((w64 (Int.tdiv (w64 (b - a)) 4)) * 3)))) j.2).bind fun k=>some (h.1,j.1,k.1,k.2)) (some (w64 (a + (w64 ((w64 (Int.tdiv (w64 (b - a)) 4)) * 1))),w64 (a + (w64 ((w64 (Int.tdiv (w64 (b - a)) 4)) * 2))),w64 (a + (w64 ((w64 (Int.tdiv (w64 (b - a)) 4)) * 3))),0))).bind fun g=>(q4y f d g.1 g.2.1 g.2.2.1 g.2.2.2).bind fun l=>some (l.1,l.2)) (some (w64 (a + (w64 ((w64 (Int.tdiv (w64 (b - a)) 4)) * 2))),0))).bind fun c=>cond (c.2 == 0) (some (c.1,1)) (cond (c.2 == 12) (some (c.1,2)) (some (c.1,0)))
noncomputable def q82 (a : Int × Int × List qh) : Option ((Int × Int × List qh) ⊕ (List qh)):=
  cond (decide (a.1 < a.2.1)) ((idx a.2.2 a.2.1).bind fun b=>(idx a.2.2 a.1).bind fun c=>(idx a.2.2 a.1).bind fun _=>(idx (a.2.2.set a.1.toNat b) a.2.1).bind fun _=>some (.inl (w64 (a.1 + 1),w64 (a.2.1 - 1),(a.2.2.set a.1.toNat b).set a.2.1.toNat c))) (some (.inr a.2.2))
noncomputable def q81 (f : qh→qh→Option Int) (a : List qh) (b : Int) (c : Int) : Option (List qh):=
  (loop q82 (b,w64 (c - 1),a)).bind fun d=>some d
noncomputable def q7n (c : Int) (b : Int × Int × List qh) (d : qh→qh→Option Int) (a : Int) : Option ((Int) ⊕ (Int)):=
  (cond (decide (a < c)) ((idx b.2.2 a).bind fun f=>(idx b.2.2 (w64 (a - 1))).bind fun g=>(d f g).bind fun h=>some (!(decide (h < 0)))) (some false)).bind fun j=>cond j (some (.inl (w64 (a + 1)))) (some (.inr a))
noncomputable def q7o (c : qh→qh→Option Int) (a : Int × List qh) : Option ((Int × List qh) ⊕ (List qh)):=
  cond (decide (a.1 ≥ 1)) ((idx a.2 a.1).bind fun d=>(idx a.2 (w64 (a.1 - 1))).bind fun f=>(c d f).bind fun g=>cond (!(decide (g < 0))) (some (.inr a.2)) ((idx a.2 (w64 (a.1 - 1))).bind fun b=>(idx a.2 a.1).bind fun h=>(idx a.2 a.1).bind fun _=>(idx (a.2.set a.1.toNat b) (w64 (a.1 - 1))).bind fun _=>some (.inl (w64 (a.1 - 1),(a.2.set a.1.toNat b).set (w64 (a.1 - 1)).toNat h)))) (some (.inr a.2))
noncomputable def q7p (d : Int) (f : qh→qh→Option Int) (b : Int) (a : Int × List qh) : Option ((Int × List qh) ⊕ (Int × List qh)):=
  cond (decide (a.1 < d)) ((idx a.2 a.1).bind fun g=>(idx a.2 (w64 (a.1 - 1))).bind fun h=>(f g h).bind fun j=>cond (!(decide (j < 0))) (some (.inr (b,a.2))) ((idx a.2 (w64 (a.1 - 1))).bind fun c=>(idx a.2 a.1).bind fun k=>(idx a.2 a.1).bind fun _=>(idx (a.2.set a.1.toNat c) (w64 (a.1 - 1))).bind fun _=>some (.inl (w64 (a.1 + 1),(a.2.set a.1.toNat c).set (w64 (a.1 - 1)).toNat k)))) (some (.inr (b,a.2)))
noncomputable def q50 (c : Int) (d : qh→qh→Option Int) (h : Int) (b : Int × Int × List qh) : Option ((Int × Int × List qh) ⊕ ((List qh) ⊕ (Bool × List qh))):=
  cond (decide (b.2.1 < 5)) (((loop (q7n c b d) b.1).bind fun a=>cond (a == c) (some (.inr (true,b.2.2))) (cond (decide ((w64 (c - h)) < 50)) (some (.inr (false,b.2.2))) ((idx b.2.2 (w64 (a - 1))).bind fun f=>(idx b.2.2 a).bind fun j=>(idx b.2.2 a).bind fun _=>(idx (b.2.2.set a.toNat f) (w64 (a - 1))).bind fun _=>(cond (decide ((w64 (a - h)) ≥ 2)) ((loop (q7o d) (w64 (a - 1),(b.2.2.set a.toNat f).set (w64 (a - 1)).toNat j)).bind fun g=>some g) (some ((b.2.2.set a.toNat f).set (w64 (a - 1)).toNat j))).bind fun k=>cond (decide ((w64 (c - a)) ≥ 2)) ((loop (q7p c d a) (w64 (a + 1),k)).bind fun g=>some (.inl g)) (some (.inl (a,k))))) : Option ((Int × List qh) ⊕ (Bool × List qh))).bind fun m=>(match m with | .inl l=>some (.inl (l.1,w64 (b.2.1 + 1),l.2)) | .inr n=>some (.inr (.inr n)))) (some (.inr (.inl b.2.2)))
noncomputable def q4z (b : qh→qh→Option Int) (c : List qh) (a : Int) (d : Int) : Option (Bool × List qh):=
  (loop (q50 d b a) (w64 (a + 1),0,c) : Option ((List qh) ⊕ (Bool × List qh))).bind fun f=>(match f with | .inl g=>some (false,g) | .inr h=>some h)
noncomputable def q7z (b : Int × Int × List qh) (c : Int) (d : qh→qh→Option Int) (a : Int) : Option ((Int) ⊕ (Int)):=
  (cond (decide (a≤b.2.1)) ((idx b.2.2 c).bind fun f=>(idx b.2.2 a).bind fun g=>(d f g).bind fun h=>some (!(decide (h < 0)))) (some false)).bind fun j=>cond j (some (.inl (w64 (a + 1)))) (some (.inr a))
noncomputable def q80 (c : Int) (b : Int × Int × List qh) (d : Int) (f : qh→qh→Option Int) (a : Int) : Option ((Int) ⊕ (Int)):=
  (cond (decide (c≤a)) ((idx b.2.2 d).bind fun g=>(idx b.2.2 a).bind fun h=>(f g h).bind fun j=>some (decide (j < 0))) (some false)).bind fun k=>cond k (some (.inl (w64 (a - 1)))) (some (.inr a))
noncomputable def q7y (d : Int) (f : qh→qh→Option Int) (a : Int × Int × List qh) : Option ((Int × Int × List qh) ⊕ (Int × List qh)):=
  (loop (q7z a d f) a.1).bind fun b=>(loop (q80 b a d f) a.2.1).bind fun c=>cond (decide (b > c)) (some (.inr (b,a.2.2))) ((idx a.2.2 c).bind fun g=>(idx a.2.2 b).bind fun h=>(idx a.2.2 b).bind fun _=>(idx (a.2.2.set b.toNat g) c).bind fun _=>some (.inl (w64 (b + 1),w64 (c - 1),(a.2.2.set b.toNat g).set c.toNat h)))
noncomputable def q7x (g : qh→qh→Option Int) (b : List qh) (a : Int) (h : Int) (c : Int) : Option (Int × List qh):=
  (idx b c).bind fun d=>(idx b a).bind fun j=>(idx b a).bind fun _=>(idx (b.set a.toNat d) c).bind fun _=>(loop (q7y a g) (w64 (a + 1),w64 (h - 1),(b.set a.toNat d).set c.toNat j)).bind fun f=>some (f.1,f.2)
noncomputable def q7s (h : Int) (c : List qh) (b : Int) (d : qh) (f : Int) (g : qh) (j : qh→qh→Option Int) (a : Int) : Option ((Int) ⊕ (Int)):=
  (cond (decide (a≤(w64 (h - 1)))) ((idx ((c.set b.toNat d).set f.toNat g) a).bind fun k=>(idx ((c.set b.toNat d).set f.toNat g) b).bind fun l=>(j k l).bind fun m=>some (decide (m < 0))) (some false)).bind fun n=>cond n (some (.inl (w64 (a + 1)))) (some (.inr a))
noncomputable def q7t (h : Int) (c : List qh) (b : Int) (d : qh) (f : Int) (g : qh) (j : qh→qh→Option Int) (a : Int) : Option ((Int) ⊕ (Int)):=
  (cond (decide (h≤a)) ((idx ((c.set b.toNat d).set f.toNat g) a).bind fun k=>(idx ((c.set b.toNat d).set f.toNat g) b).bind fun l=>(j k l).bind fun m=>some (!(decide (m < 0)))) (some false)).bind fun n=>cond n (some (.inl (w64 (a - 1)))) (some (.inr a))
noncomputable def q7v (b : Int × Int × List qh) (c : Int) (d : qh→qh→Option Int) (a : Int) : Option ((Int) ⊕ (Int)):=
  (cond (decide (a≤b.2.1)) ((idx b.2.2 a).bind fun f=>(idx b.2.2 c).bind fun g=>(d f g).bind fun h=>some (decide (h < 0))) (some false)).bind fun j=>cond j (some (.inl (w64 (a + 1)))) (some (.inr a))
noncomputable def q7w (c : Int) (b : Int × Int × List qh) (d : Int) (f : qh→qh→Option Int) (a : Int) : Option ((Int) ⊕ (Int)):=
  (cond (decide (c≤a)) ((idx b.2.2 a).bind fun g=>(idx b.2.2 d).bind fun h=>(f g h).bind fun j=>some (!(decide (j < 0)))) (some false)).bind fun k=>cond k (some (.inl (w64 (a - 1)))) (some (.inr a))
noncomputable def q7u (d : Int) (f : qh→qh→Option Int) (a : Int × Int × List qh) : Option ((Int × Int × List qh) ⊕ (Int × List qh)):=
  (loop (q7v a d f) a.1).bind fun b=>(loop (q7w b a d f) a.2.1).bind fun c=>cond (decide (b > c)) (some (.inr (c,a.2.2))) ((idx a.2.2 c).bind fun g=>(idx a.2.2 b).bind fun h=>(idx a.2.2 b).bind fun _=>(idx (a.2.2.set b.toNat g) c).bind fun _=>some (.inl (w64 (b + 1),w64 (c - 1),(a.2.2.set b.toNat g).set c.toNat h)))
noncomputable def q7r (k : qh→qh→Option Int) (b : List qh) (a : Int) (l : Int) (c : Int) : Option (Int × Bool × List qh):=
  (idx b c).bind fun d=>(idx b a).bind fun f=>(idx b a).bind fun _=>(idx (b.set a.toNat d) c).bind fun _=>(loop (q7s l b a d c f k) (w64 (a + 1))).bind fun j=>(loop (q7t j b a d c f k) (w64 (l - 1))).bind fun g=>cond (decide (j > g)) ((idx ((b.set a.toNat d).set c.toNat f) a).bind fun m=>(idx ((b.set a.toNat d).set c.toNat f) g).bind fun p=>(idx ((b.set a.toNat d).set c.toNat f) g).bind fun _=>(idx (((b.set a.toNat d).set c.toNat f).set g.toNat m) a).bind fun _=>some (g,true,(((b.set a.toNat d).set c.toNat f).set g.toNat m).set a.toNat p)) ((idx ((b.set a.toNat d).set c.toNat f) g).bind fun n=>(idx ((b.set a.toNat d).set c.toNat f) j).bind fun q=>(idx ((b.set a.toNat d).set c.toNat f) j).bind fun _=>(idx (((b.set a.toNat d).set c.toNat f).set j.toNat n) g).bind fun _=>(loop (q7u a k) (w64 (j + 1),w64 (g - 1),(((b.set a.toNat d).set c.toNat f).set j.toNat n).set g.toNat q)).bind fun h=>(idx h.2 a).bind fun o=>(idx h.2 h.1).bind fun r=>(idx h.2 h.1).bind fun _=>(idx (h.2.set h.1.toNat o) a).bind fun _=>some (h.1,false,(h.2.set h.1.toNat o).set a.toNat r))
noncomputable def q7f (b : Int) (d : Int) (f : Int) (a : Int × List qh × Int) : Option ((Int × List qh × Int) ⊕ (List qh)):=
  cond (decide (a.1≤(w64 ((w64 (b + (w64 ((w64 (Int.tdiv (w64 (d - b)) 4)) * 2)))) + 1)))) ((q19 a.2.2).bind fun c=>(cond (decide ((w64 (andI .u64 c (IntKind.wrap .u64 (f - 1)))) ≥ (w64 (d - b)))) (some (w64 ((w64 (andI .u64 c (IntKind.wrap .u64 (f - 1)))) - (w64 (d - b))))) (some (w64 (andI .u64 c (IntKind.wrap .u64 (f - 1)))))).bind fun g=>(idx a.2.1 (w64 (b + g))).bind fun h=>(idx a.2.1 a.1).bind fun j=>(idx a.2.1 a.1).bind fun _=>(idx (a.2.1.set a.1.toNat h) (w64 (b + g))).bind fun _=>some (.inl (w64 (a.1 + 1),(a.2.1.set a.1.toNat h).set (w64 (b + g)).toNat j,c))) (some (.inr a.2.1))
noncomputable def q7e (g : qh→qh→Option Int) (c : List qh) (a : Int) (b : Int) : Option (List qh):=
  cond (decide ((w64 (b - a)) ≥ 8)) ((q18 (w64 (b - a))).bind fun d=>(loop (q7f a b d) (w64 ((w64 (a + (w64 ((w64 (Int.tdiv (w64 (b - a)) 4)) * 2)))) - 1),c,IntKind.wrap .u64 (w64 (b - a)))).bind fun f=>some f) (some c)
noncomputable def q5e (c : qh→qh→Option Int) (rec : List qh→Int→Int→Int→Option (List qh)) (a : Int × Int × Int × Bool × Bool × List qh) : Option ((Int × Int × Int × Bool × Bool × List qh) ⊕ (List qh)):=
  cond (decide ((w64 (a.2.1 - a.1))≤12)) ((q7k c a.2.2.2.2.2 a.1 a.2.1).bind fun l=>(Qw l.length a.2.2.2.2.2.length).bind fun _=>some (.inr l)) (cond (a.2.2.1 == 0) ((q7h c a.2.2.2.2.2 a.1 a.2.1).bind fun m=>(Qw m.length a.2.2.2.2.2.length).bind fun _=>some (.inr m)) ((cond (!a.2.2.2.1) ((q7e c a.2.2.2.2.2 a.1 a.2.1).bind fun n=>(Qw n.length a.2.2.2.2.2.length).bind fun _=>some (w64 (a.2.2.1 - 1),n)) (some (a.2.2.1,a.2.2.2.2.2))).bind fun d=>(q7g d.2 a.1 a.2.1 c).bind fun h=>(cond (h.2 == 2) ((q81 c d.2 a.1 a.2.1).bind fun o=>(Qw o.length d.2.length).bind fun _=>some (w64 ((w64 (a.2.1 - 1)) - (w64 (h.1 - a.1))),1,o)) (some (h.1,h.2,d.2))).bind fun f=>(cond a.2.2.2.1 (some a.2.2.2.2.1) (some false)).bind fun r=>(cond r (some (f.2.1 == 1)) (some false)).bind fun s=>(cond s ((q4z c f.2.2 a.1 a.2.1).bind fun j=>(Qw j.2.length f.2.2.length).bind fun _=>cond j.1 (some (.inr j.2)) (some (.inl j.2))) (some (.inl f.2.2)) : Option ((List qh) ⊕ (List qh))).bind fun t=>(match t with | .inl g=>(cond (decide (a.1 > 0)) ((idx g (w64 (a.1 - 1))).bind fun u=>(idx g f.1).bind fun v=>(c u v).bind fun w=>some (!(decide (w < 0)))) (some false)).bind fun x=>cond x ((q7x c g a.1 a.2.1 f.1).bind fun k=>(Qw k.2.length g.length).bind fun _=>some (.inl (k.1,a.2.1,d.1,a.2.2.2.1,a.2.2.2.2.1,k.2))) ((q7r c g a.1 a.2.1 f.1).bind fun b=>(Qw b.2.2.length g.length).bind fun _=>cond (decide ((w64 (b.1 - a.1)) < (w64 (a.2.1 - b.1)))) ((rec b.2.2 a.1 b.1 d.1).bind fun p=>(Qw p.length b.2.2.length).bind fun _=>some (.inl (w64 (b.1 + 1),a.2.1,d.1,decide ((w64 (b.1 - a.1)) ≥ (w64 (Int.tdiv (w64 (a.2.1 - a.1)) 8))),b.2.1,p))) ((rec b.2.2 (w64 (b.1 + 1)) a.2.1 d.1).bind fun q=>(Qw q.length b.2.2.length).bind fun _=>some (.inl (a.1,b.1,d.1,decide ((w64 (a.2.1 - b.1)) ≥ (w64 (Int.tdiv (w64 (a.2.1 - a.1)) 8))),b.2.1,q)))) | .inr y=>some (.inr y))))
noncomputable def q5f (rec : List qh→Int→Int→Int→Option (List qh)) (a : qh→qh→Option Int) (b : List qh) (c : Int) (d : Int) (f : Int) : Option (List qh):=
  (loop (q5e a rec) (c,d,f,true,true,b)).bind fun g=>some g
noncomputable def q5d : Nat→(qh→qh→Option Int)→List qh→Int→Int→Int→Option (List qh)
  | 0,_,_,_,_,_=>none
  | n + 1,a,b,c,d,f=>q5f (q5d n a) a b c d f
noncomputable def q4o (c : qh→qh→Option Int) (a : List qh) : Option (List qh):=
  (Ua (IntKind.wrap .u64 (a.length : Int))).bind fun d=>(lim (fun n=>q5d n c a 0 (a.length : Int) d)).bind fun b=>(Qw b.length a.length).bind fun _=>some b
noncomputable def qaa (a : List qh) : Option (List qh):=
  some a
noncomputable def q3i (b : List qm) (c : Int × List qh) (a : Int × List qh) : Option ((Int × List qh) ⊕ (List qh)):=
  cond (decide (a.1 < (b.length : Int))) ((idx b a.1).bind fun d=>(app 24 a.2 [({at_:=d.Lo,list_:=c.1,by_:=1} : qh),({at_:=d.Hi,list_:=c.1,by_:=(-1)} : qh)]).bind fun f=>some (.inl (w64 (a.1 + 1),f))) (some (.inr a.2))
noncomputable def Ug (b : List (List qm)) (a : Int × List qh) : Option ((Int × List qh) ⊕ (List qh)):=
  cond (decide (a.1 < (b.length : Int))) (((idx b a.1).bind fun c=>(loop (q3i c a) (0,a.2)).bind fun d=>some d).bind fun f=>some (.inl (w64 (a.1 + 1),f))) (some (.inr a.2))
noncomputable def q8b (b : List (List qm)) : Option (List (List qm) × List qh):=
  (loop (Ug b) (0,[])).bind fun c=>(q4o (fun f g=>q8a f g) c).bind fun a=>(Qw a.length c.length).bind fun _=>(qaa a).bind fun d=>(Qw d.length a.length).bind fun _=>some (b,d)
noncomputable def q8c (d : Int) (c : Bool) (b : Int) (a : List qm) : Option (Bool × Int × List qm):=
  (cond (!c) (some true) (some (b == d))).bind fun f=>cond f (some (c,b,a)) ((cond (decide ((a.length : Int) > 0)) ((idx a (w64 ((a.length : Int) - 1))).bind fun g=>some (g.Hi == b)) (some false)).bind fun h=>cond h ((idx a (w64 ((a.length : Int) - 1))).bind fun j=>some (c,b,a.set (w64 ((a.length : Int) - 1)).toNat ({Lo:=j.Lo,Hi:=d} : qm))) ((app 16 a [({Lo:=b,Hi:=d} : qm)]).bind fun k=>some (c,b,k)))
noncomputable def q3j (f : List (List qm) × List qh) (g : Bool→Bool→Option Bool) (a : Int × List Int × Int × Bool × List qm) : Option ((Int × List Int × Int × Bool × List qm) ⊕ (List qm)):=
  cond (decide (a.1 < (f.2.length : Int))) ((idx f.2 a.1).bind fun b=>((q8c b.at_ a.2.2.2.1 a.2.2.1 a.2.2.2.2).bind fun h=>(idxA 2 a.2.1 b.list_).bind fun c=>(idxA 2 a.2.1 b.list_).bind fun _=>(idxA 2 (a.2.1.set b.list_.toNat (w64 (c + b.by_))) 0).bind fun j=>(idxA 2 (a.2.1.set b.list_.toNat (w64 (c + b.by_))) 1).bind fun k=>(g (decide (j > 0)) (decide (k > 0))).bind fun l=>some (a.2.1.set b.list_.toNat (w64 (c + b.by_)),l,h.2.2)).bind fun d=>some (.inl (w64 (a.1 + 1),d.1,b.at_,d.2.1,d.2.2))) (some (.inr a.2.2.2.2))
noncomputable def q5p (a : List qm) (b : List qm) (d : Bool→Bool→Option Bool) : Option (List qm):=
  (q8b [a,b]).bind fun c=>(Qw c.1.length [a,b].length).bind fun _=>((loop (q3j c d) (0,[0,0],0,false,[])).bind fun f=>some f).bind fun g=>some g
noncomputable def q89 (a : Bool) (b : Bool) : Option Bool:=
  some a
noncomputable def q2a (a : List qm) : Option (List qm × Int):=
  cond (decide ((a.length : Int) > 400)) (some ([],4)) ((q7a a (fun b=>qag b)).bind fun c=>cond c (some ([],8)) ((q5p a [] (fun b d=>q89 b d)).bind fun f=>some (f,0)))
noncomputable def qa5 (b : List qm) (f : List qm) (a : Int) : Option ((Int) ⊕ ((Unit) ⊕ (Bool))):=
  cond (decide (a < (b.length : Int))) ((idx b a).bind fun c=>(idx f a).bind fun d=>cond (!((c.Lo == d.Lo) && ((c.Hi == d.Hi) && true))) (some (.inr (.inr false))) (some (.inl (w64 (a + 1))))) (some (.inr (.inl ())))
noncomputable def q7c (a : List qm) (b : List qm) : Option Bool:=
  cond ((a.length : Int) != (b.length : Int)) (some false) ((loop (qa5 a b) 0 : Option ((Unit) ⊕ (Bool))).bind fun c=>(match c with | .inl _=>some true | .inr d=>some d))
noncomputable def q4g (c : Int) (a : Int × List ql) : Option ((Int × List ql) ⊕ (List ql)):=
  cond (decide (a.1 < (a.2.length : Int))) ((idx a.2 a.1).bind fun b=>some (.inl (w64 (a.1 + 1),a.2.set a.1.toNat ({X0:=b.X0,Y0:=b.Y0,X1:=c,Y1:=b.Y1} : ql)))) (some (.inr a.2))
noncomputable def q4h (b : List qm) (f : Int) (c : Int) (g : List ql) (a : Int × List ql) : Option ((Int × List ql) ⊕ (List qm × Int × Int × List ql)):=
  cond (decide (a.1 < (b.length : Int))) ((idx b a.1).bind fun d=>(app 32 a.2 [({X0:=f,Y0:=d.Lo,X1:=c,Y1:=d.Hi} : ql)]).bind fun h=>some (.inl (w64 (a.1 + 1),h))) (some (.inr (b,(g.length : Int),c,a.2)))
noncomputable def q73 (a : List ql) (d : List qm) (f : Int) (h : Int) (g : Int) (b : Int) (c : List qm) : Option (List qm × Int × Int × List ql):=
  (cond (decide ((c.length : Int) > 0)) (some (h == g)) (some false)).bind fun j=>(cond j ((q7c d c).bind fun k=>some k) (some false)).bind fun l=>cond l ((loop (q4g b) (f,a)).bind fun m=>some (d,f,b,m)) ((loop (q4h c g b a) (0,a)).bind fun n=>some n)
noncomputable def q20 (b : List ql) (a : Int × List Int) : Option ((Int × List Int) ⊕ (List Int)):=
  cond (decide (a.1 < (b.length : Int))) ((idx b a.1).bind fun c=>(app 8 a.2 [c.X0,c.X1]).bind fun d=>some (.inl (w64 (a.1 + 1),d))) (some (.inr a.2))
noncomputable def q30 (c : List ql) (d : Int) (a : Int × List qm) : Option ((Int × List qm) ⊕ (List qm)):=
  cond (decide (a.1 < (c.length : Int))) (((idx c a.1).bind fun b=>(cond (decide (b.X0≤d)) (some (decide (d < b.X1))) (some false)).bind fun f=>cond f ((app 16 a.2 [({Lo:=b.Y0,Hi:=b.Y1} : qm)]).bind fun g=>some g) (some a.2)).bind fun h=>some (.inl (w64 (a.1 + 1),h))) (some (.inr a.2))
noncomputable def q21 (d : List Int) (g : List ql) (a : Int × List qm × Int × Int × List ql) : Option ((Int × List qm × Int × Int × List ql) ⊕ (List qm × Int × Int × List ql)):=
  cond (decide (a.1 < (d.length : Int))) ((idx d (w64 (a.1 - 1))).bind fun f=>(idx d a.1).bind fun h=>((idx [g] 0).bind fun j=>(loop (q30 j f) (0,[])).bind fun k=>some k).bind fun l=>((q2a l).bind fun m=>(q73 a.2.2.2.2 a.2.1 a.2.2.1 a.2.2.2.1 f h m.1).bind fun b=>some (b.1,b.2.1,b.2.2.1,b.2.2.2)).bind fun c=>some (.inl (w64 (a.1 + 1),c.1,c.2.1,c.2.2.1,c.2.2.2))) (some (.inr (a.2.1,a.2.2.1,a.2.2.2.1,a.2.2.2.2)))
noncomputable def q4i (d : List ql) : Option (List ql × Int):=
  (((idx [d] 0).bind fun j=>(loop (q20 j) (0,[])).bind fun b=>some b).bind fun f=>(Uf f).bind fun c=>(Qw c.length f.length).bind fun _=>(q24 c).bind fun a=>(Qw a.2.length c.length).bind fun _=>(q2c a.2.length a.1).bind fun _=>some ((a.2.drop a.1.1).take a.1.2)).bind fun k=>((loop (q21 k d) (1,[],0,0,[])).bind fun b=>some b).bind fun g=>(cond (decide ((g.2.2.2.length : Int) > 400)) (some (4,[])) (some (0,g.2.2.2))).bind fun h=>some (h.2,h.1)
noncomputable def qa2 (d : List ql) (f : List ql) (a : Int) : Option ((Int) ⊕ ((Unit) ⊕ (Bool))):=
  cond (decide (a < (d.length : Int))) ((idx d a).bind fun b=>(idx f a).bind fun c=>cond (!((b.X0 == c.X0) && ((b.Y0 == c.Y0) && ((b.X1 == c.X1) && ((b.Y1 == c.Y1) && true))))) (some (.inr (.inr false))) (some (.inl (w64 (a + 1))))) (some (.inr (.inl ())))
noncomputable def Ue (a : List ql) (b : List ql) : Option Bool:=
  cond ((a.length : Int) != (b.length : Int)) (some false) ((loop (qa2 a b) 0 : Option ((Unit) ⊕ (Bool))).bind fun c=>(match c with | .inl _=>some true | .inr d=>some d))
noncomputable def q2y (a : List ql) : Option Int:=
  cond (decide ((a.length : Int) > 400)) (some 4) ((q78 a (fun c=>q1x c)).bind fun d=>cond d (some 8) ((q4i a).bind fun b=>(cond (b.2 != 0) (some true) ((Ue b.1 a).bind fun f=>some (!f))).bind fun g=>cond g (some 8) (some 0)))
noncomputable def q4a (a : Int) : Option Bool:=
  (cond (decide (a ≥ (-1000000))) (some (decide (a≤1000000))) (some false)).bind fun b=>some b
def Qh (x : qn) : List DV:=[.int .i64 x.Lo.X,.int .i64 x.Lo.Y,.int .i64 x.Lo.Z,.int .i64 x.Hi.X,.int .i64 x.Hi.Y,.int .i64 x.Hi.Z]
noncomputable def qd0 (a : Int) (b : Unit) : Option ((Unit) ⊕ (Unit)):=
  cond (decide (a < 0)) none (some (.inr ()))
noncomputable def q4b (c : List ql) (f : Int) (d : Int) (a : Int × List qn) : Option ((Int × List qn) ⊕ (List ql × Int × Int × List qn)):=
  cond (decide (a.1 < (c.length : Int))) ((idx c a.1).bind fun b=>(app 48 a.2 [({Lo:=({X:=b.X0,Y:=b.Y0,Z:=f} : qj),Hi:=({X:=b.X1,Y:=b.Y1,Z:=d} : qj)} : qn)]).bind fun g=>some (.inl (w64 (a.1 + 1),g))) (some (.inr (c,0,d,a.2)))
noncomputable def q72 (b : Int) (f : Int) (c : Int) (d : Int) (a : List ql) : Option (List ql × Int × Int × List qn):=
  (cond (decide ((a.length : Int) > 0)) (some (f == c)) (some false)).bind fun g=>(cond g ((Ue [] a).bind fun h=>some h) (some false)).bind fun j=>cond j ((loop (qd0 b) ()).bind fun _=>some ([],b,d,[])) ((loop (q4b a c d) (0,[])).bind fun k=>some k)
noncomputable def Js (c : List ql) (a : Int) (b : Int) : Option (List qn × Int):=
  (q2y c).bind fun d=>cond (d != 0) (some ([],d)) ((q4a a).bind fun h=>(cond (!h) (some true) ((q4a b).bind fun j=>some (!j))).bind fun k=>(cond k (some true) (some (decide (a ≥ b)))).bind fun l=>cond l (some ([],2)) ((q72 0 0 a b c).bind fun f=>(cond (decide ((f.2.2.2.length : Int) > 400)) (some (4,[])) (some (0,f.2.2.2))).bind fun g=>some (g.2,g.1)))
structure Qv where
  Region : List ql
  Height : Int
  deriving DecidableEq
def Zb (x : Qv) : List DV:=[.sl 4 (x.Region.map Q0),.int .i64 x.Height]
noncomputable def q35 (b : List Qv) (c : Qv→Option Bool) (a : Int) : Option ((Int) ⊕ ((Unit) ⊕ (Int))):=
  cond (decide (a < (b.length : Int))) ((idx b a).bind fun d=>(c d).bind fun f=>cond f (some (.inr (.inr a))) (some (.inl (w64 (a + 1))))) (some (.inr (.inl ())))
noncomputable def qa9 (a : List Qv) (b : Qv→Option Bool) : Option Int:=
  (loop (q35 a b) 0 : Option ((Unit) ⊕ (Int))).bind fun c=>(match c with | .inl _=>some (-1) | .inr d=>some d)
noncomputable def q7b (a : List Qv) (b : Qv→Option Bool) : Option Bool:=
  (qa9 a b).bind fun c=>some (decide (c ≥ 0))
noncomputable def q12 (a : Qv) : Option Bool:=
  (cond (decide (a.Height < 1)) (some true) (some (decide (a.Height > 1000000)))).bind fun b=>some b
noncomputable def q4d (c : Int) (a : Int × List qn) : Option ((Int × List qn) ⊕ (List qn)):=
  cond (decide (a.1 < (a.2.length : Int))) ((idx a.2 a.1).bind fun b=>some (.inl (w64 (a.1 + 1),a.2.set a.1.toNat ({Lo:=b.Lo,Hi:=({X:=b.Hi.X,Y:=b.Hi.Y,Z:=c} : qj)} : qn)))) (some (.inr a.2))
noncomputable def q4e (c : List ql) (f : Int) (d : Int) (g : List qn) (a : Int × List qn) : Option ((Int × List qn) ⊕ (List ql × Int × Int × List qn)):=
  cond (decide (a.1 < (c.length : Int))) ((idx c a.1).bind fun b=>(app 48 a.2 [({Lo:=({X:=b.X0,Y:=b.Y0,Z:=f} : qj),Hi:=({X:=b.X1,Y:=b.Y1,Z:=d} : qj)} : qn)]).bind fun h=>some (.inl (w64 (a.1 + 1),h))) (some (.inr (c,(g.length : Int),d,a.2)))
noncomputable def q4c (a : List qn) (d : List ql) (f : Int) (h : Int) (g : Int) (b : Int) (c : List ql) : Option (List ql × Int × Int × List qn):=
  (cond (decide ((c.length : Int) > 0)) (some (h == g)) (some false)).bind fun j=>(cond j ((Ue d c).bind fun k=>some k) (some false)).bind fun l=>cond l ((loop (q4d b) (f,a)).bind fun m=>some (d,f,b,m)) ((loop (q4e c g b a) (0,a)).bind fun n=>some n)
noncomputable def q13 (b : List Qv) (a : Int) : Option ((Int) ⊕ ((Unit) ⊕ (List qn × Int))):=
  cond (decide (a < (b.length : Int))) ((idx b a).bind fun d=>(q2y d.Region).bind fun c=>cond (c != 0) (some (.inr (.inr ([],c)))) (some (.inl (w64 (a + 1))))) (some (.inr (.inl ())))
noncomputable def q14 (d : List Qv) (a : Int × Int × List ql × Int × Int × List qn) : Option ((Int × Int × List ql × Int × Int × List qn) ⊕ ((List ql × Int × Int × List qn) ⊕ (List qn × Int))):=
  cond (decide (a.2.1 < (d.length : Int))) ((idx d a.2.1).bind fun b=>cond (decide ((w64 (a.1 + b.Height)) > 1000000)) (some (.inr (.inr ([],16)))) ((q4c a.2.2.2.2.2 a.2.2.1 a.2.2.2.1 a.2.2.2.2.1 a.1 (w64 (a.1 + b.Height)) b.Region).bind fun c=>some (.inl (w64 (a.1 + b.Height),w64 (a.2.1 + 1),c.1,c.2.1,c.2.2.1,c.2.2.2)))) (some (.inr (.inl (a.2.2.1,a.2.2.2.1,a.2.2.2.2.1,a.2.2.2.2.2))))
noncomputable def Yh (a : List Qv) (c : Int) : Option (List qn × Int):=
  cond (decide ((a.length : Int) > 100)) (some ([],4)) ((loop (q13 a) 0 : Option ((Unit) ⊕ (List qn × Int))).bind fun g=>(match g with | .inl _=>(q4a c).bind fun h=>(cond (!h) (some true) ((q7b a (fun j=>q12 j)).bind fun k=>some k)).bind fun l=>cond l (some ([],2)) ((loop (q14 a) (c,0,[],0,0,[]) : Option ((List ql × Int × Int × List qn) ⊕ (List qn × Int))).bind fun m=>(match m with | .inl d=>(cond (decide ((d.2.2.2.length : Int) > 400)) (some (4,[])) (some (0,d.2.2.2))).bind fun f=>some (f.2,f.1) | .inr b=>some b)) | .inr b=>some b))
noncomputable def q34 (b : List qn) (c : qn→Option Bool) (a : Int) : Option ((Int) ⊕ ((Unit) ⊕ (Int))):=
  cond (decide (a < (b.length : Int))) ((idx b a).bind fun d=>(c d).bind fun f=>cond f (some (.inr (.inr a))) (some (.inl (w64 (a + 1))))) (some (.inr (.inl ())))
noncomputable def qa8 (a : List qn) (b : qn→Option Bool) : Option Int:=
  (loop (q34 a b) 0 : Option ((Unit) ⊕ (Int))).bind fun c=>(match c with | .inl _=>some (-1) | .inr d=>some d)
noncomputable def q79 (a : List qn) (b : qn→Option Bool) : Option Bool:=
  (qa8 a b).bind fun c=>some (decide (c ≥ 0))
noncomputable def q5o (a : qj) : Option Bool:=
  (cond (decide ((min (min a.X a.Y) a.Z) ≥ (-1000000))) (some (decide ((max (max a.X a.Y) a.Z)≤1000000))) (some false)).bind fun b=>some b
noncomputable def q86 (a : qn) : Option Bool:=
  (cond (decide (a.Lo.X < a.Hi.X)) (some (decide (a.Lo.Y < a.Hi.Y))) (some false)).bind fun b=>(cond b (some (decide (a.Lo.Z < a.Hi.Z))) (some false)).bind fun c=>(cond c ((q5o a.Lo).bind fun d=>some d) (some false)).bind fun f=>(cond f ((q5o a.Hi).bind fun g=>some g) (some false)).bind fun h=>some h
noncomputable def q29 (a : qn) : Option Bool:=
  (q86 a).bind fun b=>some (!b)
def Kw (x : List qn) : List DV:=[.sl 6 (x.map Qh)]
noncomputable def q32 (b : List ql) (c : ql→Option Bool) (a : Int) : Option ((Int) ⊕ ((Unit) ⊕ (Int))):=
  cond (decide (a < (b.length : Int))) ((idx b a).bind fun d=>(c d).bind fun f=>cond f (some (.inr (.inr a))) (some (.inl (w64 (a + 1))))) (some (.inr (.inl ())))
noncomputable def qa6 (a : List ql) (b : ql→Option Bool) : Option Int:=
  (loop (q32 a b) 0 : Option ((Unit) ⊕ (Int))).bind fun c=>(match c with | .inl _=>some (-1) | .inr d=>some d)
noncomputable def q77 (a : List ql) (b : ql→Option Bool) : Option Bool:=
  (qa6 a b).bind fun c=>some (decide (c ≥ 0))
noncomputable def q1y (a : ql) : Option Bool:=
  (q4j a).bind fun b=>some (!b)
noncomputable def q2z (a : List ql) : Option (List ql × Int):=
  cond (decide ((a.length : Int) > 400)) (some ([],4)) ((q77 a (fun c=>q1y c)).bind fun d=>cond d (some ([],8)) ((q4i a).bind fun b=>some (b.1,b.2)))
noncomputable def q5m (c : Int) (a : Int × List qn) : Option ((Int × List qn) ⊕ (List qn)):=
  cond (decide (a.1 < (a.2.length : Int))) ((idx a.2 a.1).bind fun b=>some (.inl (w64 (a.1 + 1),a.2.set a.1.toNat ({Lo:=b.Lo,Hi:=({X:=b.Hi.X,Y:=b.Hi.Y,Z:=c} : qj)} : qn)))) (some (.inr a.2))
noncomputable def q5n (c : List ql) (f : Int) (d : Int) (g : List qn) (a : Int × List qn) : Option ((Int × List qn) ⊕ (List ql × Int × Int × List qn)):=
  cond (decide (a.1 < (c.length : Int))) ((idx c a.1).bind fun b=>(app 48 a.2 [({Lo:=({X:=b.X0,Y:=b.Y0,Z:=f} : qj),Hi:=({X:=b.X1,Y:=b.Y1,Z:=d} : qj)} : qn)]).bind fun h=>some (.inl (w64 (a.1 + 1),h))) (some (.inr (c,(g.length : Int),d,a.2)))
noncomputable def q85 (a : List qn) (d : List ql) (f : Int) (h : Int) (g : Int) (b : Int) (c : List ql) : Option (List ql × Int × Int × List qn):=
  (cond (decide ((c.length : Int) > 0)) (some (h == g)) (some false)).bind fun j=>(cond j ((Ue d c).bind fun k=>some k) (some false)).bind fun l=>cond l ((loop (q5m b) (f,a)).bind fun m=>some (d,f,b,m)) ((loop (q5n c g b a) (0,a)).bind fun n=>some n)
noncomputable def q3e (b : List qn) (a : Int × List Int) : Option ((Int × List Int) ⊕ (List Int)):=
  cond (decide (a.1 < (b.length : Int))) ((idx b a.1).bind fun c=>(app 8 a.2 [c.Lo.Z,c.Hi.Z]).bind fun d=>some (.inl (w64 (a.1 + 1),d))) (some (.inr a.2))
noncomputable def q3g (c : List qn) (d : Int) (a : Int × List ql) : Option ((Int × List ql) ⊕ (List ql)):=
  cond (decide (a.1 < (c.length : Int))) (((idx c a.1).bind fun b=>(cond (decide (b.Lo.Z≤d)) (some (decide (d < b.Hi.Z))) (some false)).bind fun f=>cond f ((app 32 a.2 [({X0:=b.Lo.X,Y0:=b.Lo.Y,X1:=b.Hi.X,Y1:=b.Hi.Y} : ql)]).bind fun g=>some g) (some a.2)).bind fun h=>some (.inl (w64 (a.1 + 1),h))) (some (.inr a.2))
noncomputable def q3f (d : List Int) (h : List qn) (a : Int × List ql × Int × Int × List qn) : Option ((Int × List ql × Int × Int × List qn) ⊕ ((List ql × Int × Int × List qn) ⊕ (List qn × Int))):=
  cond (decide (a.1 < (d.length : Int))) ((idx d (w64 (a.1 - 1))).bind fun g=>(idx d a.1).bind fun j=>((idx [h] 0).bind fun k=>(loop (q3g k g) (0,[])).bind fun l=>some l).bind fun m=>((q2z m).bind fun f=>cond (f.2 != 0) (some (.inr ([],f.2))) ((q85 a.2.2.2.2 a.2.1 a.2.2.1 a.2.2.2.1 g j f.1).bind fun b=>some (.inl (b.1,b.2.1,b.2.2.1,b.2.2.2))) : Option ((List ql × Int × Int × List qn) ⊕ (List qn × Int))).bind fun n=>(match n with | .inl c=>some (.inl (w64 (a.1 + 1),c.1,c.2.1,c.2.2.1,c.2.2.2)) | .inr o=>some (.inr (.inr o)))) (some (.inr (.inl (a.2.1,a.2.2.1,a.2.2.2.1,a.2.2.2.2))))
noncomputable def q87 (f : List qn) : Option (List qn × Int):=
  (((idx [f] 0).bind fun j=>(loop (q3e j) (0,[])).bind fun b=>some b).bind fun g=>(Uf g).bind fun c=>(Qw c.length g.length).bind fun _=>(q24 c).bind fun a=>(Qw a.2.length c.length).bind fun _=>(q2c a.2.length a.1).bind fun _=>some ((a.2.drop a.1.1).take a.1.2)).bind fun k=>((loop (q3f k f) (1,[],0,0,[]) : Option ((List ql × Int × Int × List qn) ⊕ (List qn × Int))).bind fun l=>(match l with | .inl b=>some (.inl b) | .inr d=>some (.inr d)) : Option ((List ql × Int × Int × List qn) ⊕ (List qn × Int))).bind fun m=>(match m with | .inl h=>cond (decide ((h.2.2.2.length : Int) > 400)) (some ([],4)) (some (h.2.2.2,0)) | .inr d=>some d)
noncomputable def qdb (d : List qn) (f : List qn) (c : Int) : Option ((Int) ⊕ ((Unit) ⊕ (Bool))):=
  cond (decide (c < (d.length : Int))) ((idx d c).bind fun a=>(idx f c).bind fun b=>cond (!((a.Lo.X == b.Lo.X) && ((a.Lo.Y == b.Lo.Y) && ((a.Lo.Z == b.Lo.Z) && ((a.Hi.X == b.Hi.X) && ((a.Hi.Y == b.Hi.Y) && ((a.Hi.Z == b.Hi.Z) && true))))))) (some (.inr (.inr false))) (some (.inl (w64 (c + 1))))) (some (.inr (.inl ())))
noncomputable def qa4 (a : List qn) (b : List qn) : Option Bool:=
  cond ((a.length : Int) != (b.length : Int)) (some false) ((loop (qdb a b) 0 : Option ((Unit) ⊕ (Bool))).bind fun c=>(match c with | .inl _=>some true | .inr d=>some d))
noncomputable def q28 (a : List qn) : Option Int:=
  cond (decide ((a.length : Int) > 400)) (some 4) ((q79 a (fun c=>q29 c)).bind fun d=>cond d (some 8) ((q87 a).bind fun b=>(cond (b.2 != 0) (some true) ((qa4 b.1 a).bind fun f=>some (!f))).bind fun g=>cond g (some 8) (some 0)))
noncomputable def q70 (c : List qn) (a : Int) : Option (List qn × Int):=
  (q28 c).bind fun b=>cond (b != 0) (some ([],b)) ((cond (decide (a < 1)) (some true) (some (decide (a > 1000000)))).bind fun d=>cond d (some ([],2)) none)
noncomputable def q47 (c : List qn) (a : Int × List ql) : Option ((Int × List ql) ⊕ (List ql)):=
  cond (decide (a.1 < (c.length : Int))) ((idx c a.1).bind fun b=>(app 32 a.2 [({X0:=b.Lo.X,Y0:=b.Lo.Y,X1:=b.Hi.X,Y1:=b.Hi.Y} : ql)]).bind fun d=>some (.inl (w64 (a.1 + 1),d))) (some (.inr a.2))
noncomputable def q46 (a : List qn) : Option (List ql × Int):=
  (q28 a).bind fun b=>cond (b != 0) (some ([],b)) ((loop (q47 a) (0,[])).bind fun d=>(q2z d).bind fun c=>some (c.1,c.2))
structure Qq where
  Turn : Int
  At : qj
  deriving DecidableEq
structure Q6 where
  Frame : Qq
  Size : qj
  deriving DecidableEq
noncomputable def q2p (a : qj) (b : Int) : Option Bool:=
  (cond (decide ((min (min a.X a.Y) a.Z) ≥ b)) (some (decide ((max (max a.X a.Y) a.Z)≤1000000))) (some false)).bind fun c=>some c
noncomputable def Ul (a : Qq) : Option Int:=
  (cond (decide (a.Turn ≥ 24)) (some true) ((q2p a.At (-1000000)).bind fun b=>some (!b))).bind fun c=>cond c (some 8) (some 0)
noncomputable def q6e (a : Q6) : Option Int:=
  (Ul a.Frame).bind fun b=>(cond (b != 0) (some true) ((q2p a.Size 0).bind fun c=>some (!c))).bind fun d=>cond d (some 8) (some 0)
noncomputable def q94 (a : Int) : Option qj:=
  cond ((IntKind.wrap .u8 (Int.tdiv a 2)) == 0) (some ({X:=w64 (1 - (w64 (2 * (w64 (Int.tmod a 2))))),Y:=0,Z:=0} : qj)) (cond ((IntKind.wrap .u8 (Int.tdiv a 2)) == 1) (some ({X:=0,Y:=w64 (1 - (w64 (2 * (w64 (Int.tmod a 2))))),Z:=0} : qj)) (some ({X:=0,Y:=0,Z:=w64 (1 - (w64 (2 * (w64 (Int.tmod a 2)))))} : qj)))
noncomputable def qbs (a : qj) (b : qj) : Option qj:=
  some ({X:=w64 ((w64 (a.Y * b.Z)) - (w64 (a.Z * b.Y))),Y:=w64 ((w64 (a.Z * b.X)) - (w64 (a.X * b.Z))),Z:=w64 ((w64 (a.X * b.Y)) - (w64 (a.Y * b.X)))} : qj)
noncomputable def q1h (a : Int) : Option (qj × qj × qj):=
  (cond (decide ((Int.tmod a 4) ≥ (IntKind.wrap .u8 ((IntKind.wrap .u8 (Int.tdiv (IntKind.wrap .u8 (Int.tdiv a 4)) 2)) * 2)))) (some (IntKind.wrap .u8 ((Int.tmod a 4) + 2))) (some (Int.tmod a 4))).bind fun d=>(q94 (IntKind.wrap .u8 (Int.tdiv a 4))).bind fun b=>(q94 d).bind fun c=>(qbs b c).bind fun f=>some (b,c,f)
def q3q (x : qj) : List DV:=[.int .i64 x.X,.int .i64 x.Y,.int .i64 x.Z]
noncomputable def q3v (a : qj × qj × qj) (b : qj) : Option qj:=
  some ({X:=w64 ((w64 ((w64 (b.X * a.1.X)) + (w64 (b.Y * a.2.1.X)))) + (w64 (b.Z * a.2.2.X))),Y:=w64 ((w64 ((w64 (b.X * a.1.Y)) + (w64 (b.Y * a.2.1.Y)))) + (w64 (b.Z * a.2.2.Y))),Z:=w64 ((w64 ((w64 (b.X * a.1.Z)) + (w64 (b.Y * a.2.1.Z)))) + (w64 (b.Z * a.2.2.Z)))} : qj)
noncomputable def q3u (a : qj × qj × qj) (c : Int) : Option ((Int) ⊕ ((Unit) ⊕ (Int))):=
  cond (decide (c < 24)) ((q1h c).bind fun b=>cond ((b.1.X == a.1.X) && ((b.1.Y == a.1.Y) && ((b.1.Z == a.1.Z) && ((b.2.1.X == a.2.1.X) && ((b.2.1.Y == a.2.1.Y) && ((b.2.1.Z == a.2.1.Z) && ((b.2.2.X == a.2.2.X) && ((b.2.2.Y == a.2.2.Y) && ((b.2.2.Z == a.2.2.Z) && true))))))))) (some (.inr (.inr c))) (some (.inl (IntKind.wrap .u8 (c + 1))))) (some (.inr (.inl ())))
noncomputable def q6g (a : qj × qj × qj) : Option Int:=
  (loop (q3u a) 0 : Option ((Unit) ⊕ (Int))).bind fun b=>(match b with | .inl _=>some 0 | .inr c=>some c)
noncomputable def q6f (a : Qq) (c : qj) : Option qj:=
  (q1h a.Turn).bind fun d=>(q3v d c).bind fun b=>some ({X:=w64 (b.X + a.At.X),Y:=w64 (b.Y + a.At.Y),Z:=w64 (b.Z + a.At.Z)} : qj)
noncomputable def q1i (b : (qj × qj × qj)) (a : Int × List qj) : Option ((Int × List qj) ⊕ (List qj)):=
  cond (decide (a.1 < 3)) ((idxA 3 a.2 a.1).bind fun c=>(q3v b c).bind fun d=>(idxA 3 a.2 a.1).bind fun _=>some (.inl (w64 (a.1 + 1),a.2.set a.1.toNat d))) (some (.inr a.2))
noncomputable def q6h (b : Qq) (c : Qq) : Option Qq:=
  (q1h b.Turn).bind fun a=>(q1h c.Turn).bind fun d=>(loop (q1i d) (0,[a.1,a.2.1,a.2.2])).bind fun f=>(arr3 f).bind fun g=>(q6g g).bind fun h=>(q6f c b.At).bind fun j=>some ({Turn:=h,At:=j} : Qq)
noncomputable def q6d (a : Qq) (b : Qq) : Option (Qq × Int):=
  (Ul a).bind fun c=>cond (c != 0) (some (({Turn:=0,At:=({X:=0,Y:=0,Z:=0} : qj)} : Qq),c)) ((Ul b).bind fun d=>cond (d != 0) (some (({Turn:=0,At:=({X:=0,Y:=0,Z:=0} : qj)} : Qq),d)) ((q6h a b).bind fun f=>(Ul f).bind fun g=>cond (g != 0) (some (({Turn:=0,At:=({X:=0,Y:=0,Z:=0} : qj)} : Qq),16)) (some (f,0))))
noncomputable def Zd (b : Q6) (c : qj) (d : qj) (f : Int) : Option (Q6 × Int):=
  (q6e b).bind fun g=>cond (g != 0) (some (({Frame:=({Turn:=0,At:=({X:=0,Y:=0,Z:=0} : qj)} : Qq),Size:=({X:=0,Y:=0,Z:=0} : qj)} : Q6),g)) ((Ul ({Turn:=f,At:=c} : Qq)).bind fun h=>(cond (h != 0) (some true) ((q2p d 0).bind fun j=>some (!j))).bind fun k=>cond k (some (({Frame:=({Turn:=0,At:=({X:=0,Y:=0,Z:=0} : qj)} : Qq),Size:=({X:=0,Y:=0,Z:=0} : qj)} : Q6),2)) ((q6d ({Turn:=f,At:=c} : Qq) b.Frame).bind fun a=>cond (a.2 != 0) (some (({Frame:=({Turn:=0,At:=({X:=0,Y:=0,Z:=0} : qj)} : Qq),Size:=({X:=0,Y:=0,Z:=0} : qj)} : Q6),a.2)) (some (({Frame:=a.1,Size:=d} : Q6),0))))
noncomputable def q2x (a : Q6) : Option Int:=
  (Zd a ({X:=0,Y:=0,Z:=0} : qj) ({X:=0,Y:=0,Z:=0} : qj) 0).bind fun b=>cond (b.2 != 0) (some 8) (some 0)
def q2m (x : Q6) : List DV:=[.int .u8 x.Frame.Turn,.int .i64 x.Frame.At.X,.int .i64 x.Frame.At.Y,.int .i64 x.Frame.At.Z,.int .i64 x.Size.X,.int .i64 x.Size.Y,.int .i64 x.Size.Z]
structure Y2 where
  t_ : Int
  at_ : qj
  flat_ : qj
  deriving DecidableEq
def q8x (x : Y2) : List DV:=[.int .u8 x.t_,.int .i64 x.at_.X,.int .i64 x.at_.Y,.int .i64 x.at_.Z,.int .i64 x.flat_.X,.int .i64 x.flat_.Y,.int .i64 x.flat_.Z]
noncomputable def Jg (a : qj) (b : Int) : Option (Int × qj × qj):=
  (idxA 6 [({t_:=10,at_:=({X:=a.X,Y:=0,Z:=0} : qj),flat_:=({X:=a.Y,Y:=a.Z,Z:=0} : qj)} : Y2),({t_:=11,at_:=({X:=0,Y:=0,Z:=a.Z} : qj),flat_:=({X:=a.Y,Y:=a.Z,Z:=0} : qj)} : Y2),({t_:=3,at_:=({X:=0,Y:=a.Y,Z:=a.Z} : qj),flat_:=({X:=a.X,Y:=a.Z,Z:=0} : qj)} : Y2),({t_:=2,at_:=({X:=0,Y:=0,Z:=0} : qj),flat_:=({X:=a.X,Y:=a.Z,Z:=0} : qj)} : Y2),({t_:=0,at_:=({X:=0,Y:=0,Z:=a.Z} : qj),flat_:=({X:=a.X,Y:=a.Y,Z:=0} : qj)} : Y2),({t_:=1,at_:=({X:=0,Y:=a.Y,Z:=0} : qj),flat_:=({X:=a.X,Y:=a.Y,Z:=0} : qj)} : Y2)] b).bind fun c=>(idxA 6 [({t_:=10,at_:=({X:=a.X,Y:=0,Z:=0} : qj),flat_:=({X:=a.Y,Y:=a.Z,Z:=0} : qj)} : Y2),({t_:=11,at_:=({X:=0,Y:=0,Z:=a.Z} : qj),flat_:=({X:=a.Y,Y:=a.Z,Z:=0} : qj)} : Y2),({t_:=3,at_:=({X:=0,Y:=a.Y,Z:=a.Z} : qj),flat_:=({X:=a.X,Y:=a.Z,Z:=0} : qj)} : Y2),({t_:=2,at_:=({X:=0,Y:=0,Z:=0} : qj),flat_:=({X:=a.X,Y:=a.Z,Z:=0} : qj)} : Y2),({t_:=0,at_:=({X:=0,Y:=0,Z:=a.Z} : qj),flat_:=({X:=a.X,Y:=a.Y,Z:=0} : qj)} : Y2),({t_:=1,at_:=({X:=0,Y:=a.Y,Z:=0} : qj),flat_:=({X:=a.X,Y:=a.Y,Z:=0} : qj)} : Y2)] b).bind fun d=>(idxA 6 [({t_:=10,at_:=({X:=a.X,Y:=0,Z:=0} : qj),flat_:=({X:=a.Y,Y:=a.Z,Z:=0} : qj)} : Y2),({t_:=11,at_:=({X:=0,Y:=0,Z:=a.Z} : qj),flat_:=({X:=a.Y,Y:=a.Z,Z:=0} : qj)} : Y2),({t_:=3,at_:=({X:=0,Y:=a.Y,Z:=a.Z} : qj),flat_:=({X:=a.X,Y:=a.Z,Z:=0} : qj)} : Y2),({t_:=2,at_:=({X:=0,Y:=0,Z:=0} : qj),flat_:=({X:=a.X,Y:=a.Z,Z:=0} : qj)} : Y2),({t_:=0,at_:=({X:=0,Y:=0,Z:=a.Z} : qj),flat_:=({X:=a.X,Y:=a.Y,Z:=0} : qj)} : Y2),({t_:=1,at_:=({X:=0,Y:=a.Y,Z:=0} : qj),flat_:=({X:=a.X,Y:=a.Y,Z:=0} : qj)} : Y2)] b).bind fun f=>some (c.t_,d.at_,f.flat_)
noncomputable def q6z (a : Int) (g : Int) (h : Int) (j : Int) (k : Int) (b : Int) (c : Int) (d : Int) (l : List Q6) : Option (Int × Int × Int × Int × Int × Int × Int × Int × List Q6):=
  (Jg ({X:=b,Y:=c,Z:=d} : qj) a).bind fun f=>(Zd ({Frame:=({Turn:=g,At:=({X:=h,Y:=j,Z:=k} : qj)} : Qq),Size:=({X:=b,Y:=c,Z:=d} : qj)} : Q6) f.2.1 f.2.2 f.1).bind fun m=>(idxA 6 l a).bind fun _=>some (m.2,g,h,j,k,b,c,d,l.set a.toNat m.1)
noncomputable def q11 (a : Int × List Q6 × Int × Int × Int × Int × Int × Int × Int) : Option ((Int × List Q6 × Int × Int × Int × Int × Int × Int × Int) ⊕ ((List Q6) ⊕ ((Q6 × Q6 × Q6 × Q6 × Q6 × Q6) × Int))):=
  cond (decide (a.1 < 6)) ((q6z a.1 a.2.2.1 a.2.2.2.1 a.2.2.2.2.1 a.2.2.2.2.2.1 a.2.2.2.2.2.2.1 a.2.2.2.2.2.2.2.1 a.2.2.2.2.2.2.2.2 a.2.1).bind fun b=>cond (b.1 != 0) (some (.inr (.inr ((({Frame:=({Turn:=0,At:=({X:=0,Y:=0,Z:=0} : qj)} : Qq),Size:=({X:=0,Y:=0,Z:=0} : qj)} : Q6),({Frame:=({Turn:=0,At:=({X:=0,Y:=0,Z:=0} : qj)} : Qq),Size:=({X:=0,Y:=0,Z:=0} : qj)} : Q6),({Frame:=({Turn:=0,At:=({X:=0,Y:=0,Z:=0} : qj)} : Qq),Size:=({X:=0,Y:=0,Z:=0} : qj)} : Q6),({Frame:=({Turn:=0,At:=({X:=0,Y:=0,Z:=0} : qj)} : Qq),Size:=({X:=0,Y:=0,Z:=0} : qj)} : Q6),({Frame:=({Turn:=0,At:=({X:=0,Y:=0,Z:=0} : qj)} : Qq),Size:=({X:=0,Y:=0,Z:=0} : qj)} : Q6),({Frame:=({Turn:=0,At:=({X:=0,Y:=0,Z:=0} : qj)} : Qq),Size:=({X:=0,Y:=0,Z:=0} : qj)} : Q6)),b.1)))) (some (.inl (w64 (a.1 + 1),b.2.2.2.2.2.2.2.2,b.2.1,b.2.2.1,b.2.2.2.1,b.2.2.2.2.1,b.2.2.2.2.2.1,b.2.2.2.2.2.2.1,b.2.2.2.2.2.2.2.1)))) (some (.inr (.inl a.2.1)))
noncomputable def Jr (a : Q6) : Option ((Q6 × Q6 × Q6 × Q6 × Q6 × Q6) × Int):=
  (q2x a).bind fun b=>cond (b != 0) (some ((({Frame:=({Turn:=0,At:=({X:=0,Y:=0,Z:=0} : qj)} : Qq),Size:=({X:=0,Y:=0,Z:=0} : qj)} : Q6),({Frame:=({Turn:=0,At:=({X:=0,Y:=0,Z:=0} : qj)} : Qq),Size:=({X:=0,Y:=0,Z:=0} : qj)} : Q6),({Frame:=({Turn:=0,At:=({X:=0,Y:=0,Z:=0} : qj)} : Qq),Size:=({X:=0,Y:=0,Z:=0} : qj)} : Q6),({Frame:=({Turn:=0,At:=({X:=0,Y:=0,Z:=0} : qj)} : Qq),Size:=({X:=0,Y:=0,Z:=0} : qj)} : Q6),({Frame:=({Turn:=0,At:=({X:=0,Y:=0,Z:=0} : qj)} : Qq),Size:=({X:=0,Y:=0,Z:=0} : qj)} : Q6),({Frame:=({Turn:=0,At:=({X:=0,Y:=0,Z:=0} : qj)} : Qq),Size:=({X:=0,Y:=0,Z:=0} : qj)} : Q6)),b)) ((loop q11 (0,[({Frame:=({Turn:=0,At:=({X:=0,Y:=0,Z:=0} : qj)} : Qq),Size:=({X:=0,Y:=0,Z:=0} : qj)} : Q6),({Frame:=({Turn:=0,At:=({X:=0,Y:=0,Z:=0} : qj)} : Qq),Size:=({X:=0,Y:=0,Z:=0} : qj)} : Q6),({Frame:=({Turn:=0,At:=({X:=0,Y:=0,Z:=0} : qj)} : Qq),Size:=({X:=0,Y:=0,Z:=0} : qj)} : Q6),({Frame:=({Turn:=0,At:=({X:=0,Y:=0,Z:=0} : qj)} : Qq),Size:=({X:=0,Y:=0,Z:=0} : qj)} : Q6),({Frame:=({Turn:=0,At:=({X:=0,Y:=0,Z:=0} : qj)} : Qq),Size:=({X:=0,Y:=0,Z:=0} : qj)} : Q6),({Frame:=({Turn:=0,At:=({X:=0,Y:=0,Z:=0} : qj)} : Qq),Size:=({X:=0,Y:=0,Z:=0} : qj)} : Q6)],a.Frame.Turn,a.Frame.At.X,a.Frame.At.Y,a.Frame.At.Z,a.Size.X,a.Size.Y,a.Size.Z) : Option ((List Q6) ⊕ ((Q6 × Q6 × Q6 × Q6 × Q6 × Q6) × Int))).bind fun c=>(match c with | .inl d=>(arr6 d).bind fun f=>some (f,0) | .inr g=>some g))
noncomputable def q2u : Option Q6:=
  some ({Frame:=({Turn:=0,At:=({X:=0,Y:=0,Z:=0} : qj)} : Qq),Size:=({X:=2,Y:=3,Z:=4} : qj)} : Q6)
noncomputable def q71 (a : Q6) (b : Int) : Option (Q6 × Int):=
  (q2x a).bind fun c=>cond (c != 0) (some (({Frame:=({Turn:=0,At:=({X:=0,Y:=0,Z:=0} : qj)} : Qq),Size:=({X:=0,Y:=0,Z:=0} : qj)} : Q6),c)) ((cond (decide (b < 0)) (some true) (some (decide (b > 1000000)))).bind fun d=>cond d (some (({Frame:=({Turn:=0,At:=({X:=0,Y:=0,Z:=0} : qj)} : Qq),Size:=({X:=0,Y:=0,Z:=0} : qj)} : Q6),2)) (some (({Frame:=a.Frame,Size:=({X:=a.Size.X,Y:=a.Size.Y,Z:=b} : qj)} : Q6),0)))
noncomputable def q1w (b : Q6) (a : Int) : Option (Q6 × Int):=
  (q2x b).bind fun c=>cond (c != 0) (some (({Frame:=({Turn:=0,At:=({X:=0,Y:=0,Z:=0} : qj)} : Qq),Size:=({X:=0,Y:=0,Z:=0} : qj)} : Q6),c)) ((cond (decide (a < 0)) (some true) (some (decide (a > 1000000)))).bind fun f=>cond f (some (({Frame:=({Turn:=0,At:=({X:=0,Y:=0,Z:=0} : qj)} : Qq),Size:=({X:=0,Y:=0,Z:=0} : qj)} : Q6),2)) (cond (decide ((min (w64 (b.Size.X - (w64 (2 * a)))) (w64 (b.Size.Y - (w64 (2 * a))))) < 0)) (some (({Frame:=({Turn:=0,At:=({X:=0,Y:=0,Z:=0} : qj)} : Qq),Size:=({X:=0,Y:=0,Z:=0} : qj)} : Q6),16)) ((Zd b ({X:=a,Y:=a,Z:=0} : qj) ({X:=w64 (b.Size.X - (w64 (2 * a))),Y:=w64 (b.Size.Y - (w64 (2 * a))),Z:=b.Size.Z} : qj) 0).bind fun d=>some (d.1,d.2))))
noncomputable def qae (a : qn) : Option (Int × Int × Int):=
  some (w64 (a.Hi.X - a.Lo.X),w64 (a.Hi.Y - a.Lo.Y),w64 (a.Hi.Z - a.Lo.Z))
noncomputable def q5l (c : List qn) (a : Int × Int) : Option ((Int × Int) ⊕ (Int)):=
  cond (decide (a.2 < (c.length : Int))) ((idx c a.2).bind fun d=>(qae d).bind fun b=>some (.inl (w64 (a.1 + (w64 ((w64 (b.1 * b.2.1)) * b.2.2))),w64 (a.2 + 1)))) (some (.inr a.1))
noncomputable def q5k (a : List qn) : Option (Int × Int):=
  (q28 a).bind fun b=>cond (b != 0) (some (0,b)) ((loop (q5l a) (0,0)).bind fun c=>some (c,0))
noncomputable def q45 (c : List qn) (d : Int) (f : Int) (a : Int × List qm) : Option ((Int × List qm) ⊕ (List qm)):=
  cond (decide (a.1 < (c.length : Int))) (((idx c a.1).bind fun b=>(cond (decide (b.Lo.X≤d)) (some (decide (d < b.Hi.X))) (some false)).bind fun g=>(cond g (some (decide (b.Lo.Y≤f))) (some false)).bind fun h=>(cond h (some (decide (f < b.Hi.Y))) (some false)).bind fun j=>cond j ((app 16 a.2 [({Lo:=b.Lo.Z,Hi:=b.Hi.Z} : qm)]).bind fun k=>some k) (some a.2)).bind fun l=>some (.inl (w64 (a.1 + 1),l))) (some (.inr a.2))
noncomputable def q6y (a : List qn) (d : Int) (f : Int) : Option (List qm × Int):=
  (q28 a).bind fun b=>cond (b != 0) (some ([],b)) ((loop (q45 a d f) (0,[])).bind fun g=>(q2a g).bind fun c=>some (c.1,c.2))
noncomputable def q9s (b : List qm) (f : List qm) (a : Int) : Option ((Int) ⊕ ((Unit) ⊕ (Bool))):=
  cond (decide (a < (b.length : Int))) ((idx b a).bind fun c=>(idx f a).bind fun d=>cond (!((c.Lo == d.Lo) && ((c.Hi == d.Hi) && true))) (some (.inr (.inr false))) (some (.inl (w64 (a + 1))))) (some (.inr (.inl ())))
noncomputable def q9r (a : List qm) (b : List qm) : Option Bool:=
  cond ((a.length : Int) != (b.length : Int)) (some false) ((loop (q9s a b) 0 : Option ((Unit) ⊕ (Bool))).bind fun c=>(match c with | .inl _=>some true | .inr d=>some d))
noncomputable def q6j : Option Bool:=
  (Uy 0 0 2 3).bind fun h=>(Js h 1 5).bind fun c=>(q5k c.1).bind fun d=>(Uy 0 0 2 2).bind fun j=>(Uy 0 0 1 1).bind fun k=>(Yh [({Region:=j,Height:=1} : Qv),({Region:=k,Height:=2} : Qv)] 0).bind fun b=>(q5k b.1).bind fun f=>(q6y b.1 0 0).bind fun g=>q2u.bind fun l=>(Jr l).bind fun a=>(cond (c.2 == 0) (some (d.2 == 0)) (some false)).bind fun m=>(cond m (some (d.1 == 24)) (some false)).bind fun n=>(cond n (some (b.2 == 0)) (some false)).bind fun o=>(cond o (some (f.2 == 0)) (some false)).bind fun p=>(cond p (some (f.1 == 6)) (some false)).bind fun q=>(cond q (some (g.2 == 0)) (some false)).bind fun r=>cond r ((q9r g.1 [({Lo:=0,Hi:=3} : qm)]).bind fun s=>(cond s (some (a.2 == 0)) (some false)).bind fun t=>(cond t (some ((a.1.2.2.2.2.1.Frame.Turn == 0) && ((a.1.2.2.2.2.1.Frame.At.X == 0) && ((a.1.2.2.2.2.1.Frame.At.Y == 0) && ((a.1.2.2.2.2.1.Frame.At.Z == 4) && ((a.1.2.2.2.2.1.Size.X == 2) && ((a.1.2.2.2.2.1.Size.Y == 3) && ((a.1.2.2.2.2.1.Size.Z == 0) && true)))))))) (some false)).bind fun u=>(cond u (some ((a.1.1.Frame.Turn == 10) && ((a.1.1.Frame.At.X == 2) && ((a.1.1.Frame.At.Y == 0) && ((a.1.1.Frame.At.Z == 0) && ((a.1.1.Size.X == 3) && ((a.1.1.Size.Y == 4) && ((a.1.1.Size.Z == 0) && true)))))))) (some false)).bind fun v=>some v) (some false)
noncomputable def q9c (a : Int) (b : Int) : Option qn:=
  some ({Lo:=({X:=0,Y:=0,Z:=a} : qj),Hi:=({X:=1,Y:=1,Z:=b} : qj)} : qn)
noncomputable def q9u (d : List qn) (f : List qn) (c : Int) : Option ((Int) ⊕ ((Unit) ⊕ (Bool))):=
  cond (decide (c < (d.length : Int))) ((idx d c).bind fun a=>(idx f c).bind fun b=>cond (!((a.Lo.X == b.Lo.X) && ((a.Lo.Y == b.Lo.Y) && ((a.Lo.Z == b.Lo.Z) && ((a.Hi.X == b.Hi.X) && ((a.Hi.Y == b.Hi.Y) && ((a.Hi.Z == b.Hi.Z) && true))))))) (some (.inr (.inr false))) (some (.inl (w64 (c + 1))))) (some (.inr (.inl ())))
noncomputable def q9t (a : List qn) (b : List qn) : Option Bool:=
  cond ((a.length : Int) != (b.length : Int)) (some false) ((loop (q9u a b) 0 : Option ((Unit) ⊕ (Bool))).bind fun c=>(match c with | .inl _=>some true | .inr d=>some d))
noncomputable def q9b : Option Bool:=
  (Uy 0 0 1 1).bind fun b=>(Js b 1 1).bind fun f=>(Js b 0 1000001).bind fun g=>(Js [] 0 1).bind fun c=>(mks 32 101 ({Region:=[],Height:=0} : Qv)).bind fun h=>(Yh h 0).bind fun j=>(Yh [({Region:=b,Height:=0} : Qv)] 0).bind fun k=>(Yh [({Region:=b,Height:=2} : Qv)] 999999).bind fun l=>(Yh [({Region:=b,Height:=1} : Qv),({Region:=b,Height:=1} : Qv),({Region:=[],Height:=3} : Qv),({Region:=b,Height:=1} : Qv)] (-1)).bind fun d=>(Yh [({Region:=[({X0:=0,Y0:=0,X1:=0,Y1:=0} : ql)],Height:=0} : Qv)] 1000001).bind fun m=>(q70 c.1 0).bind fun n=>(q46 [({Lo:=({X:=0,Y:=0,Z:=0} : qj),Hi:=({X:=0,Y:=0,Z:=0} : qj)} : qn)]).bind fun o=>(Jr ({Frame:=({Turn:=0,At:=({X:=0,Y:=0,Z:=0} : qj)} : Qq),Size:=({X:=(-1),Y:=0,Z:=0} : qj)} : Q6)).bind fun p=>(Jr ({Frame:=({Turn:=0,At:=({X:=1000000,Y:=0,Z:=0} : qj)} : Qq),Size:=({X:=1,Y:=0,Z:=0} : qj)} : Q6)).bind fun q=>q2u.bind fun r=>(q71 r (-1)).bind fun s=>q2u.bind fun t=>(q1w t 2).bind fun u=>q2u.bind fun v=>(q1w v 1).bind fun a=>q6j.bind fun w=>(cond w (some (f.2 == 2)) (some false)).bind fun x=>(cond x (some (g.2 == 2)) (some false)).bind fun y=>(cond y (some (c.2 == 0)) (some false)).bind fun z=>(cond z (some ((c.1.length : Int) == 0)) (some false)).bind fun aa=>(cond aa (some (j.2 == 4)) (some false)).bind fun ab=>(cond ab (some (k.2 == 2)) (some false)).bind fun ac=>(cond ac (some (l.2 == 16)) (some false)).bind fun ad=>(cond ad (some (d.2 == 0)) (some false)).bind fun ae=>cond ae ((q9c (-1) 1).bind fun af=>(q9c 4 5).bind fun ag=>(q9t d.1 [af,ag]).bind fun ah=>(cond ah (some (m.2 == 8)) (some false)).bind fun ai=>(cond ai (some (n.2 == 2)) (some false)).bind fun aj=>(cond aj (some (o.2 == 8)) (some false)).bind fun ak=>(cond ak (some (p.2 == 8)) (some false)).bind fun al=>(cond al (some (q.2 == 16)) (some false)).bind fun am=>(cond am (some (s.2 == 2)) (some false)).bind fun an=>(cond an (some (u.2 == 16)) (some false)).bind fun ao=>(cond ao (some (a.2 == 0)) (some false)).bind fun ap=>(cond ap (some ((a.1.Frame.Turn == 0) && ((a.1.Frame.At.X == 1) && ((a.1.Frame.At.Y == 1) && ((a.1.Frame.At.Z == 0) && ((a.1.Size.X == 0) && ((a.1.Size.Y == 1) && ((a.1.Size.Z == 4) && true)))))))) (some false)).bind fun aq=>some aq) (some false)
noncomputable def q3h (b : List qm) (a : Int) : Option ((Int) ⊕ ((Unit) ⊕ (Int))):=
  cond (decide (a < (b.length : Int))) ((idx b a).bind fun c=>(q2b c).bind fun d=>(cond (!d) (some true) ((cond (decide (a > 0)) ((idx b (w64 (a - 1))).bind fun f=>some (decide (f.Hi ≥ c.Lo))) (some false)).bind fun g=>some g)).bind fun h=>cond h (some (.inr (.inr 8))) (some (.inl (w64 (a + 1))))) (some (.inr (.inl ())))
noncomputable def qaf (a : List qm) : Option Int:=
  cond (decide ((a.length : Int) > 400)) (some 4) ((loop (q3h a) 0 : Option ((Unit) ⊕ (Int))).bind fun b=>(match b with | .inl _=>some 0 | .inr c=>some c))
noncomputable def qi3 (a : qm) : Option Bool:=
  (cond (decide (a.Lo < a.Hi)) (some (decide (a.Lo ≥ (-1000000)))) (some false)).bind fun b=>(cond b (some (decide (a.Hi≤1000000))) (some false)).bind fun c=>some c
noncomputable def qct (b : List qm) (a : Int) : Option ((Int) ⊕ ((Unit) ⊕ (Int))):=
  cond (decide (a < (b.length : Int))) ((idx b a).bind fun c=>(qi3 c).bind fun d=>(cond (!d) (some true) ((cond (decide (a > 0)) ((idx b (w64 (a - 1))).bind fun f=>(idx b a).bind fun g=>some (decide (f.Hi ≥ g.Lo))) (some false)).bind fun h=>some h)).bind fun j=>cond j (some (.inr (.inr 8))) (some (.inl (w64 (a + 1))))) (some (.inr (.inl ())))
noncomputable def q9o (a : List qm) : Option Int:=
  cond (decide ((a.length : Int) > 400)) (some 4) ((loop (qct a) 0 : Option ((Unit) ⊕ (Int))).bind fun b=>(match b with | .inl _=>some 0 | .inr c=>some c))
noncomputable def q6x (b : Int × List Int) (c : List Int) (a : Int) : Option ((Int) ⊕ (Int)):=
  (cond (decide (a > 0)) ((idx b.2 (w64 (a - 1))).bind fun d=>(idx c b.1).bind fun f=>some (decide (d > f))) (some false)).bind fun g=>cond g (some (.inl (w64 (a - 1)))) (some (.inr a))
noncomputable def q6w (d : List Int) (a : Int × List Int) : Option ((Int × List Int) ⊕ (List Int)):=
  cond (decide (a.1 < (d.length : Int))) (((loop (q6x a d) (a.2.length : Int)).bind fun c=>(cond (decide (c > 0)) ((idx a.2 (w64 (c - 1))).bind fun h=>(idx d a.1).bind fun j=>some (h == j)) (some false)).bind fun k=>cond k (some a.2) ((app 8 a.2 [0]).bind fun b=>(sub2 b.length (w64 (c + 1)) b.length).bind fun g=>(sub2 b.length c b.length).bind fun f=>(idx d a.1).bind fun l=>(idx (cpyw b g ((b.drop f.1).take f.2)) c).bind fun _=>some ((cpyw b g ((b.drop f.1).take f.2)).set c.toNat l))).bind fun m=>some (.inl (w64 (a.1 + 1),m))) (some (.inr a.2))
noncomputable def q44 (a : List Int) : Option (List Int):=
  (loop (q6w a) (0,[])).bind fun b=>some b
noncomputable def q6s (b : List qm) (a : Int × List Int) : Option ((Int × List Int) ⊕ (List Int)):=
  cond (decide (a.1 < (b.length : Int))) ((idx b a.1).bind fun c=>(idx b a.1).bind fun d=>(app 8 a.2 [c.Lo,d.Hi]).bind fun f=>some (.inl (w64 (a.1 + 1),f))) (some (.inr a.2))
noncomputable def qi0 (b : List qm) (a : Int × List Int) : Option ((Int × List Int) ⊕ (List Int)):=
  cond (decide (a.1 < (b.length : Int))) ((idx b a.1).bind fun c=>(idx b a.1).bind fun d=>(app 8 a.2 [c.Lo,d.Hi]).bind fun f=>some (.inl (w64 (a.1 + 1),f))) (some (.inr a.2))
noncomputable def qcu (a : List qm) (b : List qm) : Option (List Int):=
  (loop (q6s a) (0,[])).bind fun c=>(loop (qi0 b) (0,c)).bind fun d=>(q44 d).bind fun f=>some f
noncomputable def q6t (b : List qm) (c : Int) (a : Int) : Option ((Int) ⊕ ((Unit) ⊕ (Bool))):=
  cond (decide (a < (b.length : Int))) ((idx b a).bind fun d=>(cond (decide (d.Lo≤c)) ((idx b a).bind fun f=>some (decide (c < f.Hi))) (some false)).bind fun g=>cond g (some (.inr (.inr true))) (some (.inl (w64 (a + 1))))) (some (.inr (.inl ())))
noncomputable def q9p (a : List qm) (b : Int) : Option Bool:=
  (loop (q6t a b) 0 : Option ((Unit) ⊕ (Bool))).bind fun c=>(match c with | .inl _=>some false | .inr d=>some d)
noncomputable def qcv (c : Int) (a : Bool) (b : Bool) : Option Bool:=
  cond (c == 1) ((cond a (some b) (some false)).bind fun d=>some d) (cond (c == 2) ((cond a (some true) (some b)).bind fun f=>some f) ((cond a (some (!b)) (some false)).bind fun g=>some g))
noncomputable def q6r (b : List Int) (c : List Bool) (a : Int × List qm) : Option ((Int × List qm) ⊕ (List qm)):=
  cond (decide ((w64 (a.1 + 1)) < (b.length : Int))) (((idx c a.1).bind fun d=>cond (!d) (some a.2) ((cond (decide ((a.2.length : Int) > 0)) ((idx a.2 (w64 ((a.2.length : Int) - 1))).bind fun f=>(idx b a.1).bind fun g=>some (f.Hi == g)) (some false)).bind fun h=>cond h ((idx b (w64 (a.1 + 1))).bind fun j=>(idx a.2 (w64 ((a.2.length : Int) - 1))).bind fun k=>some (a.2.set (w64 ((a.2.length : Int) - 1)).toNat ({Lo:=k.Lo,Hi:=j} : qm))) ((idx b a.1).bind fun l=>(idx b (w64 (a.1 + 1))).bind fun m=>(app 16 a.2 [({Lo:=l,Hi:=m} : qm)]).bind fun n=>some n))).bind fun o=>some (.inl (w64 (a.1 + 1),o))) (some (.inr a.2))
noncomputable def qcs (a : List Int) (b : List Bool) : Option (List qm):=
  (loop (q6r a b) (0,[])).bind fun c=>some c
noncomputable def q6u (b : List Int) (c : List qm) (d : List qm) (f : Int) (a : Int × List Bool) : Option ((Int × List Bool) ⊕ (List Bool)):=
  cond (decide (a.1 < (b.length : Int))) ((idx b a.1).bind fun g=>(q9p c g).bind fun h=>(idx b a.1).bind fun j=>(q9p d j).bind fun k=>(qcv f h k).bind fun l=>(app 1 a.2 [l]).bind fun m=>some (.inl (w64 (a.1 + 1),m))) (some (.inr a.2))
noncomputable def q9q (d : Int) (a : List qm) (b : List qm) : Option (List qm):=
  (qcu a b).bind fun c=>(loop (q6u c a b d) (0,[])).bind fun f=>(qcs c f).bind fun g=>some g
noncomputable def q88 (b : List qm) (a : Int × Int) : Option ((Int × Int) ⊕ (Int)):=
  cond (decide (a.2 < (b.length : Int))) ((idx b a.2).bind fun c=>some (.inl (w64 (a.1 + (w64 (c.Hi - c.Lo))),w64 (a.2 + 1)))) (some (.inr a.1))
noncomputable def qjb (a : List qm) : Option (Int × Int):=
  (qaf a).bind fun b=>cond (b != 0) (some (0,b)) ((loop (q88 a) (0,0)).bind fun c=>some (c,0))
noncomputable def q6v (b : List qm) (a : Int × Int) : Option ((Int × Int) ⊕ (Int)):=
  cond (decide (a.2 < (b.length : Int))) ((idx b a.2).bind fun c=>(idx b a.2).bind fun d=>some (.inl (w64 ((w64 (a.1 + c.Hi)) - d.Lo),w64 (a.2 + 1)))) (some (.inr a.1))
noncomputable def qi2 (a : List qm) : Option (Int × Int):=
  (q9o a).bind fun b=>cond (b != 0) ((q9o a).bind fun c=>some (0,c)) ((loop (q6v a) (0,0)).bind fun d=>some (d,0))
end Go.Sh
