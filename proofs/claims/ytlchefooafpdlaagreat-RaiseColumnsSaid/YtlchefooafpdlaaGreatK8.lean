/- PX -/
import Derived.Test.YtlchefooafpdlaaGreatK7
namespace Go.Sh
open Go Go.Am
structure qf where
  X0 : Int
  Y0 : Int
  X1 : Int
  Y1 : Int
  deriving DecidableEq
structure Qt where
  Region : List qf
  Height : Int
  deriving DecidableEq
def qm (x : qf) : List DV:=[.int .i64 x.X0,.int .i64 x.Y0,.int .i64 x.X1,.int .i64 x.Y1]
def Zx (x : Qt) : List DV:=[.sl 4 (x.Region.map qm),.int .i64 x.Height]
structure qi where
  X : Int
  Y : Int
  Z : Int
  deriving DecidableEq
noncomputable def q1l (a : Int) (b : Int) (c : Int) (d : Int) : Option (List qf):=
  some [({X0:=a,Y0:=b,X1:=c,Y1:=d} : qf)]
structure qg where
  Lo : qi
  Hi : qi
  deriving DecidableEq
noncomputable def q3k (b : List qf) (c : qf→Option Bool) (a : Int) : Option ((Int) ⊕ ((Unit) ⊕ (Int))):=
  cond (decide (a < (b.length : Int))) ((idx b a).bind fun d=>(c d).bind fun f=>cond f (some (.inr (.inr a))) (some (.inl (w64 (a + 1))))) (some (.inr (.inl ())))
noncomputable def qb6 (a : List qf) (b : qf→Option Bool) : Option Int:=
  (loop (q3k a b) 0 : Option ((Unit) ⊕ (Int))).bind fun c=>(match c with | .inl _=>some (-1) | .inr d=>some d)
noncomputable def q7y (a : List qf) (b : qf→Option Bool) : Option Bool:=
  (qb6 a b).bind fun c=>some (decide (c ≥ 0))
noncomputable def q1t (a : Int) : Option Bool:=
  (cond (decide (a ≥ (-1000000))) (some (decide (a≤1000000))) (some false)).bind fun b=>some b
noncomputable def q58 (a : qf) : Option Bool:=
  (cond (decide (a.X0 < a.X1)) (some (decide (a.Y0 < a.Y1))) (some false)).bind fun b=>(cond b ((q1t a.X0).bind fun c=>some c) (some false)).bind fun d=>(cond d ((q1t a.X1).bind fun f=>some f) (some false)).bind fun g=>(cond g ((q1t a.Y0).bind fun h=>some h) (some false)).bind fun j=>(cond j ((q1t a.Y1).bind fun k=>some k) (some false)).bind fun l=>some l
noncomputable def q1r (a : qf) : Option Bool:=
  (q58 a).bind fun b=>some (!b)
def Yy (x : List qf) : List DV:=[.sl 4 (x.map qm)]
def qbd : ByteArray:=⟨#[0,1,2,2,3,3,3,3,4,4,4,4,4,4,4,4,5,5,5,5,5,5,5,5,5,5,5,5,5,5,5,5,6,6,6,6,6,6,6,6,6,6,6,6,6,6,6,6,6,6,6,6,6,6,6,6,6,6,6,6,6,6,6,6,7,7,7,7,7,7,7,7,7,7,7,7,7,7,7,7,7,7,7,7,7,7,7,7,7,7,7,7,7,7,7,7,7,7,7,7,7,7,7,7,7,7,7,7,7,7,7,7,7,7,7,7,7,7,7,7,7,7,7,7,7,7,7,7,8,8,8,8,8,8,8,8,8,8,8,8,8,8,8,8,8,8,8,8,8,8,8,8,8,8,8,8,8,8,8,8,8,8,8,8,8,8,8,8,8,8,8,8,8,8,8,8,8,8,8,8,8,8,8,8,8,8,8,8,8,8,8,8,8,8,8,8,8,8,8,8,8,8,8,8,8,8,8,8,8,8,8,8,8,8,8,8,8,8,8,8,8,8,8,8,8,8,8,8,8,8,8,8,8,8,8,8,8,8,8,8,8,8,8,8,8,8,8,8,8,8,8,8,8,8,8,8]⟩
noncomputable def q1n (c : Int) : Option Int:=
  (cond (decide (c ≥ 4294967296)) (some (Int.fdiv c (2 ^ 32),32)) (some (c,0))).bind fun a=>(cond (decide (a.1 ≥ 65536)) (some (Int.fdiv a.1 (2 ^ 16),w64 (a.2 + 16))) (some (a.1,a.2))).bind fun b=>(cond (decide (b.1 ≥ 256)) (some (Int.fdiv b.1 (2 ^ 8),w64 (b.2 + 8))) (some (b.1,b.2))).bind fun d=>(q42 qbd (IntKind.wrap .u8 d.1)).bind fun f=>some (w64 (d.2 + (w64 f)))
noncomputable def U3 (a : Int) : Option Int:=
  (q1n a).bind fun b=>some b
noncomputable def q6l (a : Int) : Option Bool:=
  some (a != a)
noncomputable def Ye (a : Int) (b : Int) : Option Bool:=
  (q6l a).bind fun c=>(cond c ((q6l b).bind fun d=>some (!d)) (some false)).bind fun f=>(cond f (some true) (some (decide (a < b)))).bind fun g=>some g
noncomputable def q5m (c : Int) (a : Int × List Int) : Option ((Int × List Int) ⊕ (List Int)):=
  (cond (decide (a.1 > c)) ((idx a.2 a.1).bind fun d=>(idx a.2 (w64 (a.1 - 1))).bind fun f=>(Ye d f).bind fun g=>some g) (some false)).bind fun h=>cond h ((idx a.2 (w64 (a.1 - 1))).bind fun b=>(idx a.2 a.1).bind fun j=>(idx a.2 a.1).bind fun _=>(idx (a.2.set a.1.toNat b) (w64 (a.1 - 1))).bind fun _=>some (.inl (w64 (a.1 - 1),(a.2.set a.1.toNat b).set (w64 (a.1 - 1)).toNat j))) (some (.inr a.2))
noncomputable def q5l (b : Int) (c : Int) (a : Int × List Int) : Option ((Int × List Int) ⊕ (List Int)):=
  cond (decide (a.1 < b)) (((loop (q5m c) (a.1,a.2)).bind fun d=>some d).bind fun f=>some (.inl (w64 (a.1 + 1),f))) (some (.inr a.2))
noncomputable def q5k (b : List Int) (a : Int) (c : Int) : Option (List Int):=
  (loop (q5l c a) (w64 (a + 1),b)).bind fun d=>some d
noncomputable def q68 (d : Int) (b : Int) (a : Int × List Int) : Option ((Int × List Int) ⊕ (List Int)):=
  cond (decide ((w64 ((w64 (2 * a.1)) + 1)) ≥ d)) (some (.inr a.2)) ((cond (decide ((w64 ((w64 ((w64 (2 * a.1)) + 1)) + 1)) < d)) ((idx a.2 (w64 (b + (w64 ((w64 (2 * a.1)) + 1))))).bind fun g=>(idx a.2 (w64 ((w64 (b + (w64 ((w64 (2 * a.1)) + 1)))) + 1))).bind fun h=>(Ye g h).bind fun j=>some j) (some false)).bind fun k=>(cond k (some (w64 ((w64 ((w64 (2 * a.1)) + 1)) + 1))) (some (w64 ((w64 (2 * a.1)) + 1)))).bind fun c=>(idx a.2 (w64 (b + a.1))).bind fun l=>(idx a.2 (w64 (b + c))).bind fun m=>(Ye l m).bind fun n=>cond (!n) (some (.inr a.2)) ((idx a.2 (w64 (b + c))).bind fun f=>(idx a.2 (w64 (b + a.1))).bind fun o=>(idx a.2 (w64 (b + a.1))).bind fun _=>(idx (a.2.set (w64 (b + a.1)).toNat f) (w64 (b + c))).bind fun _=>some (.inl (c,(a.2.set (w64 (b + a.1)).toNat f).set (w64 (b + c)).toNat o))))
noncomputable def q3t (a : List Int) (b : Int) (c : Int) (d : Int) : Option (List Int):=
  (loop (q68 c d) (b,a)).bind fun f=>some f
noncomputable def q5i (d : Int) (b : Int) (a : Int × List Int) : Option ((Int × List Int) ⊕ (List Int)):=
  cond (decide (a.1 ≥ 0)) ((q3t a.2 a.1 (w64 (d - b)) b).bind fun c=>(Qm c.length a.2.length).bind fun _=>some (.inl (w64 (a.1 - 1),c))) (some (.inr a.2))
noncomputable def q5j (b : Int) (a : Int × List Int) : Option ((Int × List Int) ⊕ (List Int)):=
  cond (decide (a.1 ≥ 0)) ((idx a.2 (w64 (b + a.1))).bind fun c=>(idx a.2 b).bind fun d=>(idx a.2 b).bind fun _=>(idx (a.2.set b.toNat c) (w64 (b + a.1))).bind fun _=>(q3t ((a.2.set b.toNat c).set (w64 (b + a.1)).toNat d) 0 a.1 b).bind fun f=>(Qm f.length ((a.2.set b.toNat c).set (w64 (b + a.1)).toNat d).length).bind fun _=>some (.inl (w64 (a.1 - 1),f))) (some (.inr a.2))
noncomputable def q5h (c : List Int) (a : Int) (b : Int) : Option (List Int):=
  (loop (q5i b a) (w64 (Int.tdiv (w64 ((w64 (b - a)) - 1)) 2),c)).bind fun d=>(loop (q5j a) (w64 ((w64 (b - a)) - 1),d)).bind fun f=>some f
noncomputable def q22 (c : List Int) (a : Int) (b : Int) (d : Int) : Option (Int × Int × Int):=
  (idx c b).bind fun f=>(idx c a).bind fun g=>(Ye f g).bind fun h=>cond h (some (b,a,w64 (d + 1))) (some (a,b,d))
noncomputable def q3n (a : List Int) (f : Int) (g : Int) (h : Int) (j : Int) : Option (Int × Int):=
  (q22 a f g j).bind fun b=>(q22 a b.2.1 h b.2.2).bind fun c=>(q22 a b.1 c.1 c.2.2).bind fun d=>some (d.2.1,d.2.2)
noncomputable def q21 (c : List Int) (a : Int) (d : Int) : Option (Int × Int):=
  (q3n c (w64 (a - 1)) a (w64 (a + 1)) d).bind fun b=>some (b.1,b.2)
noncomputable def q5g (d : List Int) (a : Int) (b : Int) : Option (Int × Int):=
  (cond (decide ((w64 (b - a)) ≥ 8)) ((cond (decide ((w64 (b - a)) ≥ 50)) ((q21 d (w64 (a + (w64 ((w64 (Int.tdiv (w64 (b - a)) 4)) * 1)))) 0).bind fun g=>(q21 d (w64 (a + (w64 ((w64 (Int.tdiv (w64 (b - a)) 4)) * 2)))) g.2).bind fun h=>(q21 d (w64 (a + (w64 ((w64 (Int.tdiv (w64 (b - a)) 4)) * 3)))) h.2).bind fun j=>some (g.1,h.1,j.1,j.2)) (some (w64 (a + (w64 ((w64 (Int.tdiv (w64 (b - a)) 4)) * 1))),w64 (a + (w64 ((w64 (Int.tdiv (w64 (b - a)) 4)) * 2))),w64 (a + (w64 ((w64 (Int.tdiv (w64 (b - a)) 4)) * 3))),0))).bind fun f=>(q3n d f.1 f.2.1 f.2.2.1 f.2.2.2).bind fun k=>some (k.1,k.2)) (some (w64 (a + (w64 ((w64 (Int.tdiv (w64 (b - a)) 4)) * 2))),0))).bind fun c=>cond (c.2 == 0) (some (c.1,1)) (cond (c.2 == 12) (some (c.1,2)) (some (c.1,0)))
noncomputable def q8t (a : Int × Int × List Int) : Option ((Int × Int × List Int) ⊕ (List Int)):=
  cond (decide (a.1 < a.2.1)) ((idx a.2.2 a.2.1).bind fun b=>(idx a.2.2 a.1).bind fun c=>(idx a.2.2 a.1).bind fun _=>(idx (a.2.2.set a.1.toNat b) a.2.1).bind fun _=>some (.inl (w64 (a.1 + 1),w64 (a.2.1 - 1),(a.2.2.set a.1.toNat b).set a.2.1.toNat c))) (some (.inr a.2.2))
noncomputable def q66 (a : List Int) (b : Int) (c : Int) : Option (List Int):=
  (loop q8t (b,w64 (c - 1),a)).bind fun d=>some d
noncomputable def q5q (c : Int) (b : Int × Int × List Int) (a : Int) : Option ((Int) ⊕ (Int)):=
  (cond (decide (a < c)) ((idx b.2.2 a).bind fun d=>(idx b.2.2 (w64 (a - 1))).bind fun f=>(Ye d f).bind fun g=>some (!g)) (some false)).bind fun h=>cond h (some (.inl (w64 (a + 1)))) (some (.inr a))
noncomputable def q8g (a : Int × List Int) : Option ((Int × List Int) ⊕ (List Int)):=
  cond (decide (a.1 ≥ 1)) ((idx a.2 a.1).bind fun c=>(idx a.2 (w64 (a.1 - 1))).bind fun d=>(Ye c d).bind fun f=>cond (!f) (some (.inr a.2)) ((idx a.2 (w64 (a.1 - 1))).bind fun b=>(idx a.2 a.1).bind fun g=>(idx a.2 a.1).bind fun _=>(idx (a.2.set a.1.toNat b) (w64 (a.1 - 1))).bind fun _=>some (.inl (w64 (a.1 - 1),(a.2.set a.1.toNat b).set (w64 (a.1 - 1)).toNat g)))) (some (.inr a.2))
noncomputable def q5r (d : Int) (b : Int) (a : Int × List Int) : Option ((Int × List Int) ⊕ (Int × List Int)):=
  cond (decide (a.1 < d)) ((idx a.2 a.1).bind fun f=>(idx a.2 (w64 (a.1 - 1))).bind fun g=>(Ye f g).bind fun h=>cond (!h) (some (.inr (b,a.2))) ((idx a.2 (w64 (a.1 - 1))).bind fun c=>(idx a.2 a.1).bind fun j=>(idx a.2 a.1).bind fun _=>(idx (a.2.set a.1.toNat c) (w64 (a.1 - 1))).bind fun _=>some (.inl (w64 (a.1 + 1),(a.2.set a.1.toNat c).set (w64 (a.1 - 1)).toNat j)))) (some (.inr (b,a.2)))
noncomputable def q3q (c : Int) (g : Int) (b : Int × Int × List Int) : Option ((Int × Int × List Int) ⊕ ((List Int) ⊕ (Bool × List Int))):=
  cond (decide (b.2.1 < 5)) (((loop (q5q c b) b.1).bind fun a=>cond (a == c) (some (.inr (true,b.2.2))) (cond (decide ((w64 (c - g)) < 50)) (some (.inr (false,b.2.2))) ((idx b.2.2 (w64 (a - 1))).bind fun d=>(idx b.2.2 a).bind fun h=>(idx b.2.2 a).bind fun _=>(idx (b.2.2.set a.toNat d) (w64 (a - 1))).bind fun _=>(cond (decide ((w64 (a - g)) ≥ 2)) ((loop q8g (w64 (a - 1),(b.2.2.set a.toNat d).set (w64 (a - 1)).toNat h)).bind fun f=>some f) (some ((b.2.2.set a.toNat d).set (w64 (a - 1)).toNat h))).bind fun j=>cond (decide ((w64 (c - a)) ≥ 2)) ((loop (q5r c a) (w64 (a + 1),j)).bind fun f=>some (.inl f)) (some (.inl (a,j))))) : Option ((Int × List Int) ⊕ (Bool × List Int))).bind fun l=>(match l with | .inl k=>some (.inl (k.1,w64 (b.2.1 + 1),k.2)) | .inr m=>some (.inr (.inr m)))) (some (.inr (.inl b.2.2)))
noncomputable def q3p (b : List Int) (a : Int) (c : Int) : Option (Bool × List Int):=
  (loop (q3q c a) (w64 (a + 1),0,b) : Option ((List Int) ⊕ (Bool × List Int))).bind fun d=>(match d with | .inl f=>some (false,f) | .inr g=>some g)
noncomputable def q5u (b : Int × Int × List Int) (c : Int) (a : Int) : Option ((Int) ⊕ (Int)):=
  (cond (decide (a≤b.2.1)) ((idx b.2.2 c).bind fun d=>(idx b.2.2 a).bind fun f=>(Ye d f).bind fun g=>some (!g)) (some false)).bind fun h=>cond h (some (.inl (w64 (a + 1)))) (some (.inr a))
noncomputable def q5v (c : Int) (b : Int × Int × List Int) (d : Int) (a : Int) : Option ((Int) ⊕ (Int)):=
  (cond (decide (c≤a)) ((idx b.2.2 d).bind fun f=>(idx b.2.2 a).bind fun g=>(Ye f g).bind fun h=>some h) (some false)).bind fun j=>cond j (some (.inl (w64 (a - 1)))) (some (.inr a))
noncomputable def q5t (d : Int) (a : Int × Int × List Int) : Option ((Int × Int × List Int) ⊕ (Int × List Int)):=
  (loop (q5u a d) a.1).bind fun b=>(loop (q5v b a d) a.2.1).bind fun c=>cond (decide (b > c)) (some (.inr (b,a.2.2))) ((idx a.2.2 c).bind fun f=>(idx a.2.2 b).bind fun g=>(idx a.2.2 b).bind fun _=>(idx (a.2.2.set b.toNat f) c).bind fun _=>some (.inl (w64 (b + 1),w64 (c - 1),(a.2.2.set b.toNat f).set c.toNat g)))
noncomputable def q5s (b : List Int) (a : Int) (g : Int) (c : Int) : Option (Int × List Int):=
  (idx b c).bind fun d=>(idx b a).bind fun h=>(idx b a).bind fun _=>(idx (b.set a.toNat d) c).bind fun _=>(loop (q5t a) (w64 (a + 1),w64 (g - 1),(b.set a.toNat d).set c.toNat h)).bind fun f=>some (f.1,f.2)
noncomputable def q5x (h : Int) (c : List Int) (b : Int) (d : Int) (f : Int) (g : Int) (a : Int) : Option ((Int) ⊕ (Int)):=
  (cond (decide (a≤(w64 (h - 1)))) ((idx ((c.set b.toNat d).set f.toNat g) a).bind fun j=>(idx ((c.set b.toNat d).set f.toNat g) b).bind fun k=>(Ye j k).bind fun l=>some l) (some false)).bind fun m=>cond m (some (.inl (w64 (a + 1)))) (some (.inr a))
noncomputable def q5y (h : Int) (c : List Int) (b : Int) (d : Int) (f : Int) (g : Int) (a : Int) : Option ((Int) ⊕ (Int)):=
  (cond (decide (h≤a)) ((idx ((c.set b.toNat d).set f.toNat g) a).bind fun j=>(idx ((c.set b.toNat d).set f.toNat g) b).bind fun k=>(Ye j k).bind fun l=>some (!l)) (some false)).bind fun m=>cond m (some (.inl (w64 (a - 1)))) (some (.inr a))
noncomputable def q60 (b : Int × Int × List Int) (c : Int) (a : Int) : Option ((Int) ⊕ (Int)):=
  (cond (decide (a≤b.2.1)) ((idx b.2.2 a).bind fun d=>(idx b.2.2 c).bind fun f=>(Ye d f).bind fun g=>some g) (some false)).bind fun h=>cond h (some (.inl (w64 (a + 1)))) (some (.inr a))
noncomputable def q61 (c : Int) (b : Int × Int × List Int) (d : Int) (a : Int) : Option ((Int) ⊕ (Int)):=
  (cond (decide (c≤a)) ((idx b.2.2 a).bind fun f=>(idx b.2.2 d).bind fun g=>(Ye f g).bind fun h=>some (!h)) (some false)).bind fun j=>cond j (some (.inl (w64 (a - 1)))) (some (.inr a))
noncomputable def q5z (d : Int) (a : Int × Int × List Int) : Option ((Int × Int × List Int) ⊕ (Int × List Int)):=
  (loop (q60 a d) a.1).bind fun b=>(loop (q61 b a d) a.2.1).bind fun c=>cond (decide (b > c)) (some (.inr (c,a.2.2))) ((idx a.2.2 c).bind fun f=>(idx a.2.2 b).bind fun g=>(idx a.2.2 b).bind fun _=>(idx (a.2.2.set b.toNat f) c).bind fun _=>some (.inl (w64 (b + 1),w64 (c - 1),(a.2.2.set b.toNat f).set c.toNat g)))
noncomputable def q5w (b : List Int) (a : Int) (k : Int) (c : Int) : Option (Int × Bool × List Int):=
  (idx b c).bind fun d=>(idx b a).bind fun f=>(idx b a).bind fun _=>(idx (b.set a.toNat d) c).bind fun _=>(loop (q5x k b a d c f) (w64 (a + 1))).bind fun j=>(loop (q5y j b a d c f) (w64 (k - 1))).bind fun g=>cond (decide (j > g)) ((idx ((b.set a.toNat d).set c.toNat f) a).bind fun l=>(idx ((b.set a.toNat d).set c.toNat f) g).bind fun o=>(idx ((b.set a.toNat d).set c.toNat f) g).bind fun _=>(idx (((b.set a.toNat d).set c.toNat f).set g.toNat l) a).bind fun _=>some (g,true,(((b.set a.toNat d).set c.toNat f).set g.toNat l).set a.toNat o)) ((idx ((b.set a.toNat d).set c.toNat f) g).bind fun m=>(idx ((b.set a.toNat d).set c.toNat f) j).bind fun p=>(idx ((b.set a.toNat d).set c.toNat f) j).bind fun _=>(idx (((b.set a.toNat d).set c.toNat f).set j.toNat m) g).bind fun _=>(loop (q5z a) (w64 (j + 1),w64 (g - 1),(((b.set a.toNat d).set c.toNat f).set j.toNat m).set g.toNat p)).bind fun h=>(idx h.2 a).bind fun n=>(idx h.2 h.1).bind fun q=>(idx h.2 h.1).bind fun _=>(idx (h.2.set h.1.toNat n) a).bind fun _=>some (h.1,false,(h.2.set h.1.toNat n).set a.toNat q))
noncomputable def Ux (a : Int) : Option Int:=
  (U3 (IntKind.wrap .u64 a)).bind fun b=>(shlK .u64 1 b).bind fun c=>some c
noncomputable def Uy (a : Int) : Option Int:=
  some (xorI .u64 (xorI .u64 (xorI .u64 a (IntKind.wrap .u64 (a * (2 ^ 13)))) (Int.fdiv (xorI .u64 a (IntKind.wrap .u64 (a * (2 ^ 13)))) (2 ^ 7))) (IntKind.wrap .u64 ((xorI .u64 (xorI .u64 a (IntKind.wrap .u64 (a * (2 ^ 13)))) (Int.fdiv (xorI .u64 a (IntKind.wrap .u64 (a * (2 ^ 13)))) (2 ^ 7))) * (2 ^ 17))))
noncomputable def q5f (b : Int) (d : Int) (f : Int) (a : Int × List Int × Int) : Option ((Int × List Int × Int) ⊕ (List Int)):=
  cond (decide (a.1≤(w64 ((w64 (b + (w64 ((w64 (Int.tdiv (w64 (d - b)) 4)) * 2)))) + 1)))) ((Uy a.2.2).bind fun c=>(cond (decide ((w64 (andI .u64 c (IntKind.wrap .u64 (f - 1)))) ≥ (w64 (d - b)))) (some (w64 ((w64 (andI .u64 c (IntKind.wrap .u64 (f - 1)))) - (w64 (d - b))))) (some (w64 (andI .u64 c (IntKind.wrap .u64 (f - 1)))))).bind fun g=>(idx a.2.1 (w64 (b + g))).bind fun h=>(idx a.2.1 a.1).bind fun j=>(idx a.2.1 a.1).bind fun _=>(idx (a.2.1.set a.1.toNat h) (w64 (b + g))).bind fun _=>some (.inl (w64 (a.1 + 1),(a.2.1.set a.1.toNat h).set (w64 (b + g)).toNat j,c))) (some (.inr a.2.1))
noncomputable def q5e (c : List Int) (a : Int) (b : Int) : Option (List Int):=
  cond (decide ((w64 (b - a)) ≥ 8)) ((Ux (w64 (b - a))).bind fun d=>(loop (q5f a b d) (w64 ((w64 (a + (w64 ((w64 (Int.tdiv (w64 (b - a)) 4)) * 2)))) - 1),c,IntKind.wrap .u64 (w64 (b - a)))).bind fun f=>some f) (some c)
noncomputable def q3r (rec : List Int→Int→Int→Int→Option (List Int)) (a : Int × Int × Int × Bool × Bool × List Int) : Option ((Int × Int × Int × Bool × Bool × List Int) ⊕ (List Int)):=
  cond (decide ((w64 (a.2.1 - a.1))≤12)) ((q5k a.2.2.2.2.2 a.1 a.2.1).bind fun k=>(Qm k.length a.2.2.2.2.2.length).bind fun _=>some (.inr k)) (cond (a.2.2.1 == 0) ((q5h a.2.2.2.2.2 a.1 a.2.1).bind fun l=>(Qm l.length a.2.2.2.2.2.length).bind fun _=>some (.inr l)) ((cond (!a.2.2.2.1) ((q5e a.2.2.2.2.2 a.1 a.2.1).bind fun m=>(Qm m.length a.2.2.2.2.2.length).bind fun _=>some (w64 (a.2.2.1 - 1),m)) (some (a.2.2.1,a.2.2.2.2.2))).bind fun c=>(q5g c.2 a.1 a.2.1).bind fun g=>(cond (g.2 == 2) ((q66 c.2 a.1 a.2.1).bind fun n=>(Qm n.length c.2.length).bind fun _=>some (w64 ((w64 (a.2.1 - 1)) - (w64 (g.1 - a.1))),1,n)) (some (g.1,g.2,c.2))).bind fun d=>(cond a.2.2.2.1 (some a.2.2.2.2.1) (some false)).bind fun q=>(cond q (some (d.2.1 == 1)) (some false)).bind fun r=>(cond r ((q3p d.2.2 a.1 a.2.1).bind fun h=>(Qm h.2.length d.2.2.length).bind fun _=>cond h.1 (some (.inr h.2)) (some (.inl h.2))) (some (.inl d.2.2)) : Option ((List Int) ⊕ (List Int))).bind fun s=>(match s with | .inl f=>(cond (decide (a.1 > 0)) ((idx f (w64 (a.1 - 1))).bind fun t=>(idx f d.1).bind fun u=>(Ye t u).bind fun v=>some (!v)) (some false)).bind fun w=>cond w ((q5s f a.1 a.2.1 d.1).bind fun j=>(Qm j.2.length f.length).bind fun _=>some (.inl (j.1,a.2.1,c.1,a.2.2.2.1,a.2.2.2.2.1,j.2))) ((q5w f a.1 a.2.1 d.1).bind fun b=>(Qm b.2.2.length f.length).bind fun _=>cond (decide ((w64 (b.1 - a.1)) < (w64 (a.2.1 - b.1)))) ((rec b.2.2 a.1 b.1 c.1).bind fun o=>(Qm o.length b.2.2.length).bind fun _=>some (.inl (w64 (b.1 + 1),a.2.1,c.1,decide ((w64 (b.1 - a.1)) ≥ (w64 (Int.tdiv (w64 (a.2.1 - a.1)) 8))),b.2.1,o))) ((rec b.2.2 (w64 (b.1 + 1)) a.2.1 c.1).bind fun p=>(Qm p.length b.2.2.length).bind fun _=>some (.inl (a.1,b.1,c.1,decide ((w64 (a.2.1 - b.1)) ≥ (w64 (Int.tdiv (w64 (a.2.1 - a.1)) 8))),b.2.1,p)))) | .inr x=>some (.inr x))))
noncomputable def q3s (rec : List Int→Int→Int→Int→Option (List Int)) (a : List Int) (b : Int) (c : Int) (d : Int) : Option (List Int):=
  (loop (q3r rec) (b,c,d,true,true,a)).bind fun f=>some f
noncomputable def q65 : Nat→List Int→Int→Int→Int→Option (List Int)
  | 0,_,_,_,_=>none
  | n + 1,a,b,c,d=>q3s (q65 n)  a b c d
noncomputable def U9 (a : List Int) : Option (List Int):=
  (U3 (IntKind.wrap .u64 (a.length : Int))).bind fun c=>(lim (fun n=>q65 n a 0 (a.length : Int) c)).bind fun b=>(Qm b.length a.length).bind fun _=>some b
noncomputable def Uw (a : Int × (Nat × Nat) × Int × List Int) : Option ((Int × (Nat × Nat) × Int × List Int) ⊕ (Int × List Int)):=
  cond (decide (a.2.2.1 < (a.2.1.2 : Int))) (((idxW a.2.2.2 a.2.1 a.2.2.1).bind fun c=>(idxW a.2.2.2 a.2.1 (w64 (a.2.2.1 - 1))).bind fun d=>cond (c != d) ((idxW a.2.2.2 a.2.1 a.2.2.1).bind fun f=>(idx a.2.2.2 a.1).bind fun _=>some (w64 (a.1 + 1),a.2.1,a.2.2.2.set a.1.toNat f)) (some (a.1,a.2.1,a.2.2.2))).bind fun b=>some (.inl (b.1,b.2.1,w64 (a.2.2.1 + 1),b.2.2))) (some (.inr (a.1,a.2.2.2)))
noncomputable def Zj (a : List Int) (b : Int) : Option ((Int) ⊕ ((Unit) ⊕ ((Nat × Nat) × List Int))):=
  cond (decide (b < (a.length : Int))) ((idx a b).bind fun d=>(idx a (w64 (b - 1))).bind fun f=>cond (d == f) ((sub2 a.length b a.length).bind fun g=>(loop Uw (b,g,1,a)).bind fun c=>(sub2 c.2.length c.1 c.2.length).bind fun h=>(sub2 c.2.length 0 c.1).bind fun j=>some (.inr (.inr (j,clrw c.2 h 0)))) (some (.inl (w64 (b + 1))))) (some (.inr (.inl ())))
noncomputable def q1z (a : List Int) : Option ((Nat × Nat) × List Int):=
  cond (decide ((a.length : Int) < 2)) (some ((0,a.length),a)) ((loop (Zj a) 1 : Option ((Unit) ⊕ ((Nat × Nat) × List Int))).bind fun b=>(match b with | .inl _=>some ((0,a.length),a) | .inr c=>some c))
structure qj where
  Lo : Int
  Hi : Int
  deriving DecidableEq
def Q3 (x : qj) : List DV:=[.int .i64 x.Lo,.int .i64 x.Hi]
noncomputable def q20 (b : List qj) (c : qj→Option Bool) (a : Int) : Option ((Int) ⊕ ((Unit) ⊕ (Int))):=
  cond (decide (a < (b.length : Int))) ((idx b a).bind fun d=>(c d).bind fun f=>cond f (some (.inr (.inr a))) (some (.inl (w64 (a + 1))))) (some (.inr (.inl ())))
noncomputable def q83 (a : List qj) (b : qj→Option Bool) : Option Int:=
  (loop (q20 a b) 0 : Option ((Unit) ⊕ (Int))).bind fun c=>(match c with | .inl _=>some (-1) | .inr d=>some d)
noncomputable def q7z (a : List qj) (b : qj→Option Bool) : Option Bool:=
  (q83 a b).bind fun c=>some (decide (c ≥ 0))
noncomputable def q25 (a : qj) : Option Bool:=
  (cond (decide (a.Lo < a.Hi)) (some (decide (a.Lo ≥ (-1000000)))) (some false)).bind fun b=>(cond b (some (decide (a.Hi≤1000000))) (some false)).bind fun c=>some c
noncomputable def qbc (a : qj) : Option Bool:=
  (q25 a).bind fun b=>some (!b)
def Jq (x : List qj) : List DV:=[.sl 2 (x.map Q3)]
structure qh where
  at_ : Int
  list_ : Int
  by_ : Int
  deriving DecidableEq
def Q2 (x : qh) : List DV:=[.int .i64 x.at_,.int .i64 x.list_,.int .i64 x.by_]
noncomputable def q91 (a : qh) (b : qh) : Option Int:=
  some (w64 (a.at_ - b.at_))
noncomputable def q8c (c : Int) (d : qh→qh→Option Int) (a : Int × List qh) : Option ((Int × List qh) ⊕ (List qh)):=
  (cond (decide (a.1 > c)) ((idx a.2 a.1).bind fun f=>(idx a.2 (w64 (a.1 - 1))).bind fun g=>(d f g).bind fun h=>some (decide (h < 0))) (some false)).bind fun j=>cond j ((idx a.2 (w64 (a.1 - 1))).bind fun b=>(idx a.2 a.1).bind fun k=>(idx a.2 a.1).bind fun _=>(idx (a.2.set a.1.toNat b) (w64 (a.1 - 1))).bind fun _=>some (.inl (w64 (a.1 - 1),(a.2.set a.1.toNat b).set (w64 (a.1 - 1)).toNat k))) (some (.inr a.2))
noncomputable def q8b (b : Int) (c : Int) (d : qh→qh→Option Int) (a : Int × List qh) : Option ((Int × List qh) ⊕ (List qh)):=
  cond (decide (a.1 < b)) (((loop (q8c c d) (a.1,a.2)).bind fun f=>some f).bind fun g=>some (.inl (w64 (a.1 + 1),g))) (some (.inr a.2))
noncomputable def q8a (b : qh→qh→Option Int) (c : List qh) (a : Int) (d : Int) : Option (List qh):=
  (loop (q8b d a b) (w64 (a + 1),c)).bind fun f=>some f
noncomputable def q8u (d : Int) (b : Int) (f : qh→qh→Option Int) (a : Int × List qh) : Option ((Int × List qh) ⊕ (List qh)):=
  cond (decide ((w64 ((w64 (2 * a.1)) + 1)) ≥ d)) (some (.inr a.2)) ((cond (decide ((w64 ((w64 ((w64 (2 * a.1)) + 1)) + 1)) < d)) ((idx a.2 (w64 (b + (w64 ((w64 (2 * a.1)) + 1))))).bind fun h=>(idx a.2 (w64 ((w64 (b + (w64 ((w64 (2 * a.1)) + 1)))) + 1))).bind fun j=>(f h j).bind fun k=>some (decide (k < 0))) (some false)).bind fun l=>(cond l (some (w64 ((w64 ((w64 (2 * a.1)) + 1)) + 1))) (some (w64 ((w64 (2 * a.1)) + 1)))).bind fun c=>(idx a.2 (w64 (b + a.1))).bind fun m=>(idx a.2 (w64 (b + c))).bind fun n=>(f m n).bind fun o=>cond (!(decide (o < 0))) (some (.inr a.2)) ((idx a.2 (w64 (b + c))).bind fun g=>(idx a.2 (w64 (b + a.1))).bind fun p=>(idx a.2 (w64 (b + a.1))).bind fun _=>(idx (a.2.set (w64 (b + a.1)).toNat g) (w64 (b + c))).bind fun _=>some (.inl (c,(a.2.set (w64 (b + a.1)).toNat g).set (w64 (b + c)).toNat p))))
noncomputable def q67 (a : qh→qh→Option Int) (b : List qh) (c : Int) (d : Int) (f : Int) : Option (List qh):=
  (loop (q8u d f a) (c,b)).bind fun g=>some g
noncomputable def q88 (d : qh→qh→Option Int) (f : Int) (b : Int) (a : Int × List qh) : Option ((Int × List qh) ⊕ (List qh)):=
  cond (decide (a.1 ≥ 0)) ((q67 d a.2 a.1 (w64 (f - b)) b).bind fun c=>(Qm c.length a.2.length).bind fun _=>some (.inl (w64 (a.1 - 1),c))) (some (.inr a.2))
noncomputable def q89 (b : Int) (g : qh→qh→Option Int) (a : Int × List qh) : Option ((Int × List qh) ⊕ (List qh)):=
  cond (decide (a.1 ≥ 0)) ((idx a.2 (w64 (b + a.1))).bind fun c=>(idx a.2 b).bind fun d=>(idx a.2 b).bind fun _=>(idx (a.2.set b.toNat c) (w64 (b + a.1))).bind fun _=>(q67 g ((a.2.set b.toNat c).set (w64 (b + a.1)).toNat d) 0 a.1 b).bind fun f=>(Qm f.length ((a.2.set b.toNat c).set (w64 (b + a.1)).toNat d).length).bind fun _=>some (.inl (w64 (a.1 - 1),f))) (some (.inr a.2))
noncomputable def q87 (c : qh→qh→Option Int) (d : List qh) (a : Int) (b : Int) : Option (List qh):=
  (loop (q88 c b a) (w64 (Int.tdiv (w64 ((w64 (b - a)) - 1)) 2),d)).bind fun f=>(loop (q89 a c) (w64 ((w64 (b - a)) - 1),f)).bind fun g=>some g
noncomputable def q3o (f : qh→qh→Option Int) (c : List qh) (a : Int) (b : Int) (d : Int) : Option (Int × Int × Int):=
  (idx c b).bind fun g=>(idx c a).bind fun h=>(f g h).bind fun j=>cond (decide (j < 0)) (some (b,a,w64 (d + 1))) (some (a,b,d))
noncomputable def q5n (a : qh→qh→Option Int) (b : List qh) (g : Int) (h : Int) (j : Int) (k : Int) : Option (Int × Int):=
  (q3o a b g h k).bind fun c=>(q3o a b c.2.1 j c.2.2).bind fun d=>(q3o a b c.1 d.1 d.2.2).bind fun f=>some (f.2.1,f.2.2)
noncomputable def q3m (c : qh→qh→Option Int) (d : List qh) (a : Int) (f : Int) : Option (Int × Int):=
  (q5n c d (w64 (a - 1)) a (w64 (a + 1)) f).bind fun b=>some (b.1,b.2)
noncomputable def q86 (d : List qh) (a : Int) (b : Int) (f : qh→qh→Option Int) : Option (Int × Int):=
  (cond (decide ((w64 (b - a)) ≥ 8)) ((cond (decide ((w64 (b - a)) ≥ 50)) ((q3m f d (w64 (a + (w64 ((w64 (Int.tdiv (w64 (b - a)) 4)) * 1)))) 0).bind fun h=>(q3m f d (w64 (a + (w64 ((w64 (Int.tdiv (w64 (b - a)) 4)) * 2)))) h.2).bind fun j=>(q3m f d (w64 (a + (w64 ((w64 (Int.tdiv (w64 (b - a)) 4)) * 3)))) j.2).bind fun k=>some (h.1,j.1,k.1,k.2)) (some (w64 (a + (w64 ((w64 (Int.tdiv (w64 (b - a)) 4)) * 1))),w64 (a + (w64 ((w64 (Int.tdiv (w64 (b - a)) 4)) * 2))),w64 (a + (w64 ((w64 (Int.tdiv (w64 (b - a)) 4)) * 3))),0))).bind fun g=>(q5n f d g.1 g.2.1 g.2.2.1 g.2.2.2).bind fun l=>some (l.1,l.2)) (some (w64 (a + (w64 ((w64 (Int.tdiv (w64 (b - a)) 4)) * 2))),0))).bind fun c=>cond (c.2 == 0) (some (c.1,1)) (cond (c.2 == 12) (some (c.1,2)) (some (c.1,0)))
noncomputable def q8s (a : Int × Int × List qh) : Option ((Int × Int × List qh) ⊕ (List qh)):=
  cond (decide (a.1 < a.2.1)) ((idx a.2.2 a.2.1).bind fun b=>(idx a.2.2 a.1).bind fun c=>(idx a.2.2 a.1).bind fun _=>(idx (a.2.2.set a.1.toNat b) a.2.1).bind fun _=>some (.inl (w64 (a.1 + 1),w64 (a.2.1 - 1),(a.2.2.set a.1.toNat b).set a.2.1.toNat c))) (some (.inr a.2.2))
noncomputable def q8r (f : qh→qh→Option Int) (a : List qh) (b : Int) (c : Int) : Option (List qh):=
  (loop q8s (b,w64 (c - 1),a)).bind fun d=>some d
noncomputable def q8d (c : Int) (b : Int × Int × List qh) (d : qh→qh→Option Int) (a : Int) : Option ((Int) ⊕ (Int)):=
  (cond (decide (a < c)) ((idx b.2.2 a).bind fun f=>(idx b.2.2 (w64 (a - 1))).bind fun g=>(d f g).bind fun h=>some (!(decide (h < 0)))) (some false)).bind fun j=>cond j (some (.inl (w64 (a + 1)))) (some (.inr a))
noncomputable def q8e (c : qh→qh→Option Int) (a : Int × List qh) : Option ((Int × List qh) ⊕ (List qh)):=
  cond (decide (a.1 ≥ 1)) ((idx a.2 a.1).bind fun d=>(idx a.2 (w64 (a.1 - 1))).bind fun f=>(c d f).bind fun g=>cond (!(decide (g < 0))) (some (.inr a.2)) ((idx a.2 (w64 (a.1 - 1))).bind fun b=>(idx a.2 a.1).bind fun h=>(idx a.2 a.1).bind fun _=>(idx (a.2.set a.1.toNat b) (w64 (a.1 - 1))).bind fun _=>some (.inl (w64 (a.1 - 1),(a.2.set a.1.toNat b).set (w64 (a.1 - 1)).toNat h)))) (some (.inr a.2))
noncomputable def q8f (d : Int) (f : qh→qh→Option Int) (b : Int) (a : Int × List qh) : Option ((Int × List qh) ⊕ (Int × List qh)):=
  cond (decide (a.1 < d)) ((idx a.2 a.1).bind fun g=>(idx a.2 (w64 (a.1 - 1))).bind fun h=>(f g h).bind fun j=>cond (!(decide (j < 0))) (some (.inr (b,a.2))) ((idx a.2 (w64 (a.1 - 1))).bind fun c=>(idx a.2 a.1).bind fun k=>(idx a.2 a.1).bind fun _=>(idx (a.2.set a.1.toNat c) (w64 (a.1 - 1))).bind fun _=>some (.inl (w64 (a.1 + 1),(a.2.set a.1.toNat c).set (w64 (a.1 - 1)).toNat k)))) (some (.inr (b,a.2)))
noncomputable def q5p (c : Int) (d : qh→qh→Option Int) (h : Int) (b : Int × Int × List qh) : Option ((Int × Int × List qh) ⊕ ((List qh) ⊕ (Bool × List qh))):=
  cond (decide (b.2.1 < 5)) (((loop (q8d c b d) b.1).bind fun a=>cond (a == c) (some (.inr (true,b.2.2))) (cond (decide ((w64 (c - h)) < 50)) (some (.inr (false,b.2.2))) ((idx b.2.2 (w64 (a - 1))).bind fun f=>(idx b.2.2 a).bind fun j=>(idx b.2.2 a).bind fun _=>(idx (b.2.2.set a.toNat f) (w64 (a - 1))).bind fun _=>(cond (decide ((w64 (a - h)) ≥ 2)) ((loop (q8e d) (w64 (a - 1),(b.2.2.set a.toNat f).set (w64 (a - 1)).toNat j)).bind fun g=>some g) (some ((b.2.2.set a.toNat f).set (w64 (a - 1)).toNat j))).bind fun k=>cond (decide ((w64 (c - a)) ≥ 2)) ((loop (q8f c d a) (w64 (a + 1),k)).bind fun g=>some (.inl g)) (some (.inl (a,k))))) : Option ((Int × List qh) ⊕ (Bool × List qh))).bind fun m=>(match m with | .inl l=>some (.inl (l.1,w64 (b.2.1 + 1),l.2)) | .inr n=>some (.inr (.inr n)))) (some (.inr (.inl b.2.2)))
noncomputable def q5o (b : qh→qh→Option Int) (c : List qh) (a : Int) (d : Int) : Option (Bool × List qh):=
  (loop (q5p d b a) (w64 (a + 1),0,c) : Option ((List qh) ⊕ (Bool × List qh))).bind fun f=>(match f with | .inl g=>some (false,g) | .inr h=>some h)
noncomputable def q8p (b : Int × Int × List qh) (c : Int) (d : qh→qh→Option Int) (a : Int) : Option ((Int) ⊕ (Int)):=
  (cond (decide (a≤b.2.1)) ((idx b.2.2 c).bind fun f=>(idx b.2.2 a).bind fun g=>(d f g).bind fun h=>some (!(decide (h < 0)))) (some false)).bind fun j=>cond j (some (.inl (w64 (a + 1)))) (some (.inr a))
noncomputable def q8q (c : Int) (b : Int × Int × List qh) (d : Int) (f : qh→qh→Option Int) (a : Int) : Option ((Int) ⊕ (Int)):=
  (cond (decide (c≤a)) ((idx b.2.2 d).bind fun g=>(idx b.2.2 a).bind fun h=>(f g h).bind fun j=>some (decide (j < 0))) (some false)).bind fun k=>cond k (some (.inl (w64 (a - 1)))) (some (.inr a))
noncomputable def q8o (d : Int) (f : qh→qh→Option Int) (a : Int × Int × List qh) : Option ((Int × Int × List qh) ⊕ (Int × List qh)):=
  (loop (q8p a d f) a.1).bind fun b=>(loop (q8q b a d f) a.2.1).bind fun c=>cond (decide (b > c)) (some (.inr (b,a.2.2))) ((idx a.2.2 c).bind fun g=>(idx a.2.2 b).bind fun h=>(idx a.2.2 b).bind fun _=>(idx (a.2.2.set b.toNat g) c).bind fun _=>some (.inl (w64 (b + 1),w64 (c - 1),(a.2.2.set b.toNat g).set c.toNat h)))
noncomputable def q8n (g : qh→qh→Option Int) (b : List qh) (a : Int) (h : Int) (c : Int) : Option (Int × List qh):=
  (idx b c).bind fun d=>(idx b a).bind fun j=>(idx b a).bind fun _=>(idx (b.set a.toNat d) c).bind fun _=>(loop (q8o a g) (w64 (a + 1),w64 (h - 1),(b.set a.toNat d).set c.toNat j)).bind fun f=>some (f.1,f.2)
noncomputable def q8i (h : Int) (c : List qh) (b : Int) (d : qh) (f : Int) (g : qh) (j : qh→qh→Option Int) (a : Int) : Option ((Int) ⊕ (Int)):=
  (cond (decide (a≤(w64 (h - 1)))) ((idx ((c.set b.toNat d).set f.toNat g) a).bind fun k=>(idx ((c.set b.toNat d).set f.toNat g) b).bind fun l=>(j k l).bind fun m=>some (decide (m < 0))) (some false)).bind fun n=>cond n (some (.inl (w64 (a + 1)))) (some (.inr a))
noncomputable def q8j (h : Int) (c : List qh) (b : Int) (d : qh) (f : Int) (g : qh) (j : qh→qh→Option Int) (a : Int) : Option ((Int) ⊕ (Int)):=
  (cond (decide (h≤a)) ((idx ((c.set b.toNat d).set f.toNat g) a).bind fun k=>(idx ((c.set b.toNat d).set f.toNat g) b).bind fun l=>(j k l).bind fun m=>some (!(decide (m < 0)))) (some false)).bind fun n=>cond n (some (.inl (w64 (a - 1)))) (some (.inr a))
noncomputable def q8l (b : Int × Int × List qh) (c : Int) (d : qh→qh→Option Int) (a : Int) : Option ((Int) ⊕ (Int)):=
  (cond (decide (a≤b.2.1)) ((idx b.2.2 a).bind fun f=>(idx b.2.2 c).bind fun g=>(d f g).bind fun h=>some (decide (h < 0))) (some false)).bind fun j=>cond j (some (.inl (w64 (a + 1)))) (some (.inr a))
noncomputable def q8m (c : Int) (b : Int × Int × List qh) (d : Int) (f : qh→qh→Option Int) (a : Int) : Option ((Int) ⊕ (Int)):=
  (cond (decide (c≤a)) ((idx b.2.2 a).bind fun g=>(idx b.2.2 d).bind fun h=>(f g h).bind fun j=>some (!(decide (j < 0)))) (some false)).bind fun k=>cond k (some (.inl (w64 (a - 1)))) (some (.inr a))
noncomputable def q8k (d : Int) (f : qh→qh→Option Int) (a : Int × Int × List qh) : Option ((Int × Int × List qh) ⊕ (Int × List qh)):=
  (loop (q8l a d f) a.1).bind fun b=>(loop (q8m b a d f) a.2.1).bind fun c=>cond (decide (b > c)) (some (.inr (c,a.2.2))) ((idx a.2.2 c).bind fun g=>(idx a.2.2 b).bind fun h=>(idx a.2.2 b).bind fun _=>(idx (a.2.2.set b.toNat g) c).bind fun _=>some (.inl (w64 (b + 1),w64 (c - 1),(a.2.2.set b.toNat g).set c.toNat h)))
noncomputable def q8h (k : qh→qh→Option Int) (b : List qh) (a : Int) (l : Int) (c : Int) : Option (Int × Bool × List qh):=
  (idx b c).bind fun d=>(idx b a).bind fun f=>(idx b a).bind fun _=>(idx (b.set a.toNat d) c).bind fun _=>(loop (q8i l b a d c f k) (w64 (a + 1))).bind fun j=>(loop (q8j j b a d c f k) (w64 (l - 1))).bind fun g=>cond (decide (j > g)) ((idx ((b.set a.toNat d).set c.toNat f) a).bind fun m=>(idx ((b.set a.toNat d).set c.toNat f) g).bind fun p=>(idx ((b.set a.toNat d).set c.toNat f) g).bind fun _=>(idx (((b.set a.toNat d).set c.toNat f).set g.toNat m) a).bind fun _=>some (g,true,(((b.set a.toNat d).set c.toNat f).set g.toNat m).set a.toNat p)) ((idx ((b.set a.toNat d).set c.toNat f) g).bind fun n=>(idx ((b.set a.toNat d).set c.toNat f) j).bind fun q=>(idx ((b.set a.toNat d).set c.toNat f) j).bind fun _=>(idx (((b.set a.toNat d).set c.toNat f).set j.toNat n) g).bind fun _=>(loop (q8k a k) (w64 (j + 1),w64 (g - 1),(((b.set a.toNat d).set c.toNat f).set j.toNat n).set g.toNat q)).bind fun h=>(idx h.2 a).bind fun o=>(idx h.2 h.1).bind fun r=>(idx h.2 h.1).bind fun _=>(idx (h.2.set h.1.toNat o) a).bind fun _=>some (h.1,false,(h.2.set h.1.toNat o).set a.toNat r))
noncomputable def q85 (b : Int) (d : Int) (f : Int) (a : Int × List qh × Int) : Option ((Int × List qh × Int) ⊕ (List qh)):=
  cond (decide (a.1≤(w64 ((w64 (b + (w64 ((w64 (Int.tdiv (w64 (d - b)) 4)) * 2)))) + 1)))) ((Uy a.2.2).bind fun c=>(cond (decide ((w64 (andI .u64 c (IntKind.wrap .u64 (f - 1)))) ≥ (w64 (d - b)))) (some (w64 ((w64 (andI .u64 c (IntKind.wrap .u64 (f - 1)))) - (w64 (d - b))))) (some (w64 (andI .u64 c (IntKind.wrap .u64 (f - 1)))))).bind fun g=>(idx a.2.1 (w64 (b + g))).bind fun h=>(idx a.2.1 a.1).bind fun j=>(idx a.2.1 a.1).bind fun _=>(idx (a.2.1.set a.1.toNat h) (w64 (b + g))).bind fun _=>some (.inl (w64 (a.1 + 1),(a.2.1.set a.1.toNat h).set (w64 (b + g)).toNat j,c))) (some (.inr a.2.1))
noncomputable def q84 (g : qh→qh→Option Int) (c : List qh) (a : Int) (b : Int) : Option (List qh):=
  cond (decide ((w64 (b - a)) ≥ 8)) ((Ux (w64 (b - a))).bind fun d=>(loop (q85 a b d) (w64 ((w64 (a + (w64 ((w64 (Int.tdiv (w64 (b - a)) 4)) * 2)))) - 1),c,IntKind.wrap .u64 (w64 (b - a)))).bind fun f=>some f) (some c)
noncomputable def q63 (c : qh→qh→Option Int) (rec : List qh→Int→Int→Int→Option (List qh)) (a : Int × Int × Int × Bool × Bool × List qh) : Option ((Int × Int × Int × Bool × Bool × List qh) ⊕ (List qh)):=
  cond (decide ((w64 (a.2.1 - a.1))≤12)) ((q8a c a.2.2.2.2.2 a.1 a.2.1).bind fun l=>(Qm l.length a.2.2.2.2.2.length).bind fun _=>some (.inr l)) (cond (a.2.2.1 == 0) ((q87 c a.2.2.2.2.2 a.1 a.2.1).bind fun m=>(Qm m.length a.2.2.2.2.2.length).bind fun _=>some (.inr m)) ((cond (!a.2.2.2.1) ((q84 c a.2.2.2.2.2 a.1 a.2.1).bind fun n=>(Qm n.length a.2.2.2.2.2.length).bind fun _=>some (w64 (a.2.2.1 - 1),n)) (some (a.2.2.1,a.2.2.2.2.2))).bind fun d=>(q86 d.2 a.1 a.2.1 c).bind fun h=>(cond (h.2 == 2) ((q8r c d.2 a.1 a.2.1).bind fun o=>(Qm o.length d.2.length).bind fun _=>some (w64 ((w64 (a.2.1 - 1)) - (w64 (h.1 - a.1))),1,o)) (some (h.1,h.2,d.2))).bind fun f=>(cond a.2.2.2.1 (some a.2.2.2.2.1) (some false)).bind fun r=>(cond r (some (f.2.1 == 1)) (some false)).bind fun s=>(cond s ((q5o c f.2.2 a.1 a.2.1).bind fun j=>(Qm j.2.length f.2.2.length).bind fun _=>cond j.1 (some (.inr j.2)) (some (.inl j.2))) (some (.inl f.2.2)) : Option ((List qh) ⊕ (List qh))).bind fun t=>(match t with | .inl g=>(cond (decide (a.1 > 0)) ((idx g (w64 (a.1 - 1))).bind fun u=>(idx g f.1).bind fun v=>(c u v).bind fun w=>some (!(decide (w < 0)))) (some false)).bind fun x=>cond x ((q8n c g a.1 a.2.1 f.1).bind fun k=>(Qm k.2.length g.length).bind fun _=>some (.inl (k.1,a.2.1,d.1,a.2.2.2.1,a.2.2.2.2.1,k.2))) ((q8h c g a.1 a.2.1 f.1).bind fun b=>(Qm b.2.2.length g.length).bind fun _=>cond (decide ((w64 (b.1 - a.1)) < (w64 (a.2.1 - b.1)))) ((rec b.2.2 a.1 b.1 d.1).bind fun p=>(Qm p.length b.2.2.length).bind fun _=>some (.inl (w64 (b.1 + 1),a.2.1,d.1,decide ((w64 (b.1 - a.1)) ≥ (w64 (Int.tdiv (w64 (a.2.1 - a.1)) 8))),b.2.1,p))) ((rec b.2.2 (w64 (b.1 + 1)) a.2.1 d.1).bind fun q=>(Qm q.length b.2.2.length).bind fun _=>some (.inl (a.1,b.1,d.1,decide ((w64 (a.2.1 - b.1)) ≥ (w64 (Int.tdiv (w64 (a.2.1 - a.1)) 8))),b.2.1,q)))) | .inr y=>some (.inr y))))
noncomputable def q64 (rec : List qh→Int→Int→Int→Option (List qh)) (a : qh→qh→Option Int) (b : List qh) (c : Int) (d : Int) (f : Int) : Option (List qh):=
  (loop (q63 a rec) (c,d,f,true,true,b)).bind fun g=>some g
noncomputable def q62 : Nat→(qh→qh→Option Int)→List qh→Int→Int→Int→Option (List qh)
  | 0,_,_,_,_,_=>none
  | n + 1,a,b,c,d,f=>q64 (q62 n a) a b c d f
noncomputable def q5d (c : qh→qh→Option Int) (a : List qh) : Option (List qh):=
  (U3 (IntKind.wrap .u64 (a.length : Int))).bind fun d=>(lim (fun n=>q62 n c a 0 (a.length : Int) d)).bind fun b=>(Qm b.length a.length).bind fun _=>some b
noncomputable def qb8 (a : List qh) : Option (List qh):=
  some a
noncomputable def q40 (b : List qj) (c : Int × List qh) (a : Int × List qh) : Option ((Int × List qh) ⊕ (List qh)):=
  cond (decide (a.1 < (b.length : Int))) ((idx b a.1).bind fun d=>(app 24 a.2 [({at_:=d.Lo,list_:=c.1,by_:=1} : qh),({at_:=d.Hi,list_:=c.1,by_:=(-1)} : qh)]).bind fun f=>some (.inl (w64 (a.1 + 1),f))) (some (.inr a.2))
noncomputable def Ua (b : List (List qj)) (a : Int × List qh) : Option ((Int × List qh) ⊕ (List qh)):=
  cond (decide (a.1 < (b.length : Int))) (((idx b a.1).bind fun c=>(loop (q40 c a) (0,a.2)).bind fun d=>some d).bind fun f=>some (.inl (w64 (a.1 + 1),f))) (some (.inr a.2))
noncomputable def q92 (b : List (List qj)) : Option (List (List qj) × List qh):=
  (loop (Ua b) (0,[])).bind fun c=>(q5d (fun f g=>q91 f g) c).bind fun a=>(Qm a.length c.length).bind fun _=>(qb8 a).bind fun d=>(Qm d.length a.length).bind fun _=>some (b,d)
noncomputable def q93 (d : Int) (c : Bool) (b : Int) (a : List qj) : Option (Bool × Int × List qj):=
  (cond (!c) (some true) (some (b == d))).bind fun f=>cond f (some (c,b,a)) ((cond (decide ((a.length : Int) > 0)) ((idx a (w64 ((a.length : Int) - 1))).bind fun g=>some (g.Hi == b)) (some false)).bind fun h=>cond h ((idx a (w64 ((a.length : Int) - 1))).bind fun j=>some (c,b,a.set (w64 ((a.length : Int) - 1)).toNat ({Lo:=j.Lo,Hi:=d} : qj))) ((app 16 a [({Lo:=b,Hi:=d} : qj)]).bind fun k=>some (c,b,k)))
noncomputable def q41 (f : List (List qj) × List qh) (g : Bool→Bool→Option Bool) (a : Int × List Int × Int × Bool × List qj) : Option ((Int × List Int × Int × Bool × List qj) ⊕ (List qj)):=
  cond (decide (a.1 < (f.2.length : Int))) ((idx f.2 a.1).bind fun b=>((q93 b.at_ a.2.2.2.1 a.2.2.1 a.2.2.2.2).bind fun h=>(idxA 2 a.2.1 b.list_).bind fun c=>(idxA 2 a.2.1 b.list_).bind fun _=>(idxA 2 (a.2.1.set b.list_.toNat (w64 (c + b.by_))) 0).bind fun j=>(idxA 2 (a.2.1.set b.list_.toNat (w64 (c + b.by_))) 1).bind fun k=>(g (decide (j > 0)) (decide (k > 0))).bind fun l=>some (a.2.1.set b.list_.toNat (w64 (c + b.by_)),l,h.2.2)).bind fun d=>some (.inl (w64 (a.1 + 1),d.1,b.at_,d.2.1,d.2.2))) (some (.inr a.2.2.2.2))
noncomputable def q6e (a : List qj) (b : List qj) (d : Bool→Bool→Option Bool) : Option (List qj):=
  (q92 [a,b]).bind fun c=>(Qm c.1.length [a,b].length).bind fun _=>((loop (q41 c d) (0,[0,0],0,false,[])).bind fun f=>some f).bind fun g=>some g
noncomputable def q90 (a : Bool) (b : Bool) : Option Bool:=
  some a
noncomputable def q24 (a : List qj) : Option (List qj × Int):=
  cond (decide ((a.length : Int) > 400)) (some ([],4)) ((q7z a (fun b=>qbc b)).bind fun c=>cond c (some ([],8)) ((q6e a [] (fun b d=>q90 b d)).bind fun f=>some (f,0)))
noncomputable def qb4 (b : List qj) (f : List qj) (a : Int) : Option ((Int) ⊕ ((Unit) ⊕ (Bool))):=
  cond (decide (a < (b.length : Int))) ((idx b a).bind fun c=>(idx f a).bind fun d=>cond (!((c.Lo == d.Lo) && ((c.Hi == d.Hi) && true))) (some (.inr (.inr false))) (some (.inl (w64 (a + 1))))) (some (.inr (.inl ())))
noncomputable def q81 (a : List qj) (b : List qj) : Option Bool:=
  cond ((a.length : Int) != (b.length : Int)) (some false) ((loop (qb4 a b) 0 : Option ((Unit) ⊕ (Bool))).bind fun c=>(match c with | .inl _=>some true | .inr d=>some d))
noncomputable def q55 (c : Int) (a : Int × List qf) : Option ((Int × List qf) ⊕ (List qf)):=
  cond (decide (a.1 < (a.2.length : Int))) ((idx a.2 a.1).bind fun b=>some (.inl (w64 (a.1 + 1),a.2.set a.1.toNat ({X0:=b.X0,Y0:=b.Y0,X1:=c,Y1:=b.Y1} : qf)))) (some (.inr a.2))
noncomputable def q56 (b : List qj) (f : Int) (c : Int) (g : List qf) (a : Int × List qf) : Option ((Int × List qf) ⊕ (List qj × Int × Int × List qf)):=
  cond (decide (a.1 < (b.length : Int))) ((idx b a.1).bind fun d=>(app 32 a.2 [({X0:=f,Y0:=d.Lo,X1:=c,Y1:=d.Hi} : qf)]).bind fun h=>some (.inl (w64 (a.1 + 1),h))) (some (.inr (b,(g.length : Int),c,a.2)))
noncomputable def q7t (a : List qf) (d : List qj) (f : Int) (h : Int) (g : Int) (b : Int) (c : List qj) : Option (List qj × Int × Int × List qf):=
  (cond (decide ((c.length : Int) > 0)) (some (h == g)) (some false)).bind fun j=>(cond j ((q81 d c).bind fun k=>some k) (some false)).bind fun l=>cond l ((loop (q55 b) (f,a)).bind fun m=>some (d,f,b,m)) ((loop (q56 c g b a) (0,a)).bind fun n=>some n)
noncomputable def q1u (b : List qf) (a : Int × List Int) : Option ((Int × List Int) ⊕ (List Int)):=
  cond (decide (a.1 < (b.length : Int))) ((idx b a.1).bind fun c=>(app 8 a.2 [c.X0,c.X1]).bind fun d=>some (.inl (w64 (a.1 + 1),d))) (some (.inr a.2))
noncomputable def q3g (c : List qf) (d : Int) (a : Int × List qj) : Option ((Int × List qj) ⊕ (List qj)):=
  cond (decide (a.1 < (c.length : Int))) (((idx c a.1).bind fun b=>(cond (decide (b.X0≤d)) (some (decide (d < b.X1))) (some false)).bind fun f=>cond f ((app 16 a.2 [({Lo:=b.Y0,Hi:=b.Y1} : qj)]).bind fun g=>some g) (some a.2)).bind fun h=>some (.inl (w64 (a.1 + 1),h))) (some (.inr a.2))
noncomputable def q1v (d : List Int) (g : List qf) (a : Int × List qj × Int × Int × List qf) : Option ((Int × List qj × Int × Int × List qf) ⊕ (List qj × Int × Int × List qf)):=
  cond (decide (a.1 < (d.length : Int))) ((idx d (w64 (a.1 - 1))).bind fun f=>(idx d a.1).bind fun h=>((idx [g] 0).bind fun j=>(loop (q3g j f) (0,[])).bind fun k=>some k).bind fun l=>((q24 l).bind fun m=>(q7t a.2.2.2.2 a.2.1 a.2.2.1 a.2.2.2.1 f h m.1).bind fun b=>some (b.1,b.2.1,b.2.2.1,b.2.2.2)).bind fun c=>some (.inl (w64 (a.1 + 1),c.1,c.2.1,c.2.2.1,c.2.2.2))) (some (.inr (a.2.1,a.2.2.1,a.2.2.2.1,a.2.2.2.2)))
noncomputable def q57 (d : List qf) : Option (List qf × Int):=
  (((idx [d] 0).bind fun j=>(loop (q1u j) (0,[])).bind fun b=>some b).bind fun f=>(U9 f).bind fun c=>(Qm c.length f.length).bind fun _=>(q1z c).bind fun a=>(Qm a.2.length c.length).bind fun _=>(q26 a.2.length a.1).bind fun _=>some ((a.2.drop a.1.1).take a.1.2)).bind fun k=>((loop (q1v k d) (1,[],0,0,[])).bind fun b=>some b).bind fun g=>(cond (decide ((g.2.2.2.length : Int) > 400)) (some (4,[])) (some (0,g.2.2.2))).bind fun h=>some (h.2,h.1)
noncomputable def qb1 (d : List qf) (f : List qf) (a : Int) : Option ((Int) ⊕ ((Unit) ⊕ (Bool))):=
  cond (decide (a < (d.length : Int))) ((idx d a).bind fun b=>(idx f a).bind fun c=>cond (!((b.X0 == c.X0) && ((b.Y0 == c.Y0) && ((b.X1 == c.X1) && ((b.Y1 == c.Y1) && true))))) (some (.inr (.inr false))) (some (.inl (w64 (a + 1))))) (some (.inr (.inl ())))
noncomputable def U7 (a : List qf) (b : List qf) : Option Bool:=
  cond ((a.length : Int) != (b.length : Int)) (some false) ((loop (qb1 a b) 0 : Option ((Unit) ⊕ (Bool))).bind fun c=>(match c with | .inl _=>some true | .inr d=>some d))
noncomputable def q54 (a : List qf) : Option Int:=
  cond (decide ((a.length : Int) > 400)) (some 4) ((q7y a (fun c=>q1r c)).bind fun d=>cond d (some 8) ((q57 a).bind fun b=>(cond (b.2 != 0) (some true) ((U7 b.1 a).bind fun f=>some (!f))).bind fun g=>cond g (some 8) (some 0)))
noncomputable def q4z (a : Int) : Option Bool:=
  (cond (decide (a ≥ (-1000000))) (some (decide (a≤1000000))) (some false)).bind fun b=>some b
def qw (x : qg) : List DV:=[.int .i64 x.Lo.X,.int .i64 x.Lo.Y,.int .i64 x.Lo.Z,.int .i64 x.Hi.X,.int .i64 x.Hi.Y,.int .i64 x.Hi.Z]
noncomputable def qdz (a : Int) (b : Unit) : Option ((Unit) ⊕ (Unit)):=
  cond (decide (a < 0)) none (some (.inr ()))
noncomputable def q50 (c : List qf) (f : Int) (d : Int) (a : Int × List qg) : Option ((Int × List qg) ⊕ (List qf × Int × Int × List qg)):=
  cond (decide (a.1 < (c.length : Int))) ((idx c a.1).bind fun b=>(app 48 a.2 [({Lo:=({X:=b.X0,Y:=b.Y0,Z:=f} : qi),Hi:=({X:=b.X1,Y:=b.Y1,Z:=d} : qi)} : qg)]).bind fun g=>some (.inl (w64 (a.1 + 1),g))) (some (.inr (c,0,d,a.2)))
noncomputable def q7r (b : Int) (f : Int) (c : Int) (d : Int) (a : List qf) : Option (List qf × Int × Int × List qg):=
  (cond (decide ((a.length : Int) > 0)) (some (f == c)) (some false)).bind fun g=>(cond g ((U7 [] a).bind fun h=>some h) (some false)).bind fun j=>cond j ((loop (qdz b) ()).bind fun _=>some ([],b,d,[])) ((loop (q50 a c d) (0,[])).bind fun k=>some k)
noncomputable def q4y (c : List qf) (a : Int) (b : Int) : Option (List qg × Int):=
  (q54 c).bind fun d=>cond (d != 0) (some ([],d)) ((q4z a).bind fun h=>(cond (!h) (some true) ((q4z b).bind fun j=>some (!j))).bind fun k=>(cond k (some true) (some (decide (a ≥ b)))).bind fun l=>cond l (some ([],2)) ((q7r 0 0 a b c).bind fun f=>(cond (decide ((f.2.2.2.length : Int) > 400)) (some (4,[])) (some (0,f.2.2.2))).bind fun g=>some (g.2,g.1)))
noncomputable def U8 (b : List qg) (c : qg→Option Bool) (a : Int) : Option ((Int) ⊕ ((Unit) ⊕ (Int))):=
  cond (decide (a < (b.length : Int))) ((idx b a).bind fun d=>(c d).bind fun f=>cond f (some (.inr (.inr a))) (some (.inl (w64 (a + 1))))) (some (.inr (.inl ())))
noncomputable def q82 (a : List qg) (b : qg→Option Bool) : Option Int:=
  (loop (U8 a b) 0 : Option ((Unit) ⊕ (Int))).bind fun c=>(match c with | .inl _=>some (-1) | .inr d=>some d)
noncomputable def q3i (a : List qg) (b : qg→Option Bool) : Option Bool:=
  (q82 a b).bind fun c=>some (decide (c ≥ 0))
noncomputable def q6d (a : qi) : Option Bool:=
  (cond (decide ((min (min a.X a.Y) a.Z) ≥ (-1000000))) (some (decide ((max (max a.X a.Y) a.Z)≤1000000))) (some false)).bind fun b=>some b
noncomputable def q8x (a : qg) : Option Bool:=
  (cond (decide (a.Lo.X < a.Hi.X)) (some (decide (a.Lo.Y < a.Hi.Y))) (some false)).bind fun b=>(cond b (some (decide (a.Lo.Z < a.Hi.Z))) (some false)).bind fun c=>(cond c ((q6d a.Lo).bind fun d=>some d) (some false)).bind fun f=>(cond f ((q6d a.Hi).bind fun g=>some g) (some false)).bind fun h=>some h
noncomputable def q23 (a : qg) : Option Bool:=
  (q8x a).bind fun b=>some (!b)
def Ke (x : List qg) : List DV:=[.sl 6 (x.map qw)]
noncomputable def q3j (b : List qf) (c : qf→Option Bool) (a : Int) : Option ((Int) ⊕ ((Unit) ⊕ (Int))):=
  cond (decide (a < (b.length : Int))) ((idx b a).bind fun d=>(c d).bind fun f=>cond f (some (.inr (.inr a))) (some (.inl (w64 (a + 1))))) (some (.inr (.inl ())))
noncomputable def qb5 (a : List qf) (b : qf→Option Bool) : Option Int:=
  (loop (q3j a b) 0 : Option ((Unit) ⊕ (Int))).bind fun c=>(match c with | .inl _=>some (-1) | .inr d=>some d)
noncomputable def q7x (a : List qf) (b : qf→Option Bool) : Option Bool:=
  (qb5 a b).bind fun c=>some (decide (c ≥ 0))
noncomputable def q1s (a : qf) : Option Bool:=
  (q58 a).bind fun b=>some (!b)
noncomputable def q3f (a : List qf) : Option (List qf × Int):=
  cond (decide ((a.length : Int) > 400)) (some ([],4)) ((q7x a (fun c=>q1s c)).bind fun d=>cond d (some ([],8)) ((q57 a).bind fun b=>some (b.1,b.2)))
noncomputable def q6b (c : Int) (a : Int × List qg) : Option ((Int × List qg) ⊕ (List qg)):=
  cond (decide (a.1 < (a.2.length : Int))) ((idx a.2 a.1).bind fun b=>some (.inl (w64 (a.1 + 1),a.2.set a.1.toNat ({Lo:=b.Lo,Hi:=({X:=b.Hi.X,Y:=b.Hi.Y,Z:=c} : qi)} : qg)))) (some (.inr a.2))
noncomputable def q6c (c : List qf) (f : Int) (d : Int) (g : List qg) (a : Int × List qg) : Option ((Int × List qg) ⊕ (List qf × Int × Int × List qg)):=
  cond (decide (a.1 < (c.length : Int))) ((idx c a.1).bind fun b=>(app 48 a.2 [({Lo:=({X:=b.X0,Y:=b.Y0,Z:=f} : qi),Hi:=({X:=b.X1,Y:=b.Y1,Z:=d} : qi)} : qg)]).bind fun h=>some (.inl (w64 (a.1 + 1),h))) (some (.inr (c,(g.length : Int),d,a.2)))
noncomputable def q8w (a : List qg) (d : List qf) (f : Int) (h : Int) (g : Int) (b : Int) (c : List qf) : Option (List qf × Int × Int × List qg):=
  (cond (decide ((c.length : Int) > 0)) (some (h == g)) (some false)).bind fun j=>(cond j ((U7 d c).bind fun k=>some k) (some false)).bind fun l=>cond l ((loop (q6b b) (f,a)).bind fun m=>some (d,f,b,m)) ((loop (q6c c g b a) (0,a)).bind fun n=>some n)
noncomputable def q3w (b : List qg) (a : Int × List Int) : Option ((Int × List Int) ⊕ (List Int)):=
  cond (decide (a.1 < (b.length : Int))) ((idx b a.1).bind fun c=>(app 8 a.2 [c.Lo.Z,c.Hi.Z]).bind fun d=>some (.inl (w64 (a.1 + 1),d))) (some (.inr a.2))
noncomputable def q3y (c : List qg) (d : Int) (a : Int × List qf) : Option ((Int × List qf) ⊕ (List qf)):=
  cond (decide (a.1 < (c.length : Int))) (((idx c a.1).bind fun b=>(cond (decide (b.Lo.Z≤d)) (some (decide (d < b.Hi.Z))) (some false)).bind fun f=>cond f ((app 32 a.2 [({X0:=b.Lo.X,Y0:=b.Lo.Y,X1:=b.Hi.X,Y1:=b.Hi.Y} : qf)]).bind fun g=>some g) (some a.2)).bind fun h=>some (.inl (w64 (a.1 + 1),h))) (some (.inr a.2))
noncomputable def q3x (d : List Int) (h : List qg) (a : Int × List qf × Int × Int × List qg) : Option ((Int × List qf × Int × Int × List qg) ⊕ ((List qf × Int × Int × List qg) ⊕ (List qg × Int))):=
  cond (decide (a.1 < (d.length : Int))) ((idx d (w64 (a.1 - 1))).bind fun g=>(idx d a.1).bind fun j=>((idx [h] 0).bind fun k=>(loop (q3y k g) (0,[])).bind fun l=>some l).bind fun m=>((q3f m).bind fun f=>cond (f.2 != 0) (some (.inr ([],f.2))) ((q8w a.2.2.2.2 a.2.1 a.2.2.1 a.2.2.2.1 g j f.1).bind fun b=>some (.inl (b.1,b.2.1,b.2.2.1,b.2.2.2))) : Option ((List qf × Int × Int × List qg) ⊕ (List qg × Int))).bind fun n=>(match n with | .inl c=>some (.inl (w64 (a.1 + 1),c.1,c.2.1,c.2.2.1,c.2.2.2)) | .inr o=>some (.inr (.inr o)))) (some (.inr (.inl (a.2.1,a.2.2.1,a.2.2.2.1,a.2.2.2.2))))
noncomputable def q8y (f : List qg) : Option (List qg × Int):=
  (((idx [f] 0).bind fun j=>(loop (q3w j) (0,[])).bind fun b=>some b).bind fun g=>(U9 g).bind fun c=>(Qm c.length g.length).bind fun _=>(q1z c).bind fun a=>(Qm a.2.length c.length).bind fun _=>(q26 a.2.length a.1).bind fun _=>some ((a.2.drop a.1.1).take a.1.2)).bind fun k=>((loop (q3x k f) (1,[],0,0,[]) : Option ((List qf × Int × Int × List qg) ⊕ (List qg × Int))).bind fun l=>(match l with | .inl b=>some (.inl b) | .inr d=>some (.inr d)) : Option ((List qf × Int × Int × List qg) ⊕ (List qg × Int))).bind fun m=>(match m with | .inl h=>cond (decide ((h.2.2.2.length : Int) > 400)) (some ([],4)) (some (h.2.2.2,0)) | .inr d=>some d)
noncomputable def qeb (d : List qg) (f : List qg) (c : Int) : Option ((Int) ⊕ ((Unit) ⊕ (Bool))):=
  cond (decide (c < (d.length : Int))) ((idx d c).bind fun a=>(idx f c).bind fun b=>cond (!((a.Lo.X == b.Lo.X) && ((a.Lo.Y == b.Lo.Y) && ((a.Lo.Z == b.Lo.Z) && ((a.Hi.X == b.Hi.X) && ((a.Hi.Y == b.Hi.Y) && ((a.Hi.Z == b.Hi.Z) && true))))))) (some (.inr (.inr false))) (some (.inl (w64 (c + 1))))) (some (.inr (.inl ())))
noncomputable def qb3 (a : List qg) (b : List qg) : Option Bool:=
  cond ((a.length : Int) != (b.length : Int)) (some false) ((loop (qeb a b) 0 : Option ((Unit) ⊕ (Bool))).bind fun c=>(match c with | .inl _=>some true | .inr d=>some d))
noncomputable def q3u (a : List qg) : Option Int:=
  cond (decide ((a.length : Int) > 400)) (some 4) ((q3i a (fun c=>q23 c)).bind fun d=>cond d (some 8) ((q8y a).bind fun b=>(cond (b.2 != 0) (some true) ((qb3 b.1 a).bind fun f=>some (!f))).bind fun g=>cond g (some 8) (some 0)))
noncomputable def qba (a : qg) : Option (Int × Int × Int):=
  some (w64 (a.Hi.X - a.Lo.X),w64 (a.Hi.Y - a.Lo.Y),w64 (a.Hi.Z - a.Lo.Z))
noncomputable def q6a (c : List qg) (a : Int × Int) : Option ((Int × Int) ⊕ (Int)):=
  cond (decide (a.2 < (c.length : Int))) ((idx c a.2).bind fun d=>(qba d).bind fun b=>some (.inl (w64 (a.1 + (w64 ((w64 (b.1 * b.2.1)) * b.2.2))),w64 (a.2 + 1)))) (some (.inr a.1))
noncomputable def q3v (a : List qg) : Option (Int × Int):=
  (q3u a).bind fun b=>cond (b != 0) (some (0,b)) ((loop (q6a a) (0,0)).bind fun c=>some (c,0))
noncomputable def q3l (b : List Qt) (c : Qt→Option Bool) (a : Int) : Option ((Int) ⊕ ((Unit) ⊕ (Int))):=
  cond (decide (a < (b.length : Int))) ((idx b a).bind fun d=>(c d).bind fun f=>cond f (some (.inr (.inr a))) (some (.inl (w64 (a + 1))))) (some (.inr (.inl ())))
noncomputable def qb7 (a : List Qt) (b : Qt→Option Bool) : Option Int:=
  (loop (q3l a b) 0 : Option ((Unit) ⊕ (Int))).bind fun c=>(match c with | .inl _=>some (-1) | .inr d=>some d)
noncomputable def q80 (a : List Qt) (b : Qt→Option Bool) : Option Bool:=
  (qb7 a b).bind fun c=>some (decide (c ≥ 0))
noncomputable def Ut (a : Qt) : Option Bool:=
  (cond (decide (a.Height < 1)) (some true) (some (decide (a.Height > 1000000)))).bind fun b=>some b
noncomputable def q51 (c : Int) (a : Int × List qg) : Option ((Int × List qg) ⊕ (List qg)):=
  cond (decide (a.1 < (a.2.length : Int))) ((idx a.2 a.1).bind fun b=>some (.inl (w64 (a.1 + 1),a.2.set a.1.toNat ({Lo:=b.Lo,Hi:=({X:=b.Hi.X,Y:=b.Hi.Y,Z:=c} : qi)} : qg)))) (some (.inr a.2))
noncomputable def q52 (c : List qf) (f : Int) (d : Int) (g : List qg) (a : Int × List qg) : Option ((Int × List qg) ⊕ (List qf × Int × Int × List qg)):=
  cond (decide (a.1 < (c.length : Int))) ((idx c a.1).bind fun b=>(app 48 a.2 [({Lo:=({X:=b.X0,Y:=b.Y0,Z:=f} : qi),Hi:=({X:=b.X1,Y:=b.Y1,Z:=d} : qi)} : qg)]).bind fun h=>some (.inl (w64 (a.1 + 1),h))) (some (.inr (c,(g.length : Int),d,a.2)))
noncomputable def q7s (a : List qg) (d : List qf) (f : Int) (h : Int) (g : Int) (b : Int) (c : List qf) : Option (List qf × Int × Int × List qg):=
  (cond (decide ((c.length : Int) > 0)) (some (h == g)) (some false)).bind fun j=>(cond j ((U7 d c).bind fun k=>some k) (some false)).bind fun l=>cond l ((loop (q51 b) (f,a)).bind fun m=>some (d,f,b,m)) ((loop (q52 c g b a) (0,a)).bind fun n=>some n)
noncomputable def q3d (b : List Qt) (a : Int) : Option ((Int) ⊕ ((Unit) ⊕ (List qg × Int))):=
  cond (decide (a < (b.length : Int))) ((idx b a).bind fun d=>(q54 d.Region).bind fun c=>cond (c != 0) (some (.inr (.inr ([],c)))) (some (.inl (w64 (a + 1))))) (some (.inr (.inl ())))
noncomputable def q3e (d : List Qt) (a : Int × Int × List qf × Int × Int × List qg) : Option ((Int × Int × List qf × Int × Int × List qg) ⊕ ((List qf × Int × Int × List qg) ⊕ (List qg × Int))):=
  cond (decide (a.2.1 < (d.length : Int))) ((idx d a.2.1).bind fun b=>cond (decide ((w64 (a.1 + b.Height)) > 1000000)) (some (.inr (.inr ([],16)))) ((q7s a.2.2.2.2.2 a.2.2.1 a.2.2.2.1 a.2.2.2.2.1 a.1 (w64 (a.1 + b.Height)) b.Region).bind fun c=>some (.inl (w64 (a.1 + b.Height),w64 (a.2.1 + 1),c.1,c.2.1,c.2.2.1,c.2.2.2)))) (some (.inr (.inl (a.2.2.1,a.2.2.2.1,a.2.2.2.2.1,a.2.2.2.2.2))))
noncomputable def q3c (a : List Qt) (c : Int) : Option (List qg × Int):=
  cond (decide ((a.length : Int) > 100)) (some ([],4)) ((loop (q3d a) 0 : Option ((Unit) ⊕ (List qg × Int))).bind fun g=>(match g with | .inl _=>(q4z c).bind fun h=>(cond (!h) (some true) ((q80 a (fun j=>Ut j)).bind fun k=>some k)).bind fun l=>cond l (some ([],2)) ((loop (q3e a) (c,0,[],0,0,[]) : Option ((List qf × Int × Int × List qg) ⊕ (List qg × Int))).bind fun m=>(match m with | .inl d=>(cond (decide ((d.2.2.2.length : Int) > 400)) (some (4,[])) (some (0,d.2.2.2))).bind fun f=>some (f.2,f.1) | .inr b=>some b)) | .inr b=>some b))
noncomputable def q4w (c : List qg) (d : Int) (f : Int) (a : Int × List qj) : Option ((Int × List qj) ⊕ (List qj)):=
  cond (decide (a.1 < (c.length : Int))) (((idx c a.1).bind fun b=>(cond (decide (b.Lo.X≤d)) (some (decide (d < b.Hi.X))) (some false)).bind fun g=>(cond g (some (decide (b.Lo.Y≤f))) (some false)).bind fun h=>(cond h (some (decide (f < b.Hi.Y))) (some false)).bind fun j=>cond j ((app 16 a.2 [({Lo:=b.Lo.Z,Hi:=b.Hi.Z} : qj)]).bind fun k=>some k) (some a.2)).bind fun l=>some (.inl (w64 (a.1 + 1),l))) (some (.inr a.2))
noncomputable def q3b (a : List qg) (d : Int) (f : Int) : Option (List qj × Int):=
  (q3u a).bind fun b=>cond (b != 0) (some ([],b)) ((loop (q4w a d f) (0,[])).bind fun g=>(q24 g).bind fun c=>some (c.1,c.2))
structure Qn where
  Turn : Int
  At : qi
  deriving DecidableEq
structure Q6 where
  Frame : Qn
  Size : qi
  deriving DecidableEq
noncomputable def qaf : Option Q6:=
  some ({Frame:=({Turn:=0,At:=({X:=0,Y:=0,Z:=0} : qi)} : Qn),Size:=({X:=2,Y:=3,Z:=4} : qi)} : Q6)
noncomputable def q2h (a : qi) (b : Int) : Option Bool:=
  (cond (decide ((min (min a.X a.Y) a.Z) ≥ b)) (some (decide ((max (max a.X a.Y) a.Z)≤1000000))) (some false)).bind fun c=>some c
noncomputable def Uf (a : Qn) : Option Int:=
  (cond (decide (a.Turn ≥ 24)) (some true) ((q2h a.At (-1000000)).bind fun b=>some (!b))).bind fun c=>cond c (some 8) (some 0)
noncomputable def q73 (a : Q6) : Option Int:=
  (Uf a.Frame).bind fun b=>(cond (b != 0) (some true) ((q2h a.Size 0).bind fun c=>some (!c))).bind fun d=>cond d (some 8) (some 0)
noncomputable def qa6 (a : Int) : Option qi:=
  cond ((IntKind.wrap .u8 (Int.tdiv a 2)) == 0) (some ({X:=w64 (1 - (w64 (2 * (w64 (Int.tmod a 2))))),Y:=0,Z:=0} : qi)) (cond ((IntKind.wrap .u8 (Int.tdiv a 2)) == 1) (some ({X:=0,Y:=w64 (1 - (w64 (2 * (w64 (Int.tmod a 2))))),Z:=0} : qi)) (some ({X:=0,Y:=0,Z:=w64 (1 - (w64 (2 * (w64 (Int.tmod a 2)))))} : qi)))
noncomputable def qcm (a : qi) (b : qi) : Option qi:=
  some ({X:=w64 ((w64 (a.Y * b.Z)) - (w64 (a.Z * b.Y))),Y:=w64 ((w64 (a.Z * b.X)) - (w64 (a.X * b.Z))),Z:=w64 ((w64 (a.X * b.Y)) - (w64 (a.Y * b.X)))} : qi)
noncomputable def q17 (a : Int) : Option (qi × qi × qi):=
  (cond (decide ((Int.tmod a 4) ≥ (IntKind.wrap .u8 ((IntKind.wrap .u8 (Int.tdiv (IntKind.wrap .u8 (Int.tdiv a 4)) 2)) * 2)))) (some (IntKind.wrap .u8 ((Int.tmod a 4) + 2))) (some (Int.tmod a 4))).bind fun d=>(qa6 (IntKind.wrap .u8 (Int.tdiv a 4))).bind fun b=>(qa6 d).bind fun c=>(qcm b c).bind fun f=>some (b,c,f)
def q4b (x : qi) : List DV:=[.int .i64 x.X,.int .i64 x.Y,.int .i64 x.Z]
noncomputable def q4f (a : qi × qi × qi) (b : qi) : Option qi:=
  some ({X:=w64 ((w64 ((w64 (b.X * a.1.X)) + (w64 (b.Y * a.2.1.X)))) + (w64 (b.Z * a.2.2.X))),Y:=w64 ((w64 ((w64 (b.X * a.1.Y)) + (w64 (b.Y * a.2.1.Y)))) + (w64 (b.Z * a.2.2.Y))),Z:=w64 ((w64 ((w64 (b.X * a.1.Z)) + (w64 (b.Y * a.2.1.Z)))) + (w64 (b.Z * a.2.2.Z)))} : qi)
noncomputable def q4e (a : qi × qi × qi) (c : Int) : Option ((Int) ⊕ ((Unit) ⊕ (Int))):=
  cond (decide (c < 24)) ((q17 c).bind fun b=>cond ((b.1.X == a.1.X) && ((b.1.Y == a.1.Y) && ((b.1.Z == a.1.Z) && ((b.2.1.X == a.2.1.X) && ((b.2.1.Y == a.2.1.Y) && ((b.2.1.Z == a.2.1.Z) && ((b.2.2.X == a.2.2.X) && ((b.2.2.Y == a.2.2.Y) && ((b.2.2.Z == a.2.2.Z) && true))))))))) (some (.inr (.inr c))) (some (.inl (IntKind.wrap .u8 (c + 1))))) (some (.inr (.inl ())))
noncomputable def q75 (a : qi × qi × qi) : Option Int:=
  (loop (q4e a) 0 : Option ((Unit) ⊕ (Int))).bind fun b=>(match b with | .inl _=>some 0 | .inr c=>some c)
noncomputable def q74 (a : Qn) (c : qi) : Option qi:=
  (q17 a.Turn).bind fun d=>(q4f d c).bind fun b=>some ({X:=w64 (b.X + a.At.X),Y:=w64 (b.Y + a.At.Y),Z:=w64 (b.Z + a.At.Z)} : qi)
noncomputable def q18 (b : (qi × qi × qi)) (a : Int × List qi) : Option ((Int × List qi) ⊕ (List qi)):=
  cond (decide (a.1 < 3)) ((idxA 3 a.2 a.1).bind fun c=>(q4f b c).bind fun d=>(idxA 3 a.2 a.1).bind fun _=>some (.inl (w64 (a.1 + 1),a.2.set a.1.toNat d))) (some (.inr a.2))
noncomputable def q76 (b : Qn) (c : Qn) : Option Qn:=
  (q17 b.Turn).bind fun a=>(q17 c.Turn).bind fun d=>(loop (q18 d) (0,[a.1,a.2.1,a.2.2])).bind fun f=>(arr3 f).bind fun g=>(q75 g).bind fun h=>(q74 c b.At).bind fun j=>some ({Turn:=h,At:=j} : Qn)
noncomputable def q72 (a : Qn) (b : Qn) : Option (Qn × Int):=
  (Uf a).bind fun c=>cond (c != 0) (some (({Turn:=0,At:=({X:=0,Y:=0,Z:=0} : qi)} : Qn),c)) ((Uf b).bind fun d=>cond (d != 0) (some (({Turn:=0,At:=({X:=0,Y:=0,Z:=0} : qi)} : Qn),d)) ((q76 a b).bind fun f=>(Uf f).bind fun g=>cond (g != 0) (some (({Turn:=0,At:=({X:=0,Y:=0,Z:=0} : qi)} : Qn),16)) (some (f,0))))
noncomputable def Zd (b : Q6) (c : qi) (d : qi) (f : Int) : Option (Q6 × Int):=
  (q73 b).bind fun g=>cond (g != 0) (some (({Frame:=({Turn:=0,At:=({X:=0,Y:=0,Z:=0} : qi)} : Qn),Size:=({X:=0,Y:=0,Z:=0} : qi)} : Q6),g)) ((Uf ({Turn:=f,At:=c} : Qn)).bind fun h=>(cond (h != 0) (some true) ((q2h d 0).bind fun j=>some (!j))).bind fun k=>cond k (some (({Frame:=({Turn:=0,At:=({X:=0,Y:=0,Z:=0} : qi)} : Qn),Size:=({X:=0,Y:=0,Z:=0} : qi)} : Q6),2)) ((q72 ({Turn:=f,At:=c} : Qn) b.Frame).bind fun a=>cond (a.2 != 0) (some (({Frame:=({Turn:=0,At:=({X:=0,Y:=0,Z:=0} : qi)} : Qn),Size:=({X:=0,Y:=0,Z:=0} : qi)} : Q6),a.2)) (some (({Frame:=a.1,Size:=d} : Q6),0))))
noncomputable def q7q (a : Q6) : Option Int:=
  (Zd a ({X:=0,Y:=0,Z:=0} : qi) ({X:=0,Y:=0,Z:=0} : qi) 0).bind fun b=>cond (b.2 != 0) (some 8) (some 0)
def q2e (x : Q6) : List DV:=[.int .u8 x.Frame.Turn,.int .i64 x.Frame.At.X,.int .i64 x.Frame.At.Y,.int .i64 x.Frame.At.Z,.int .i64 x.Size.X,.int .i64 x.Size.Y,.int .i64 x.Size.Z]
structure Kh where
  t_ : Int
  at_ : qi
  flat_ : qi
  deriving DecidableEq
def q9z (x : Kh) : List DV:=[.int .u8 x.t_,.int .i64 x.at_.X,.int .i64 x.at_.Y,.int .i64 x.at_.Z,.int .i64 x.flat_.X,.int .i64 x.flat_.Y,.int .i64 x.flat_.Z]
noncomputable def J2 (a : qi) (b : Int) : Option (Int × qi × qi):=
  (idxA 6 [({t_:=10,at_:=({X:=a.X,Y:=0,Z:=0} : qi),flat_:=({X:=a.Y,Y:=a.Z,Z:=0} : qi)} : Kh),({t_:=11,at_:=({X:=0,Y:=0,Z:=a.Z} : qi),flat_:=({X:=a.Y,Y:=a.Z,Z:=0} : qi)} : Kh),({t_:=3,at_:=({X:=0,Y:=a.Y,Z:=a.Z} : qi),flat_:=({X:=a.X,Y:=a.Z,Z:=0} : qi)} : Kh),({t_:=2,at_:=({X:=0,Y:=0,Z:=0} : qi),flat_:=({X:=a.X,Y:=a.Z,Z:=0} : qi)} : Kh),({t_:=0,at_:=({X:=0,Y:=0,Z:=a.Z} : qi),flat_:=({X:=a.X,Y:=a.Y,Z:=0} : qi)} : Kh),({t_:=1,at_:=({X:=0,Y:=a.Y,Z:=0} : qi),flat_:=({X:=a.X,Y:=a.Y,Z:=0} : qi)} : Kh)] b).bind fun c=>(idxA 6 [({t_:=10,at_:=({X:=a.X,Y:=0,Z:=0} : qi),flat_:=({X:=a.Y,Y:=a.Z,Z:=0} : qi)} : Kh),({t_:=11,at_:=({X:=0,Y:=0,Z:=a.Z} : qi),flat_:=({X:=a.Y,Y:=a.Z,Z:=0} : qi)} : Kh),({t_:=3,at_:=({X:=0,Y:=a.Y,Z:=a.Z} : qi),flat_:=({X:=a.X,Y:=a.Z,Z:=0} : qi)} : Kh),({t_:=2,at_:=({X:=0,Y:=0,Z:=0} : qi),flat_:=({X:=a.X,Y:=a.Z,Z:=0} : qi)} : Kh),({t_:=0,at_:=({X:=0,Y:=0,Z:=a.Z} : qi),flat_:=({X:=a.X,Y:=a.Y,Z:=0} : qi)} : Kh),({t_:=1,at_:=({X:=0,Y:=a.Y,Z:=0} : qi),flat_:=({X:=a.X,Y:=a.Y,Z:=0} : qi)} : Kh)] b).bind fun d=>(idxA 6 [({t_:=10,at_:=({X:=a.X,Y:=0,Z:=0} : qi),flat_:=({X:=a.Y,Y:=a.Z,Z:=0} : qi)} : Kh),({t_:=11,at_:=({X:=0,Y:=0,Z:=a.Z} : qi),flat_:=({X:=a.Y,Y:=a.Z,Z:=0} : qi)} : Kh),({t_:=3,at_:=({X:=0,Y:=a.Y,Z:=a.Z} : qi),flat_:=({X:=a.X,Y:=a.Z,Z:=0} : qi)} : Kh),({t_:=2,at_:=({X:=0,Y:=0,Z:=0} : qi),flat_:=({X:=a.X,Y:=a.Z,Z:=0} : qi)} : Kh),({t_:=0,at_:=({X:=0,Y:=0,Z:=a.Z} : qi),flat_:=({X:=a.X,Y:=a.Y,Z:=0} : qi)} : Kh),({t_:=1,at_:=({X:=0,Y:=a.Y,Z:=0} : qi),flat_:=({X:=a.X,Y:=a.Y,Z:=0} : qi)} : Kh)] b).bind fun f=>some (c.t_,d.at_,f.flat_)
noncomputable def q7o (a : Int) (g : Int) (h : Int) (j : Int) (k : Int) (b : Int) (c : Int) (d : Int) (l : List Q6) : Option (Int × Int × Int × Int × Int × Int × Int × Int × List Q6):=
  (J2 ({X:=b,Y:=c,Z:=d} : qi) a).bind fun f=>(Zd ({Frame:=({Turn:=g,At:=({X:=h,Y:=j,Z:=k} : qi)} : Qn),Size:=({X:=b,Y:=c,Z:=d} : qi)} : Q6) f.2.1 f.2.2 f.1).bind fun m=>(idxA 6 l a).bind fun _=>some (m.2,g,h,j,k,b,c,d,l.set a.toNat m.1)
noncomputable def q1q (a : Int × List Q6 × Int × Int × Int × Int × Int × Int × Int) : Option ((Int × List Q6 × Int × Int × Int × Int × Int × Int × Int) ⊕ ((List Q6) ⊕ ((Q6 × Q6 × Q6 × Q6 × Q6 × Q6) × Int))):=
  cond (decide (a.1 < 6)) ((q7o a.1 a.2.2.1 a.2.2.2.1 a.2.2.2.2.1 a.2.2.2.2.2.1 a.2.2.2.2.2.2.1 a.2.2.2.2.2.2.2.1 a.2.2.2.2.2.2.2.2 a.2.1).bind fun b=>cond (b.1 != 0) (some (.inr (.inr ((({Frame:=({Turn:=0,At:=({X:=0,Y:=0,Z:=0} : qi)} : Qn),Size:=({X:=0,Y:=0,Z:=0} : qi)} : Q6),({Frame:=({Turn:=0,At:=({X:=0,Y:=0,Z:=0} : qi)} : Qn),Size:=({X:=0,Y:=0,Z:=0} : qi)} : Q6),({Frame:=({Turn:=0,At:=({X:=0,Y:=0,Z:=0} : qi)} : Qn),Size:=({X:=0,Y:=0,Z:=0} : qi)} : Q6),({Frame:=({Turn:=0,At:=({X:=0,Y:=0,Z:=0} : qi)} : Qn),Size:=({X:=0,Y:=0,Z:=0} : qi)} : Q6),({Frame:=({Turn:=0,At:=({X:=0,Y:=0,Z:=0} : qi)} : Qn),Size:=({X:=0,Y:=0,Z:=0} : qi)} : Q6),({Frame:=({Turn:=0,At:=({X:=0,Y:=0,Z:=0} : qi)} : Qn),Size:=({X:=0,Y:=0,Z:=0} : qi)} : Q6)),b.1)))) (some (.inl (w64 (a.1 + 1),b.2.2.2.2.2.2.2.2,b.2.1,b.2.2.1,b.2.2.2.1,b.2.2.2.2.1,b.2.2.2.2.2.1,b.2.2.2.2.2.2.1,b.2.2.2.2.2.2.2.1)))) (some (.inr (.inl a.2.1)))
noncomputable def q7n (a : Q6) : Option ((Q6 × Q6 × Q6 × Q6 × Q6 × Q6) × Int):=
  (q7q a).bind fun b=>cond (b != 0) (some ((({Frame:=({Turn:=0,At:=({X:=0,Y:=0,Z:=0} : qi)} : Qn),Size:=({X:=0,Y:=0,Z:=0} : qi)} : Q6),({Frame:=({Turn:=0,At:=({X:=0,Y:=0,Z:=0} : qi)} : Qn),Size:=({X:=0,Y:=0,Z:=0} : qi)} : Q6),({Frame:=({Turn:=0,At:=({X:=0,Y:=0,Z:=0} : qi)} : Qn),Size:=({X:=0,Y:=0,Z:=0} : qi)} : Q6),({Frame:=({Turn:=0,At:=({X:=0,Y:=0,Z:=0} : qi)} : Qn),Size:=({X:=0,Y:=0,Z:=0} : qi)} : Q6),({Frame:=({Turn:=0,At:=({X:=0,Y:=0,Z:=0} : qi)} : Qn),Size:=({X:=0,Y:=0,Z:=0} : qi)} : Q6),({Frame:=({Turn:=0,At:=({X:=0,Y:=0,Z:=0} : qi)} : Qn),Size:=({X:=0,Y:=0,Z:=0} : qi)} : Q6)),b)) ((loop q1q (0,[({Frame:=({Turn:=0,At:=({X:=0,Y:=0,Z:=0} : qi)} : Qn),Size:=({X:=0,Y:=0,Z:=0} : qi)} : Q6),({Frame:=({Turn:=0,At:=({X:=0,Y:=0,Z:=0} : qi)} : Qn),Size:=({X:=0,Y:=0,Z:=0} : qi)} : Q6),({Frame:=({Turn:=0,At:=({X:=0,Y:=0,Z:=0} : qi)} : Qn),Size:=({X:=0,Y:=0,Z:=0} : qi)} : Q6),({Frame:=({Turn:=0,At:=({X:=0,Y:=0,Z:=0} : qi)} : Qn),Size:=({X:=0,Y:=0,Z:=0} : qi)} : Q6),({Frame:=({Turn:=0,At:=({X:=0,Y:=0,Z:=0} : qi)} : Qn),Size:=({X:=0,Y:=0,Z:=0} : qi)} : Q6),({Frame:=({Turn:=0,At:=({X:=0,Y:=0,Z:=0} : qi)} : Qn),Size:=({X:=0,Y:=0,Z:=0} : qi)} : Q6)],a.Frame.Turn,a.Frame.At.X,a.Frame.At.Y,a.Frame.At.Z,a.Size.X,a.Size.Y,a.Size.Z) : Option ((List Q6) ⊕ ((Q6 × Q6 × Q6 × Q6 × Q6 × Q6) × Int))).bind fun c=>(match c with | .inl d=>(arr6 d).bind fun f=>some (f,0) | .inr g=>some g))
noncomputable def qaq (b : List qj) (f : List qj) (a : Int) : Option ((Int) ⊕ ((Unit) ⊕ (Bool))):=
  cond (decide (a < (b.length : Int))) ((idx b a).bind fun c=>(idx f a).bind fun d=>cond (!((c.Lo == d.Lo) && ((c.Hi == d.Hi) && true))) (some (.inr (.inr false))) (some (.inl (w64 (a + 1))))) (some (.inr (.inl ())))
noncomputable def q2x (a : List qj) (b : List qj) : Option Bool:=
  cond ((a.length : Int) != (b.length : Int)) (some false) ((loop (qaq a b) 0 : Option ((Unit) ⊕ (Bool))).bind fun c=>(match c with | .inl _=>some true | .inr d=>some d))
noncomputable def q77 : Option Bool:=
  (q1l 0 0 2 3).bind fun h=>(q4y h 1 5).bind fun c=>(q3v c.1).bind fun d=>(q1l 0 0 2 2).bind fun j=>(q1l 0 0 1 1).bind fun k=>(q3c [({Region:=j,Height:=1} : Qt),({Region:=k,Height:=2} : Qt)] 0).bind fun b=>(q3v b.1).bind fun f=>(q3b b.1 0 0).bind fun g=>qaf.bind fun l=>(q7n l).bind fun a=>(cond (c.2 == 0) (some (d.2 == 0)) (some false)).bind fun m=>(cond m (some (d.1 == 24)) (some false)).bind fun n=>(cond n (some (b.2 == 0)) (some false)).bind fun o=>(cond o (some (f.2 == 0)) (some false)).bind fun p=>(cond p (some (f.1 == 6)) (some false)).bind fun q=>(cond q (some (g.2 == 0)) (some false)).bind fun r=>cond r ((q2x g.1 [({Lo:=0,Hi:=3} : qj)]).bind fun s=>(cond s (some (a.2 == 0)) (some false)).bind fun t=>(cond t (some ((a.1.2.2.2.2.1.Frame.Turn == 0) && ((a.1.2.2.2.2.1.Frame.At.X == 0) && ((a.1.2.2.2.2.1.Frame.At.Y == 0) && ((a.1.2.2.2.2.1.Frame.At.Z == 4) && ((a.1.2.2.2.2.1.Size.X == 2) && ((a.1.2.2.2.2.1.Size.Y == 3) && ((a.1.2.2.2.2.1.Size.Z == 0) && true)))))))) (some false)).bind fun u=>(cond u (some ((a.1.1.Frame.Turn == 10) && ((a.1.1.Frame.At.X == 2) && ((a.1.1.Frame.At.Y == 0) && ((a.1.1.Frame.At.Z == 0) && ((a.1.1.Size.X == 3) && ((a.1.1.Size.Y == 4) && ((a.1.1.Size.Z == 0) && true)))))))) (some false)).bind fun v=>some v) (some false)
noncomputable def q2z (b : Int × List Int) (c : List Int) (a : Int) : Option ((Int) ⊕ (Int)):=
  (cond (decide (a > 0)) ((idx b.2 (w64 (a - 1))).bind fun d=>(idx c b.1).bind fun f=>some (decide (d > f))) (some false)).bind fun g=>cond g (some (.inl (w64 (a - 1)))) (some (.inr a))
noncomputable def q2y (d : List Int) (a : Int × List Int) : Option ((Int × List Int) ⊕ (List Int)):=
  cond (decide (a.1 < (d.length : Int))) (((loop (q2z a d) (a.2.length : Int)).bind fun c=>(cond (decide (c > 0)) ((idx a.2 (w64 (c - 1))).bind fun h=>(idx d a.1).bind fun j=>some (h == j)) (some false)).bind fun k=>cond k (some a.2) ((app 8 a.2 [0]).bind fun b=>(sub2 b.length (w64 (c + 1)) b.length).bind fun g=>(sub2 b.length c b.length).bind fun f=>(idx d a.1).bind fun l=>(idx (cpyw b g ((b.drop f.1).take f.2)) c).bind fun _=>some ((cpyw b g ((b.drop f.1).take f.2)).set c.toNat l))).bind fun m=>some (.inl (w64 (a.1 + 1),m))) (some (.inr a.2))
noncomputable def J0 (a : List Int) : Option (List Int):=
  (loop (q2y a) (0,[])).bind fun b=>some b
noncomputable def q33 (b : List qf) (a : Int × List Int) : Option ((Int × List Int) ⊕ (List Int)):=
  cond (decide (a.1 < (b.length : Int))) ((idx b a.1).bind fun c=>(idx b a.1).bind fun d=>(app 8 a.2 [c.X0,d.X1]).bind fun f=>some (.inl (w64 (a.1 + 1),f))) (some (.inr a.2))
noncomputable def q34 (b : List qf) (a : Int × List Int) : Option ((Int × List Int) ⊕ (List Int)):=
  cond (decide (a.1 < (b.length : Int))) ((idx b a.1).bind fun c=>(idx b a.1).bind fun d=>(app 8 a.2 [c.X0,d.X1]).bind fun f=>some (.inl (w64 (a.1 + 1),f))) (some (.inr a.2))
noncomputable def q7i (a : List qf) (b : List qf) : Option (List Int):=
  (loop (q33 a) (0,[])).bind fun c=>(loop (q34 b) (0,c)).bind fun d=>(J0 d).bind fun f=>some f
noncomputable def q35 (b : List qf) (a : Int × List Int) : Option ((Int × List Int) ⊕ (List Int)):=
  cond (decide (a.1 < (b.length : Int))) ((idx b a.1).bind fun c=>(idx b a.1).bind fun d=>(app 8 a.2 [c.Y0,d.Y1]).bind fun f=>some (.inl (w64 (a.1 + 1),f))) (some (.inr a.2))
noncomputable def q36 (b : List qf) (a : Int × List Int) : Option ((Int × List Int) ⊕ (List Int)):=
  cond (decide (a.1 < (b.length : Int))) ((idx b a.1).bind fun c=>(idx b a.1).bind fun d=>(app 8 a.2 [c.Y0,d.Y1]).bind fun f=>some (.inl (w64 (a.1 + 1),f))) (some (.inr a.2))
noncomputable def q7j (a : List qf) (b : List qf) : Option (List Int):=
  (loop (q35 a) (0,[])).bind fun c=>(loop (q36 b) (0,c)).bind fun d=>(J0 d).bind fun f=>some f
noncomputable def q1o (b : List qf) (c : Int) (d : Int) (a : Int) : Option ((Int) ⊕ ((Unit) ⊕ (Bool))):=
  cond (decide (a < (b.length : Int))) ((idx b a).bind fun f=>(cond (decide (f.X0≤c)) ((idx b a).bind fun g=>some (decide (c < g.X1))) (some false)).bind fun h=>(cond h ((idx b a).bind fun j=>some (decide (j.Y0≤d))) (some false)).bind fun k=>(cond k ((idx b a).bind fun l=>some (decide (d < l.Y1))) (some false)).bind fun m=>cond m (some (.inr (.inr true))) (some (.inl (w64 (a + 1))))) (some (.inr (.inl ())))
noncomputable def q30 (a : List qf) (b : Int) (c : Int) : Option Bool:=
  (loop (q1o a b c) 0 : Option ((Unit) ⊕ (Bool))).bind fun d=>(match d with | .inl _=>some false | .inr f=>some f)
noncomputable def q4n (c : Int) (a : Bool) (b : Bool) : Option Bool:=
  cond (c == 1) ((cond a (some b) (some false)).bind fun d=>some d) (cond (c == 2) ((cond a (some true) (some b)).bind fun f=>some f) ((cond a (some (!b)) (some false)).bind fun g=>some g))
noncomputable def q2s (b : List Int) (c : List Bool) (a : Int × List qj) : Option ((Int × List qj) ⊕ (List qj)):=
  cond (decide ((w64 (a.1 + 1)) < (b.length : Int))) (((idx c a.1).bind fun d=>cond (!d) (some a.2) ((cond (decide ((a.2.length : Int) > 0)) ((idx a.2 (w64 ((a.2.length : Int) - 1))).bind fun f=>(idx b a.1).bind fun g=>some (f.Hi == g)) (some false)).bind fun h=>cond h ((idx b (w64 (a.1 + 1))).bind fun j=>(idx a.2 (w64 ((a.2.length : Int) - 1))).bind fun k=>some (a.2.set (w64 ((a.2.length : Int) - 1)).toNat ({Lo:=k.Lo,Hi:=j} : qj))) ((idx b a.1).bind fun l=>(idx b (w64 (a.1 + 1))).bind fun m=>(app 16 a.2 [({Lo:=l,Hi:=m} : qj)]).bind fun n=>some n))).bind fun o=>some (.inl (w64 (a.1 + 1),o))) (some (.inr a.2))
noncomputable def q2r (a : List Int) (b : List Bool) : Option (List qj):=
  (loop (q2s a b) (0,[])).bind fun c=>some c
noncomputable def q31 (b : List Int) (c : List Int) (d : List qj × Int × Int × List qf) (f : List qf) (g : List qf) (h : Int) (a : Int × List Bool) : Option ((Int × List Bool) ⊕ (List Bool)):=
  cond (decide (a.1 < (b.length : Int))) ((idx c d.2.2.1).bind fun j=>(idx b a.1).bind fun k=>(q30 f j k).bind fun l=>(idx c d.2.2.1).bind fun m=>(idx b a.1).bind fun n=>(q30 g m n).bind fun o=>(q4n h l o).bind fun p=>(app 1 a.2 [p]).bind fun q=>some (.inl (w64 (a.1 + 1),q))) (some (.inr a.2))
noncomputable def q32 (c : List Int) (d : List qj × Int × Int × List qf) (a : Int × List qf) : Option ((Int × List qf) ⊕ (List qf)):=
  cond (decide (a.1 < (a.2.length : Int))) ((idx c (w64 (d.2.2.1 + 1))).bind fun f=>(idx a.2 a.1).bind fun b=>some (.inl (w64 (a.1 + 1),a.2.set a.1.toNat ({X0:=b.X0,Y0:=b.Y0,X1:=f,Y1:=b.Y1} : qf)))) (some (.inr a.2))
noncomputable def q4p (b : List qj) (d : List Int) (c : List qj × Int × Int × List qf) (a : Int × List qf) : Option ((Int × List qf) ⊕ (List qj × Int × List qf)):=
  cond (decide (a.1 < (b.length : Int))) ((idx d c.2.2.1).bind fun f=>(idx b a.1).bind fun g=>(idx d (w64 (c.2.2.1 + 1))).bind fun h=>(idx b a.1).bind fun j=>(app 32 a.2 [({X0:=f,Y0:=g.Lo,X1:=h,Y1:=j.Hi} : qf)]).bind fun k=>some (.inl (w64 (a.1 + 1),k))) (some (.inr (b,(c.2.2.2.length : Int),a.2)))
noncomputable def q1p (b : List Int) (d : List Int) (g : List qf) (h : List qf) (j : Int) (a : List qj × Int × Int × List qf) : Option ((List qj × Int × Int × List qf) ⊕ (List qf)):=
  cond (decide ((w64 (a.2.2.1 + 1)) < (b.length : Int))) (((loop (q31 d b a g h j) (0,[])).bind fun k=>(q2r d k).bind fun f=>(cond (decide (a.2.2.1 > 0)) ((q2x f a.1).bind fun l=>some l) (some false)).bind fun m=>cond m ((loop (q32 b a) (a.2.1,a.2.2.2)).bind fun n=>some (a.1,a.2.1,n)) ((loop (q4p f b a) (0,a.2.2.2)).bind fun o=>some o)).bind fun c=>some (.inl (c.1,c.2.1,w64 (a.2.2.1 + 1),c.2.2))) (some (.inr a.2.2.2))
noncomputable def Zi (c : Int) (a : List qf) (b : List qf) : Option (List qf):=
  (q7i a b).bind fun d=>(q7j a b).bind fun f=>(loop (q1p d f a b c) ([],0,0,[])).bind fun g=>some g
noncomputable def qas (d : List qf) (f : List qf) (a : Int) : Option ((Int) ⊕ ((Unit) ⊕ (Bool))):=
  cond (decide (a < (d.length : Int))) ((idx d a).bind fun b=>(idx f a).bind fun c=>cond (!((b.X0 == c.X0) && ((b.Y0 == c.Y0) && ((b.X1 == c.X1) && ((b.Y1 == c.Y1) && true))))) (some (.inr (.inr false))) (some (.inl (w64 (a + 1))))) (some (.inr (.inl ())))
noncomputable def q4r (a : List qf) (b : List qf) : Option Bool:=
  cond ((a.length : Int) != (b.length : Int)) (some false) ((loop (qas a b) 0 : Option ((Unit) ⊕ (Bool))).bind fun c=>(match c with | .inl _=>some true | .inr d=>some d))
noncomputable def q69 (a : qg) (b : qi) : Option Bool:=
  (cond (decide (a.Lo.X≤b.X)) (some (decide (b.X < a.Hi.X))) (some false)).bind fun c=>(cond c (some (decide (a.Lo.Y≤b.Y))) (some false)).bind fun d=>(cond d (some (decide (b.Y < a.Hi.Y))) (some false)).bind fun f=>(cond f (some (decide (a.Lo.Z≤b.Z))) (some false)).bind fun g=>(cond g (some (decide (b.Z < a.Hi.Z))) (some false)).bind fun h=>some h
noncomputable def q8v (a : List qg) (b : qi) : Option Bool:=
  (q3i a (fun c=>q69 c b)).bind fun d=>some d
noncomputable def q4s (a : qi) (b : Int) : Option Bool:=
  (cond (decide (a.X ≥ b)) (some (decide (a.Y ≥ b))) (some false)).bind fun c=>(cond c (some (decide (a.Z ≥ b))) (some false)).bind fun d=>(cond d (some (decide (a.X≤1000000))) (some false)).bind fun f=>(cond f (some (decide (a.Y≤1000000))) (some false)).bind fun g=>(cond g (some (decide (a.Z≤1000000))) (some false)).bind fun h=>some h
noncomputable def q7m (a : qg) : Option Bool:=
  (q4s a.Lo (-1000000)).bind fun b=>(cond b ((q4s a.Hi (-1000000)).bind fun c=>some c) (some false)).bind fun d=>(cond d (some (decide (a.Lo.X < a.Hi.X))) (some false)).bind fun f=>(cond f (some (decide (a.Lo.Y < a.Hi.Y))) (some false)).bind fun g=>(cond g (some (decide (a.Lo.Z < a.Hi.Z))) (some false)).bind fun h=>some h
noncomputable def q37 (b : List qg) (a : Int × List Int) : Option ((Int × List Int) ⊕ (List Int)):=
  cond (decide (a.1 < (b.length : Int))) ((idx b a.1).bind fun c=>(idx b a.1).bind fun d=>(app 8 a.2 [c.Lo.Z,d.Hi.Z]).bind fun f=>some (.inl (w64 (a.1 + 1),f))) (some (.inr a.2))
noncomputable def q38 (b : List qg) (a : Int × List Int) : Option ((Int × List Int) ⊕ (List Int)):=
  cond (decide (a.1 < (b.length : Int))) ((idx b a.1).bind fun c=>(idx b a.1).bind fun d=>(app 8 a.2 [c.Lo.Z,d.Hi.Z]).bind fun f=>some (.inl (w64 (a.1 + 1),f))) (some (.inr a.2))
noncomputable def q7l (a : List qg) (b : List qg) : Option (List Int):=
  (loop (q37 a) (0,[])).bind fun c=>(loop (q38 b) (0,c)).bind fun d=>(J0 d).bind fun f=>some f
noncomputable def q4t (b : List qg) (c : Int) (a : Int × List qf) : Option ((Int × List qf) ⊕ (List qf)):=
  cond (decide (a.1 < (b.length : Int))) (((idx b a.1).bind fun d=>(cond (decide (d.Lo.Z≤c)) ((idx b a.1).bind fun f=>some (decide (c < f.Hi.Z))) (some false)).bind fun g=>cond g ((idx b a.1).bind fun h=>(idx b a.1).bind fun j=>(idx b a.1).bind fun k=>(idx b a.1).bind fun l=>(app 32 a.2 [({X0:=h.Lo.X,Y0:=j.Lo.Y,X1:=k.Hi.X,Y1:=l.Hi.Y} : qf)]).bind fun m=>some m) (some a.2)).bind fun n=>some (.inl (w64 (a.1 + 1),n))) (some (.inr a.2))
noncomputable def J1 (a : List qg) (b : Int) : Option (List qf):=
  (loop (q4t a b) (0,[])).bind fun c=>some c
noncomputable def q3a (c : List Int) (d : List qf × Int × Int × List qg) (a : Int × List qg) : Option ((Int × List qg) ⊕ (List qg)):=
  cond (decide (a.1 < (a.2.length : Int))) ((idx c (w64 (d.2.2.1 + 1))).bind fun f=>(idx a.2 a.1).bind fun b=>some (.inl (w64 (a.1 + 1),a.2.set a.1.toNat ({Lo:=b.Lo,Hi:=({X:=b.Hi.X,Y:=b.Hi.Y,Z:=f} : qi)} : qg)))) (some (.inr a.2))
noncomputable def q4v (b : List qf) (d : List Int) (c : List qf × Int × Int × List qg) (a : Int × List qg) : Option ((Int × List qg) ⊕ (List qf × Int × List qg)):=
  cond (decide (a.1 < (b.length : Int))) ((idx b a.1).bind fun f=>(idx b a.1).bind fun g=>(idx d c.2.2.1).bind fun h=>(idx b a.1).bind fun j=>(idx b a.1).bind fun k=>(idx d (w64 (c.2.2.1 + 1))).bind fun l=>(app 48 a.2 [({Lo:=({X:=f.X0,Y:=g.Y0,Z:=h} : qi),Hi:=({X:=j.X1,Y:=k.Y1,Z:=l} : qi)} : qg)]).bind fun m=>some (.inl (w64 (a.1 + 1),m))) (some (.inr (b,(c.2.2.2.length : Int),a.2)))
noncomputable def Us (b : List Int) (f : List qg) (g : List qg) (h : Int) (a : List qf × Int × Int × List qg) : Option ((List qf × Int × Int × List qg) ⊕ ((List qg) ⊕ (List qg × Bool))):=
  cond (decide ((w64 (a.2.2.1 + 1)) < (b.length : Int))) (((idx b a.2.2.1).bind fun j=>(J1 f j).bind fun k=>(idx b a.2.2.1).bind fun l=>(J1 g l).bind fun m=>(Zi h k m).bind fun c=>(cond (decide ((c.length : Int) > 400)) (some true) ((idx b a.2.2.1).bind fun n=>(J1 f n).bind fun o=>(Zi 2 o []).bind fun p=>some (decide ((p.length : Int) > 400)))).bind fun q=>(cond q (some true) ((idx b a.2.2.1).bind fun r=>(J1 g r).bind fun s=>(Zi 2 s []).bind fun t=>some (decide ((t.length : Int) > 400)))).bind fun u=>cond u (some (.inr ([],false))) ((cond (decide (a.2.2.1 > 0)) ((q4r c a.1).bind fun v=>some v) (some false)).bind fun w=>cond w ((loop (q3a b a) (a.2.1,a.2.2.2)).bind fun x=>some (.inl (a.1,a.2.1,x))) ((loop (q4v c b a) (0,a.2.2.2)).bind fun y=>some (.inl y))) : Option ((List qf × Int × List qg) ⊕ (List qg × Bool))).bind fun z=>(match z with | .inl d=>some (.inl (d.1,d.2.1,w64 (a.2.2.1 + 1),d.2.2)) | .inr x1=>some (.inr (.inr x1)))) (some (.inr (.inl a.2.2.2)))
noncomputable def q39 (d : Int) (a : List qg) (b : List qg) : Option (List qg × Bool):=
  (q7l a b).bind fun f=>(loop (Us f a b d) ([],0,0,[]) : Option ((List qg) ⊕ (List qg × Bool))).bind fun g=>(match g with | .inl c=>some (c,decide ((c.length : Int)≤400)) | .inr h=>some h)
noncomputable def qaw (d : List qg) (f : List qg) (c : Int) : Option ((Int) ⊕ ((Unit) ⊕ (Bool))):=
  cond (decide (c < (d.length : Int))) ((idx d c).bind fun a=>(idx f c).bind fun b=>cond (!((a.Lo.X == b.Lo.X) && ((a.Lo.Y == b.Lo.Y) && ((a.Lo.Z == b.Lo.Z) && ((a.Hi.X == b.Hi.X) && ((a.Hi.Y == b.Hi.Y) && ((a.Hi.Z == b.Hi.Z) && true))))))) (some (.inr (.inr false))) (some (.inl (w64 (c + 1))))) (some (.inr (.inl ())))
noncomputable def qav (a : List qg) (b : List qg) : Option Bool:=
  cond ((a.length : Int) != (b.length : Int)) (some false) ((loop (qaw a b) 0 : Option ((Unit) ⊕ (Bool))).bind fun c=>(match c with | .inl _=>some true | .inr d=>some d))
noncomputable def q4u (b : List qg) (a : Int) : Option ((Int) ⊕ ((Unit) ⊕ (Int))):=
  cond (decide (a < (b.length : Int))) ((idx b a).bind fun c=>(q7m c).bind fun d=>cond (!d) (some (.inr (.inr 8))) (some (.inl (w64 (a + 1))))) (some (.inr (.inl ())))
noncomputable def q7k (a : List qg) : Option Int:=
  cond (decide ((a.length : Int) > 400)) (some 4) ((loop (q4u a) 0 : Option ((Unit) ⊕ (Int))).bind fun c=>(match c with | .inl _=>(q39 2 a []).bind fun b=>(cond (!b.2) (some true) ((qav b.1 a).bind fun d=>some (!d))).bind fun f=>cond f (some 8) (some 0) | .inr g=>some g))
noncomputable def q4x (c : List qg) (a : Int × List qf) : Option ((Int × List qf) ⊕ (List qf)):=
  cond (decide (a.1 < (c.length : Int))) ((idx c a.1).bind fun b=>(app 32 a.2 [({X0:=b.Lo.X,Y0:=b.Lo.Y,X1:=b.Hi.X,Y1:=b.Hi.Y} : qf)]).bind fun d=>some (.inl (w64 (a.1 + 1),d))) (some (.inr a.2))
noncomputable def q7p (a : List qg) : Option (List qf × Int):=
  (q3u a).bind fun b=>cond (b != 0) (some ([],b)) ((loop (q4x a) (0,[])).bind fun d=>(q3f d).bind fun c=>some (c.1,c.2))
noncomputable def qar (a : qj) : Option Bool:=
  (cond (decide (a.Lo < a.Hi)) (some (decide (a.Lo ≥ (-1000000)))) (some false)).bind fun b=>(cond b (some (decide (a.Hi≤1000000))) (some false)).bind fun c=>some c
noncomputable def q7f (b : List qj) (a : Int) : Option ((Int) ⊕ ((Unit) ⊕ (Int))):=
  cond (decide (a < (b.length : Int))) ((idx b a).bind fun c=>(qar c).bind fun d=>(cond (!d) (some true) ((cond (decide (a > 0)) ((idx b (w64 (a - 1))).bind fun f=>(idx b a).bind fun g=>some (decide (f.Hi ≥ g.Lo))) (some false)).bind fun h=>some h)).bind fun j=>cond j (some (.inr (.inr 8))) (some (.inl (w64 (a + 1))))) (some (.inr (.inl ())))
noncomputable def q2t (a : List qj) : Option Int:=
  cond (decide ((a.length : Int) > 400)) (some 4) ((loop (q7f a) 0 : Option ((Unit) ⊕ (Int))).bind fun b=>(match b with | .inl _=>some 0 | .inr c=>some c))
noncomputable def q2v (b : List qj) (c : Int) (a : Int) : Option ((Int) ⊕ ((Unit) ⊕ (Bool))):=
  cond (decide (a < (b.length : Int))) ((idx b a).bind fun d=>(cond (decide (d.Lo≤c)) ((idx b a).bind fun f=>some (decide (c < f.Hi))) (some false)).bind fun g=>cond g (some (.inr (.inr true))) (some (.inl (w64 (a + 1))))) (some (.inr (.inl ())))
noncomputable def q2u (a : List qj) (b : Int) : Option Bool:=
  (loop (q2v a b) 0 : Option ((Unit) ⊕ (Bool))).bind fun c=>(match c with | .inl _=>some false | .inr d=>some d)
noncomputable def q2w (b : List qj) (a : Int × Int) : Option ((Int × Int) ⊕ (Int)):=
  cond (decide (a.2 < (b.length : Int))) ((idx b a.2).bind fun c=>(idx b a.2).bind fun d=>some (.inl (w64 ((w64 (a.1 + c.Hi)) - d.Lo),w64 (a.2 + 1)))) (some (.inr a.1))
noncomputable def q4o (a : List qj) : Option (Int × Int):=
  (q2t a).bind fun b=>cond (b != 0) ((q2t a).bind fun c=>some (0,c)) ((loop (q2w a) (0,0)).bind fun d=>some (d,0))
noncomputable def q2o (d : List qf × Int) (f : Int × Int) (g : List qg) (h : Int × Int) (a : Int × Int) : Option ((Int × Int) ⊕ ((Int) ⊕ (Bool))):=
  (idx d.1 f.2).bind fun j=>cond (decide (a.2 < j.Y1)) ((q3b g h.2 a.2).bind fun b=>(q4o b.1).bind fun c=>(cond (b.2 != 0) (some true) (some (c.2 != 0))).bind fun k=>cond k (some (.inr (.inr false))) (some (.inl (w64 (a.1 + c.1),w64 (a.2 + 1))))) (some (.inr (.inl a.1)))
noncomputable def q2n (b : List qf × Int) (c : Int × Int) (f : List qg) (a : Int × Int) : Option ((Int × Int) ⊕ ((Int) ⊕ (Bool))):=
  (idx b.1 c.2).bind fun g=>cond (decide (a.2 < g.X1)) (((idx b.1 c.2).bind fun h=>(loop (q2o b c f a) (a.1,h.Y0) : Option ((Int) ⊕ (Bool))).bind fun j=>(match j with | .inl k=>some (.inl k) | .inr d=>some (.inr d)) : Option ((Int) ⊕ (Bool))).bind fun l=>(match l with | .inl m=>some (.inl (m,w64 (a.2 + 1))) | .inr d=>some (.inr (.inr d)))) (some (.inr (.inl a.1)))
noncomputable def Jg (b : List qf × Int) (d : Bool) (f : List qg) (a : Int × Int) : Option ((Int × Int) ⊕ ((Int) ⊕ (Bool))):=
  cond (decide (a.2 < (b.1.length : Int))) (((idx b.1 a.2).bind fun g=>(idx b.1 a.2).bind fun h=>(cond (decide ((min g.X0 h.Y0) < (-20))) (some true) ((idx b.1 a.2).bind fun j=>(idx b.1 a.2).bind fun k=>some (decide ((max j.X1 k.Y1) > 20)))).bind fun l=>cond l (some (.inr d)) ((idx b.1 a.2).bind fun m=>(loop (q2n b a f) (a.1,m.X0) : Option ((Int) ⊕ (Bool))).bind fun n=>(match n with | .inl o=>some (.inl o) | .inr c=>some (.inr c))) : Option ((Int) ⊕ (Bool))).bind fun p=>(match p with | .inl q=>some (.inl (q,w64 (a.2 + 1))) | .inr c=>some (.inr (.inr c)))) (some (.inr (.inl a.1)))
noncomputable def qae (a : List qg) (b : qi) : Option Bool:=
  q77.bind fun c=>(cond (decide ((a.length : Int) > 30)) (some true) ((q7k a).bind fun h=>some (h != 0))).bind fun j=>(cond j (some true) (some (!c))).bind fun k=>cond k (some c) ((q3b a b.X b.Y).bind fun d=>(q7p a).bind fun f=>(cond (d.2 != 0) (some true) ((q2t d.1).bind fun l=>some (l != 0))).bind fun m=>(cond m (some true) ((q2u d.1 b.Z).bind fun n=>(q8v a b).bind fun o=>some (!(n == o)))).bind fun p=>cond p (some false) (cond (f.2 != 0) ((cond c (some (f.2 == 4)) (some false)).bind fun q=>some q) ((q30 f.1 b.X b.Y).bind fun r=>cond (!(r == (decide ((d.1.length : Int) > 0)))) (some false) ((loop (Jg f c a) (0,0) : Option ((Int) ⊕ (Bool))).bind fun s=>(match s with | .inl t=>(q3v a).bind fun g=>(cond c (some (g.2 == 0)) (some false)).bind fun u=>(cond u (some (g.1 == t)) (some false)).bind fun v=>some v | .inr w=>some w)))))
noncomputable def q3z (b : List qj) (a : Int) : Option ((Int) ⊕ ((Unit) ⊕ (Int))):=
  cond (decide (a < (b.length : Int))) ((idx b a).bind fun c=>(q25 c).bind fun d=>(cond (!d) (some true) ((cond (decide (a > 0)) ((idx b (w64 (a - 1))).bind fun f=>some (decide (f.Hi ≥ c.Lo))) (some false)).bind fun g=>some g)).bind fun h=>cond h (some (.inr (.inr 8))) (some (.inl (w64 (a + 1))))) (some (.inr (.inl ())))
noncomputable def qbb (a : List qj) : Option Int:=
  cond (decide ((a.length : Int) > 400)) (some 4) ((loop (q3z a) 0 : Option ((Unit) ⊕ (Int))).bind fun b=>(match b with | .inl _=>some 0 | .inr c=>some c))
noncomputable def q7g (b : List qj) (a : Int × List Int) : Option ((Int × List Int) ⊕ (List Int)):=
  cond (decide (a.1 < (b.length : Int))) ((idx b a.1).bind fun c=>(idx b a.1).bind fun d=>(app 8 a.2 [c.Lo,d.Hi]).bind fun f=>some (.inl (w64 (a.1 + 1),f))) (some (.inr a.2))
noncomputable def qj2 (b : List qj) (a : Int × List Int) : Option ((Int × List Int) ⊕ (List Int)):=
  cond (decide (a.1 < (b.length : Int))) ((idx b a.1).bind fun c=>(idx b a.1).bind fun d=>(app 8 a.2 [c.Lo,d.Hi]).bind fun f=>some (.inl (w64 (a.1 + 1),f))) (some (.inr a.2))
noncomputable def qdq (a : List qj) (b : List qj) : Option (List Int):=
  (loop (q7g a) (0,[])).bind fun c=>(loop (qj2 b) (0,c)).bind fun d=>(J0 d).bind fun f=>some f
noncomputable def q7h (b : List Int) (c : List qj) (d : List qj) (f : Int) (a : Int × List Bool) : Option ((Int × List Bool) ⊕ (List Bool)):=
  cond (decide (a.1 < (b.length : Int))) ((idx b a.1).bind fun g=>(q2u c g).bind fun h=>(idx b a.1).bind fun j=>(q2u d j).bind fun k=>(q4n f h k).bind fun l=>(app 1 a.2 [l]).bind fun m=>some (.inl (w64 (a.1 + 1),m))) (some (.inr a.2))
noncomputable def qap (d : Int) (a : List qj) (b : List qj) : Option (List qj):=
  (qdq a b).bind fun c=>(loop (q7h c a b d) (0,[])).bind fun f=>(q2r c f).bind fun g=>some g
noncomputable def q8z (b : List qj) (a : Int × Int) : Option ((Int × Int) ⊕ (Int)):=
  cond (decide (a.2 < (b.length : Int))) ((idx b a.2).bind fun c=>some (.inl (w64 (a.1 + (w64 (c.Hi - c.Lo))),w64 (a.2 + 1)))) (some (.inr a.1))
noncomputable def qkg (a : List qj) : Option (Int × Int):=
  (qbb a).bind fun b=>cond (b != 0) (some (0,b)) ((loop (q8z a) (0,0)).bind fun c=>some (c,0))
noncomputable def qj6 (a : qg) (b : qi) : Option Bool:=
  (cond (decide (a.Lo.X≤b.X)) (some (decide (b.X < a.Hi.X))) (some false)).bind fun c=>(cond c (some (decide (a.Lo.Y≤b.Y))) (some false)).bind fun d=>(cond d (some (decide (b.Y < a.Hi.Y))) (some false)).bind fun f=>(cond f (some (decide (a.Lo.Z≤b.Z))) (some false)).bind fun g=>(cond g (some (decide (b.Z < a.Hi.Z))) (some false)).bind fun h=>some h
end Go.Sh
