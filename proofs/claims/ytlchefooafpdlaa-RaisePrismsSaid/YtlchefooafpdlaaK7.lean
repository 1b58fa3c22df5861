/- P_raise P_raise2 Pl1 -/
import Derived.Test.YtlchefooafpdlaaK6
namespace Go.Sh
open Go Go.Am
structure q15 where
  X : Int
  Y : Int
  Z : Int
  deriving DecidableEq
structure qov where
  Turn : Int
  At : q15
  deriving DecidableEq
structure qsd where
  Frame : qov
  Size : q15
  deriving DecidableEq
structure qky where
  t_ : Int
  at_ : q15
  flat_ : q15
  deriving DecidableEq
structure api_Rect where
  X0 : Int
  Y0 : Int
  X1 : Int
  Y1 : Int
  deriving DecidableEq
def qb (x : api_Rect) : List DV:=[.int .i64 x.X0,.int .i64 x.Y0,.int .i64 x.X1,.int .i64 x.Y1]
structure qs where
  Region : List api_Rect
  Height : Int
  deriving DecidableEq
def qw (x : qs) : List DV:=[.sl 4 (x.Region.map qb),.int .i64 x.Height]
noncomputable def qah (p0 : List api_Rect) : Option Bool:=
  (cond (decide ((p0.length : Int) > 60)) (some (decide ((p0.length : Int)≤400))) (some false)).bind fun c1=>(cond c1 (some true) (some (decide ((p0.length : Int) > 420)))).bind fun c7=>some c7
noncomputable def q5r (p0 : List qs) (a11 : Int) : Option ((Int) ⊕ ((Unit) ⊕ (Bool))):=
  cond (decide (a11 < (p0.length : Int))) ((idx p0 a11).bind fun v17=>cond (decide ((v17.Region.length : Int) > 12)) (some (.inr (.inr true))) (some (.inl (w64 (a11 + 1))))) (some (.inr (.inl ())))
noncomputable def qai (p0 : List qs) : Option Bool:=
  (loop (q5r p0) 0 : Option ((Unit) ⊕ (Bool))).bind fun m12=>(match m12 with | .inl _=>(cond (decide ((p0.length : Int) > 12)) (some (decide ((p0.length : Int)≤100))) (some false)).bind fun c19=>(cond c19 (some true) (some (decide ((p0.length : Int) > 120)))).bind fun c25=>some c25 | .inr x1=>some x1)
structure api_Box where
  Lo : q15
  Hi : q15
  deriving DecidableEq
noncomputable def q1k (p0 : List api_Rect) (p1 : api_Rect→Option Bool) (a19 : Int) : Option ((Int) ⊕ ((Unit) ⊕ (Int))):=
  cond (decide (a19 < (p0.length : Int))) ((idx p0 a19).bind fun v27=>(p1 v27).bind fun r29=>cond r29 (some (.inr (.inr a19))) (some (.inl (w64 (a19 + 1))))) (some (.inr (.inl ())))
noncomputable def q40 (p0 : List api_Rect) (p1 : api_Rect→Option Bool) : Option Int:=
  (loop (q1k p0 p1) 0 : Option ((Unit) ⊕ (Int))).bind fun m20=>(match m20 with | .inl _=>some (-1) | .inr x1=>some x1)
noncomputable def q2r (p0 : List api_Rect) (p1 : api_Rect→Option Bool) : Option Bool:=
  (q40 p0 p1).bind fun r1=>some (decide (r1 ≥ 0))
noncomputable def q6a (p0 : Int) : Option Bool:=
  (cond (decide (p0 ≥ (-1000000))) (some (decide (p0≤1000000))) (some false)).bind fun c1=>some c1
noncomputable def q80 (p0 : api_Rect) : Option Bool:=
  (cond (decide (p0.X0 < p0.X1)) (some (decide (p0.Y0 < p0.Y1))) (some false)).bind fun c1=>(cond c1 ((q6a p0.X0).bind fun r17=>some r17) (some false)).bind fun c11=>(cond c11 ((q6a p0.X1).bind fun r27=>some r27) (some false)).bind fun c21=>(cond c21 ((q6a p0.Y0).bind fun r37=>some r37) (some false)).bind fun c31=>(cond c31 ((q6a p0.Y1).bind fun r47=>some r47) (some false)).bind fun c41=>some c41
noncomputable def q56 (p0 : api_Rect) : Option Bool:=
  (q80 p0).bind fun r1=>some (!r1)
def q1p (x : List api_Rect) : List DV:=[.sl 4 (x.map qb)]
def q6j : ByteArray:=⟨#[0,1,2,2,3,3,3,3,4,4,4,4,4,4,4,4,5,5,5,5,5,5,5,5,5,5,5,5,5,5,5,5,6,6,6,6,6,6,6,6,6,6,6,6,6,6,6,6,6,6,6,6,6,6,6,6,6,6,6,6,6,6,6,6,7,7,7,7,7,7,7,7,7,7,7,7,7,7,7,7,7,7,7,7,7,7,7,7,7,7,7,7,7,7,7,7,7,7,7,7,7,7,7,7,7,7,7,7,7,7,7,7,7,7,7,7,7,7,7,7,7,7,7,7,7,7,7,7,8,8,8,8,8,8,8,8,8,8,8,8,8,8,8,8,8,8,8,8,8,8,8,8,8,8,8,8,8,8,8,8,8,8,8,8,8,8,8,8,8,8,8,8,8,8,8,8,8,8,8,8,8,8,8,8,8,8,8,8,8,8,8,8,8,8,8,8,8,8,8,8,8,8,8,8,8,8,8,8,8,8,8,8,8,8,8,8,8,8,8,8,8,8,8,8,8,8,8,8,8,8,8,8,8,8,8,8,8,8,8,8,8,8,8,8,8,8,8,8,8,8,8,8,8,8,8,8]⟩
noncomputable def q4z (p0 : Int) : Option Int:=
  (cond (decide (p0 ≥ 4294967296)) (some (Int.fdiv p0 (2 ^ 32),32)) (some (p0,0))).bind fun b3=>(cond (decide (b3.1 ≥ 65536)) (some (Int.fdiv b3.1 (2 ^ 16),w64 (b3.2 + 16))) (some (b3.1,b3.2))).bind fun b6=>(cond (decide (b6.1 ≥ 256)) (some (Int.fdiv b6.1 (2 ^ 8),w64 (b6.2 + 8))) (some (b6.1,b6.2))).bind fun b9=>(strIdx q6j (IntKind.wrap .u8 b9.1)).bind fun v10=>some (w64 (b9.2 + (w64 v10)))
noncomputable def q4w (p0 : Int) : Option Int:=
  (q4z p0).bind fun r1=>some r1
noncomputable def q7f (p0 : Int) : Option Bool:=
  some (p0 != p0)
noncomputable def q34 (p0 : Int) (p1 : Int) : Option Bool:=
  (q7f p0).bind fun r1=>(cond r1 ((q7f p1).bind fun r11=>some (!r11)) (some false)).bind fun c5=>(cond c5 (some true) (some (decide (p0 < p1)))).bind fun c13=>some c13
noncomputable def q21 (p1 : Int) (a443 : Int × List Int) : Option ((Int × List Int) ⊕ (List Int)):=
  (cond (decide (a443.1 > p1)) ((idx a443.2 a443.1).bind fun v466=>(idx a443.2 (w64 (a443.1 - 1))).bind fun v468=>(q34 v466 v468).bind fun r470=>some r470) (some false)).bind fun c453=>cond c453 ((idx a443.2 (w64 (a443.1 - 1))).bind fun v480=>(idx a443.2 a443.1).bind fun v482=>(idx a443.2 a443.1).bind fun _=>(idx (a443.2.set a443.1.toNat v480) (w64 (a443.1 - 1))).bind fun _=>some (.inl (w64 (a443.1 - 1),(a443.2.set a443.1.toNat v480).set (w64 (a443.1 - 1)).toNat v482))) (some (.inr a443.2))
noncomputable def q22 (p2 : Int) (p1 : Int) (a270 : Int × List Int) : Option ((Int × List Int) ⊕ (List Int)):=
  cond (decide (a270.1 < p2)) (((loop (q21 p1) (a270.1,a270.2)).bind fun x0=>some x0).bind fun b358=>some (.inl (w64 (a270.1 + 1),b358))) (some (.inr a270.2))
noncomputable def q2n (p0 : List Int) (p1 : Int) (p2 : Int) : Option (List Int):=
  (loop (q22 p2 p1) (w64 (p1 + 1),p0)).bind fun x0=>some x0
noncomputable def q3c (p2 : Int) (p3 : Int) (a193 : Int × List Int) : Option ((Int × List Int) ⊕ (List Int)):=
  cond (decide ((w64 ((w64 (2 * a193.1)) + 1)) ≥ p2)) (some (.inr a193.2)) ((cond (decide ((w64 ((w64 ((w64 (2 * a193.1)) + 1)) + 1)) < p2)) ((idx a193.2 (w64 (p3 + (w64 ((w64 (2 * a193.1)) + 1))))).bind fun v220=>(idx a193.2 (w64 ((w64 (p3 + (w64 ((w64 (2 * a193.1)) + 1)))) + 1))).bind fun v222=>(q34 v220 v222).bind fun r224=>some r224) (some false)).bind fun c203=>(cond c203 (some (w64 ((w64 ((w64 (2 * a193.1)) + 1)) + 1))) (some (w64 ((w64 (2 * a193.1)) + 1)))).bind fun b228=>(idx a193.2 (w64 (p3 + a193.1))).bind fun v229=>(idx a193.2 (w64 (p3 + b228))).bind fun v231=>(q34 v229 v231).bind fun r233=>cond (!r233) (some (.inr a193.2)) ((idx a193.2 (w64 (p3 + b228))).bind fun v235=>(idx a193.2 (w64 (p3 + a193.1))).bind fun v237=>(idx a193.2 (w64 (p3 + a193.1))).bind fun _=>(idx (a193.2.set (w64 (p3 + a193.1)).toNat v235) (w64 (p3 + b228))).bind fun _=>some (.inl (b228,(a193.2.set (w64 (p3 + a193.1)).toNat v235).set (w64 (p3 + b228)).toNat v237))))
noncomputable def q2v (p0 : List Int) (p1 : Int) (p2 : Int) (p3 : Int) : Option (List Int):=
  (loop (q3c p2 p3) (p1,p0)).bind fun x0=>some x0
noncomputable def q3d (p2 : Int) (p1 : Int) (a123 : Int × List Int) : Option ((Int × List Int) ⊕ (List Int)):=
  cond (decide (a123.1 ≥ 0)) ((q2v a123.2 a123.1 (w64 (p2 - p1)) p1).bind fun e132=>(lenEq e132.length a123.2.length).bind fun _=>some (.inl (w64 (a123.1 - 1),e132))) (some (.inr a123.2))
noncomputable def q3e (p1 : Int) (a191 : Int × List Int) : Option ((Int × List Int) ⊕ (List Int)):=
  cond (decide (a191.1 ≥ 0)) ((idx a191.2 (w64 (p1 + a191.1))).bind fun v208=>(idx a191.2 p1).bind fun v210=>(idx a191.2 p1).bind fun _=>(idx (a191.2.set p1.toNat v208) (w64 (p1 + a191.1))).bind fun _=>(q2v ((a191.2.set p1.toNat v208).set (w64 (p1 + a191.1)).toNat v210) 0 a191.1 p1).bind fun e216=>(lenEq e216.length ((a191.2.set p1.toNat v208).set (w64 (p1 + a191.1)).toNat v210).length).bind fun _=>some (.inl (w64 (a191.1 - 1),e216))) (some (.inr a191.2))
noncomputable def q3u (p0 : List Int) (p1 : Int) (p2 : Int) : Option (List Int):=
  (loop (q3d p2 p1) (w64 (Int.tdiv (w64 ((w64 (p2 - p1)) - 1)) 2),p0)).bind fun b126=>(loop (q3e p1) (w64 ((w64 (p2 - p1)) - 1),b126)).bind fun x0=>some x0
noncomputable def q3n (p0 : Int) : Option Int:=
  (q4w (IntKind.wrap .u64 p0)).bind fun r1=>(shlK .u64 1 r1).bind fun q3=>some q3
noncomputable def q33 (p0 : Int) : Option Int:=
  some (xorI .u64 (xorI .u64 (xorI .u64 p0 (IntKind.wrap .u64 (p0 * (2 ^ 13)))) (Int.fdiv (xorI .u64 p0 (IntKind.wrap .u64 (p0 * (2 ^ 13)))) (2 ^ 7))) (IntKind.wrap .u64 ((xorI .u64 (xorI .u64 p0 (IntKind.wrap .u64 (p0 * (2 ^ 13)))) (Int.fdiv (xorI .u64 p0 (IntKind.wrap .u64 (p0 * (2 ^ 13)))) (2 ^ 7))) * (2 ^ 17))))
noncomputable def q23 (p1 : Int) (p2 : Int) (r101 : Int) (a153 : Int × List Int × Int) : Option ((Int × List Int × Int) ⊕ (List Int)):=
  cond (decide (a153.1≤(w64 ((w64 (p1 + (w64 ((w64 (Int.tdiv (w64 (p2 - p1)) 4)) * 2)))) + 1)))) ((q33 a153.2.2).bind fun e168=>(cond (decide ((w64 (andI .u64 e168 (IntKind.wrap .u64 (r101 - 1)))) ≥ (w64 (p2 - p1)))) (some (w64 ((w64 (andI .u64 e168 (IntKind.wrap .u64 (r101 - 1)))) - (w64 (p2 - p1))))) (some (w64 (andI .u64 e168 (IntKind.wrap .u64 (r101 - 1)))))).bind fun b172=>(idx a153.2.1 (w64 (p1 + b172))).bind fun v173=>(idx a153.2.1 a153.1).bind fun v175=>(idx a153.2.1 a153.1).bind fun _=>(idx (a153.2.1.set a153.1.toNat v173) (w64 (p1 + b172))).bind fun _=>some (.inl (w64 (a153.1 + 1),(a153.2.1.set a153.1.toNat v173).set (w64 (p1 + b172)).toNat v175,e168))) (some (.inr a153.2.1))
noncomputable def q2o (p0 : List Int) (p1 : Int) (p2 : Int) : Option (List Int):=
  cond (decide ((w64 (p2 - p1)) ≥ 8)) ((q3n (w64 (p2 - p1))).bind fun r101=>(loop (q23 p1 p2 r101) (w64 ((w64 (p1 + (w64 ((w64 (Int.tdiv (w64 (p2 - p1)) 4)) * 2)))) - 1),p0,IntKind.wrap .u64 (w64 (p2 - p1)))).bind fun x0=>some x0) (some p0)
noncomputable def q2j (p0 : List Int) (p1 : Int) (p2 : Int) (p3 : Int) : Option (Int × Int × Int):=
  (idx p0 p2).bind fun v101=>(idx p0 p1).bind fun v103=>(q34 v101 v103).bind fun r105=>cond r105 (some (p2,p1,w64 (p3 + 1))) (some (p1,p2,p3))
noncomputable def q3k (p0 : List Int) (p1 : Int) (p2 : Int) (p3 : Int) (p4 : Int) : Option (Int × Int):=
  (q2j p0 p1 p2 p4).bind fun e101=>(q2j p0 e101.2.1 p3 e101.2.2).bind fun e103=>(q2j p0 e101.1 e103.1 e103.2.2).bind fun e105=>some (e105.2.1,e105.2.2)
noncomputable def q1j (p0 : List Int) (p1 : Int) (p2 : Int) : Option (Int × Int):=
  (q3k p0 (w64 (p1 - 1)) p1 (w64 (p1 + 1)) p2).bind fun e101=>some (e101.1,e101.2)
noncomputable def q3v (p0 : List Int) (p1 : Int) (p2 : Int) : Option (Int × Int):=
  (cond (decide ((w64 (p2 - p1)) ≥ 8)) ((cond (decide ((w64 (p2 - p1)) ≥ 50)) ((q1j p0 (w64 (p1 + (w64 ((w64 (Int.tdiv (w64 (p2 - p1)) 4)) * 1)))) 0).bind fun e25=>(q1j p0 (w64 (p1 + (w64 ((w64 (Int.tdiv (w64 (p2 - p1)) 4)) * 2)))) e25.2).bind fun e27=>(q1j p0 (w64 (p1 + (w64 ((w64 (Int.tdiv (w64 (p2 - p1)) 4)) * 3)))) e27.2).bind fun e29=>some (e25.1,e27.1,e29.1,e29.2)) (some (w64 (p1 + (w64 ((w64 (Int.tdiv (w64 (p2 - p1)) 4)) * 1))),w64 (p1 + (w64 ((w64 (Int.tdiv (w64 (p2 - p1)) 4)) * 2))),w64 (p1 + (w64 ((w64 (Int.tdiv (w64 (p2 - p1)) 4)) * 3))),0))).bind fun b24=>(q3k p0 b24.1 b24.2.1 b24.2.2.1 b24.2.2.2).bind fun e31=>some (e31.1,e31.2)) (some (w64 (p1 + (w64 ((w64 (Int.tdiv (w64 (p2 - p1)) 4)) * 2))),0))).bind fun b15=>cond (b15.2 == 0) (some (b15.1,1)) (cond (b15.2 == 12) (some (b15.1,2)) (some (b15.1,0)))
noncomputable def q3l (a119 : Int × Int × List Int) : Option ((Int × Int × List Int) ⊕ (List Int)):=
  cond (decide (a119.1 < a119.2.1)) ((idx a119.2.2 a119.2.1).bind fun v123=>(idx a119.2.2 a119.1).bind fun v125=>(idx a119.2.2 a119.1).bind fun _=>(idx (a119.2.2.set a119.1.toNat v123) a119.2.1).bind fun _=>some (.inl (w64 (a119.1 + 1),w64 (a119.2.1 - 1),(a119.2.2.set a119.1.toNat v123).set a119.2.1.toNat v125))) (some (.inr a119.2.2))
noncomputable def q2w (p0 : List Int) (p1 : Int) (p2 : Int) : Option (List Int):=
  (loop q3l (p1,w64 (p2 - 1),p0)).bind fun x0=>some x0
noncomputable def q1l (p2 : Int) (a432 : Int × Int × List Int) (a667 : Int) : Option ((Int) ⊕ (Int)):=
  (cond (decide (a667 < p2)) ((idx a432.2.2 a667).bind fun v691=>(idx a432.2.2 (w64 (a667 - 1))).bind fun v693=>(q34 v691 v693).bind fun r695=>some (!r695)) (some false)).bind fun c677=>cond c677 (some (.inl (w64 (a667 + 1)))) (some (.inr a667))
noncomputable def q20 (a822 : Int × List Int) : Option ((Int × List Int) ⊕ (List Int)):=
  cond (decide (a822.1 ≥ 1)) ((idx a822.2 a822.1).bind fun v840=>(idx a822.2 (w64 (a822.1 - 1))).bind fun v842=>(q34 v840 v842).bind fun r844=>cond (!r844) (some (.inr a822.2)) ((idx a822.2 (w64 (a822.1 - 1))).bind fun v846=>(idx a822.2 a822.1).bind fun v848=>(idx a822.2 a822.1).bind fun _=>(idx (a822.2.set a822.1.toNat v846) (w64 (a822.1 - 1))).bind fun _=>some (.inl (w64 (a822.1 - 1),(a822.2.set a822.1.toNat v846).set (w64 (a822.1 - 1)).toNat v848)))) (some (.inr a822.2))
noncomputable def q1m (p2 : Int) (b670 : Int) (a912 : Int × List Int) : Option ((Int × List Int) ⊕ (Int × List Int)):=
  cond (decide (a912.1 < p2)) ((idx a912.2 a912.1).bind fun v930=>(idx a912.2 (w64 (a912.1 - 1))).bind fun v932=>(q34 v930 v932).bind fun r934=>cond (!r934) (some (.inr (b670,a912.2))) ((idx a912.2 (w64 (a912.1 - 1))).bind fun v936=>(idx a912.2 a912.1).bind fun v938=>(idx a912.2 a912.1).bind fun _=>(idx (a912.2.set a912.1.toNat v936) (w64 (a912.1 - 1))).bind fun _=>some (.inl (w64 (a912.1 + 1),(a912.2.set a912.1.toNat v936).set (w64 (a912.1 - 1)).toNat v938)))) (some (.inr (b670,a912.2)))
noncomputable def q17 (p2 : Int) (p1 : Int) (a432 : Int × Int × List Int) : Option ((Int × Int × List Int) ⊕ ((List Int) ⊕ (Bool × List Int))):=
  cond (decide (a432.2.1 < 5)) (((loop (q1l p2 a432) a432.1).bind fun b670=>cond (b670 == p2) (some (.inr (true,a432.2.2))) (cond (decide ((w64 (p2 - p1)) < 50)) (some (.inr (false,a432.2.2))) ((idx a432.2.2 (w64 (b670 - 1))).bind fun v697=>(idx a432.2.2 b670).bind fun v699=>(idx a432.2.2 b670).bind fun _=>(idx (a432.2.2.set b670.toNat v697) (w64 (b670 - 1))).bind fun _=>(cond (decide ((w64 (b670 - p1)) ≥ 2)) ((loop q20 (w64 (b670 - 1),(a432.2.2.set b670.toNat v697).set (w64 (b670 - 1)).toNat v699)).bind fun x0=>some x0) (some ((a432.2.2.set b670.toNat v697).set (w64 (b670 - 1)).toNat v699))).bind fun b763=>cond (decide ((w64 (p2 - b670)) ≥ 2)) ((loop (q1m p2 b670) (w64 (b670 + 1),b763)).bind fun x0=>some (.inl x0)) (some (.inl (b670,b763))))) : Option ((Int × List Int) ⊕ (Bool × List Int))).bind fun m611=>(match m611 with | .inl b612=>some (.inl (b612.1,w64 (a432.2.1 + 1),b612.2)) | .inr x1=>some (.inr (.inr x1)))) (some (.inr (.inl a432.2.2)))
noncomputable def q1e (p0 : List Int) (p1 : Int) (p2 : Int) : Option (Bool × List Int):=
  (loop (q17 p2 p1) (w64 (p1 + 1),0,p0) : Option ((List Int) ⊕ (Bool × List Int))).bind fun m433=>(match m433 with | .inl b435=>some (false,b435) | .inr x1=>some x1)
noncomputable def q1w (a304 : Int × Int × List Int) (p1 : Int) (a360 : Int) : Option ((Int) ⊕ (Int)):=
  (cond (decide (a360≤a304.2.1)) ((idx a304.2.2 p1).bind fun v383=>(idx a304.2.2 a360).bind fun v385=>(q34 v383 v385).bind fun r387=>some (!r387)) (some false)).bind fun c370=>cond c370 (some (.inl (w64 (a360 + 1)))) (some (.inr a360))
noncomputable def q1x (b363 : Int) (a304 : Int × Int × List Int) (p1 : Int) (a439 : Int) : Option ((Int) ⊕ (Int)):=
  (cond (decide (b363≤a439)) ((idx a304.2.2 p1).bind fun v461=>(idx a304.2.2 a439).bind fun v463=>(q34 v461 v463).bind fun r465=>some r465) (some false)).bind fun c449=>cond c449 (some (.inl (w64 (a439 - 1)))) (some (.inr a439))
noncomputable def q1y (p1 : Int) (a304 : Int × Int × List Int) : Option ((Int × Int × List Int) ⊕ (Int × List Int)):=
  (loop (q1w a304 p1) a304.1).bind fun b363=>(loop (q1x b363 a304 p1) a304.2.1).bind fun b442=>cond (decide (b363 > b442)) (some (.inr (b363,a304.2.2))) ((idx a304.2.2 b442).bind fun v467=>(idx a304.2.2 b363).bind fun v469=>(idx a304.2.2 b363).bind fun _=>(idx (a304.2.2.set b363.toNat v467) b442).bind fun _=>some (.inl (w64 (b363 + 1),w64 (b442 - 1),(a304.2.2.set b363.toNat v467).set b442.toNat v469)))
noncomputable def q2h (p0 : List Int) (p1 : Int) (p2 : Int) (p3 : Int) : Option (Int × List Int):=
  (idx p0 p3).bind fun v101=>(idx p0 p1).bind fun v103=>(idx p0 p1).bind fun _=>(idx (p0.set p1.toNat v101) p3).bind fun _=>(loop (q1y p1) (w64 (p1 + 1),w64 (p2 - 1),(p0.set p1.toNat v101).set p3.toNat v103)).bind fun b307=>some (b307.1,b307.2)
noncomputable def q2x (p2 : Int) (p0 : List Int) (p1 : Int) (v101 : Int) (p3 : Int) (v103 : Int) (a159 : Int) : Option ((Int) ⊕ (Int)):=
  (cond (decide (a159≤(w64 (p2 - 1)))) ((idx ((p0.set p1.toNat v101).set p3.toNat v103) a159).bind fun v181=>(idx ((p0.set p1.toNat v101).set p3.toNat v103) p1).bind fun v183=>(q34 v181 v183).bind fun r185=>some r185) (some false)).bind fun c169=>cond c169 (some (.inl (w64 (a159 + 1)))) (some (.inr a159))
noncomputable def q2y (b162 : Int) (p0 : List Int) (p1 : Int) (v101 : Int) (p3 : Int) (v103 : Int) (a239 : Int) : Option ((Int) ⊕ (Int)):=
  (cond (decide (b162≤a239)) ((idx ((p0.set p1.toNat v101).set p3.toNat v103) a239).bind fun v262=>(idx ((p0.set p1.toNat v101).set p3.toNat v103) p1).bind fun v264=>(q34 v262 v264).bind fun r266=>some (!r266)) (some false)).bind fun c249=>cond c249 (some (.inl (w64 (a239 - 1)))) (some (.inr a239))
noncomputable def q2z (a488 : Int × Int × List Int) (p1 : Int) (a542 : Int) : Option ((Int) ⊕ (Int)):=
  (cond (decide (a542≤a488.2.1)) ((idx a488.2.2 a542).bind fun v564=>(idx a488.2.2 p1).bind fun v566=>(q34 v564 v566).bind fun r568=>some r568) (some false)).bind fun c552=>cond c552 (some (.inl (w64 (a542 + 1)))) (some (.inr a542))
noncomputable def q30 (b545 : Int) (a488 : Int × Int × List Int) (p1 : Int) (a622 : Int) : Option ((Int) ⊕ (Int)):=
  (cond (decide (b545≤a622)) ((idx a488.2.2 a622).bind fun v645=>(idx a488.2.2 p1).bind fun v647=>(q34 v645 v647).bind fun r649=>some (!r649)) (some false)).bind fun c632=>cond c632 (some (.inl (w64 (a622 - 1)))) (some (.inr a622))
noncomputable def q31 (p1 : Int) (a488 : Int × Int × List Int) : Option ((Int × Int × List Int) ⊕ (Int × List Int)):=
  (loop (q2z a488 p1) a488.1).bind fun b545=>(loop (q30 b545 a488 p1) a488.2.1).bind fun b625=>cond (decide (b545 > b625)) (some (.inr (b625,a488.2.2))) ((idx a488.2.2 b625).bind fun v651=>(idx a488.2.2 b545).bind fun v653=>(idx a488.2.2 b545).bind fun _=>(idx (a488.2.2.set b545.toNat v651) b625).bind fun _=>some (.inl (w64 (b545 + 1),w64 (b625 - 1),(a488.2.2.set b545.toNat v651).set b625.toNat v653)))
noncomputable def q3o (p0 : List Int) (p1 : Int) (p2 : Int) (p3 : Int) : Option (Int × Bool × List Int):=
  (idx p0 p3).bind fun v101=>(idx p0 p1).bind fun v103=>(idx p0 p1).bind fun _=>(idx (p0.set p1.toNat v101) p3).bind fun _=>(loop (q2x p2 p0 p1 v101 p3 v103) (w64 (p1 + 1))).bind fun b162=>(loop (q2y b162 p0 p1 v101 p3 v103) (w64 (p2 - 1))).bind fun b242=>cond (decide (b162 > b242)) ((idx ((p0.set p1.toNat v101).set p3.toNat v103) p1).bind fun v276=>(idx ((p0.set p1.toNat v101).set p3.toNat v103) b242).bind fun v278=>(idx ((p0.set p1.toNat v101).set p3.toNat v103) b242).bind fun _=>(idx (((p0.set p1.toNat v101).set p3.toNat v103).set b242.toNat v276) p1).bind fun _=>some (b242,true,(((p0.set p1.toNat v101).set p3.toNat v103).set b242.toNat v276).set p1.toNat v278)) ((idx ((p0.set p1.toNat v101).set p3.toNat v103) b242).bind fun v284=>(idx ((p0.set p1.toNat v101).set p3.toNat v103) b162).bind fun v286=>(idx ((p0.set p1.toNat v101).set p3.toNat v103) b162).bind fun _=>(idx (((p0.set p1.toNat v101).set p3.toNat v103).set b162.toNat v284) b242).bind fun _=>(loop (q31 p1) (w64 (b162 + 1),w64 (b242 - 1),(((p0.set p1.toNat v101).set p3.toNat v103).set b162.toNat v284).set b242.toNat v286)).bind fun b491=>(idx b491.2 p1).bind fun v659=>(idx b491.2 b491.1).bind fun v661=>(idx b491.2 b491.1).bind fun _=>(idx (b491.2.set b491.1.toNat v659) p1).bind fun _=>some (b491.1,false,(b491.2.set b491.1.toNat v659).set p1.toNat v661))
noncomputable def q2e (rec : List Int→Int→Int→Int→Option (List Int)) (a305 : Int × Int × Int × Bool × Bool × List Int) : Option ((Int × Int × Int × Bool × Bool × List Int) ⊕ (List Int)):=
  cond (decide ((w64 (a305.2.1 - a305.1))≤12)) ((q2n a305.2.2.2.2.2 a305.1 a305.2.1).bind fun e314=>(lenEq e314.length a305.2.2.2.2.2.length).bind fun _=>some (.inr e314)) (cond (a305.2.2.1 == 0) ((q3u a305.2.2.2.2.2 a305.1 a305.2.1).bind fun e324=>(lenEq e324.length a305.2.2.2.2.2.length).bind fun _=>some (.inr e324)) ((cond (!a305.2.2.2.1) ((q2o a305.2.2.2.2.2 a305.1 a305.2.1).bind fun e337=>(lenEq e337.length a305.2.2.2.2.2.length).bind fun _=>some (w64 (a305.2.2.1 - 1),e337)) (some (a305.2.2.1,a305.2.2.2.2.2))).bind fun b336=>(q3v b336.2 a305.1 a305.2.1).bind fun r342=>(cond (r342.2 == 2) ((q2w b336.2 a305.1 a305.2.1).bind fun e352=>(lenEq e352.length b336.2.length).bind fun _=>some (w64 ((w64 (a305.2.1 - 1)) - (w64 (r342.1 - a305.1))),1,e352)) (some (r342.1,r342.2,b336.2))).bind fun b351=>(cond a305.2.2.2.1 (some a305.2.2.2.2.1) (some false)).bind fun c357=>(cond c357 (some (b351.2.1 == 1)) (some false)).bind fun c361=>(cond c361 ((q1e b351.2.2 a305.1 a305.2.1).bind fun e374=>(lenEq e374.2.length b351.2.2.length).bind fun _=>cond e374.1 (some (.inr e374.2)) (some (.inl e374.2))) (some (.inl b351.2.2)) : Option ((List Int) ⊕ (List Int))).bind fun m372=>(match m372 with | .inl b373=>(cond (decide (a305.1 > 0)) ((idx b373 (w64 (a305.1 - 1))).bind fun v399=>(idx b373 b351.1).bind fun v401=>(q34 v399 v401).bind fun r403=>some (!r403)) (some false)).bind fun c385=>cond c385 ((q2h b373 a305.1 a305.2.1 b351.1).bind fun e410=>(lenEq e410.2.length b373.length).bind fun _=>some (.inl (e410.1,a305.2.1,b336.1,a305.2.2.2.1,a305.2.2.2.2.1,e410.2))) ((q3o b373 a305.1 a305.2.1 b351.1).bind fun e415=>(lenEq e415.2.2.length b373.length).bind fun _=>cond (decide ((w64 (e415.1 - a305.1)) < (w64 (a305.2.1 - e415.1)))) ((rec e415.2.2 a305.1 e415.1 b336.1).bind fun e420=>(lenEq e420.length e415.2.2.length).bind fun _=>some (.inl (w64 (e415.1 + 1),a305.2.1,b336.1,decide ((w64 (e415.1 - a305.1)) ≥ (w64 (Int.tdiv (w64 (a305.2.1 - a305.1)) 8))),e415.2.1,e420))) ((rec e415.2.2 (w64 (e415.1 + 1)) a305.2.1 b336.1).bind fun e425=>(lenEq e425.length e415.2.2.length).bind fun _=>some (.inl (a305.1,e415.1,b336.1,decide ((w64 (a305.2.1 - e415.1)) ≥ (w64 (Int.tdiv (w64 (a305.2.1 - a305.1)) 8))),e415.2.1,e425)))) | .inr x1=>some (.inr x1))))
noncomputable def q2k (rec : List Int→Int→Int→Int→Option (List Int)) (p0 : List Int) (p1 : Int) (p2 : Int) (p3 : Int) : Option (List Int):=
  (loop (q2e rec) (p1,p2,p3,true,true,p0)).bind fun x0=>some x0
noncomputable def q3x : Nat→List Int→Int→Int→Int→Option (List Int)
  | 0,_,_,_,_=>none
  | n + 1,p0,p1,p2,p3=>q2k (q3x n)  p0 p1 p2 p3
noncomputable def q3w (p0 : List Int) : Option (List Int):=
  (q4w (IntKind.wrap .u64 (p0.length : Int))).bind fun r101=>(lim (fun n=>q3x n p0 0 (p0.length : Int) r101)).bind fun e103=>(lenEq e103.length p0.length).bind fun _=>some e103
noncomputable def q1v (a318 : Int × (Nat × Nat) × Int × List Int) : Option ((Int × (Nat × Nat) × Int × List Int) ⊕ (Int × List Int)):=
  cond (decide (a318.2.2.1 < (a318.2.1.2 : Int))) (((idxW a318.2.2.2 a318.2.1 a318.2.2.1).bind fun v333=>(idxW a318.2.2.2 a318.2.1 (w64 (a318.2.2.1 - 1))).bind fun v335=>cond (v333 != v335) ((idxW a318.2.2.2 a318.2.1 a318.2.2.1).bind fun v337=>(idx a318.2.2.2 a318.1).bind fun _=>some (w64 (a318.1 + 1),a318.2.1,a318.2.2.2.set a318.1.toNat v337)) (some (a318.1,a318.2.1,a318.2.2.2))).bind fun b332=>some (.inl (b332.1,b332.2.1,w64 (a318.2.2.1 + 1),b332.2.2))) (some (.inr (a318.1,a318.2.2.2)))
noncomputable def q14 (p0 : List Int) (a247 : Int) : Option ((Int) ⊕ ((Unit) ⊕ ((Nat × Nat) × List Int))):=
  cond (decide (a247 < (p0.length : Int))) ((idx p0 a247).bind fun v287=>(idx p0 (w64 (a247 - 1))).bind fun v289=>cond (v287 == v289) ((sub2 p0.length a247 p0.length).bind fun w291=>(loop q1v (a247,w291,1,p0)).bind fun b321=>(sub2 b321.2.length b321.1 b321.2.length).bind fun w341=>(sub2 b321.2.length 0 b321.1).bind fun w344=>some (.inr (.inr (w344,clrw b321.2 w341 0)))) (some (.inl (w64 (a247 + 1))))) (some (.inr (.inl ())))
noncomputable def q44 (p0 : List Int) : Option ((Nat × Nat) × List Int):=
  cond (decide ((p0.length : Int) < 2)) (some ((0,p0.length),p0)) ((loop (q14 p0) 1 : Option ((Unit) ⊕ ((Nat × Nat) × List Int))).bind fun m248=>(match m248 with | .inl _=>some ((0,p0.length),p0) | .inr x1=>some x1))
structure api_Span where
  Lo : Int
  Hi : Int
  deriving DecidableEq
def qh (x : api_Span) : List DV:=[.int .i64 x.Lo,.int .i64 x.Hi]
noncomputable def q1d (p0 : List api_Span) (p1 : api_Span→Option Bool) (a19 : Int) : Option ((Int) ⊕ ((Unit) ⊕ (Int))):=
  cond (decide (a19 < (p0.length : Int))) ((idx p0 a19).bind fun v27=>(p1 v27).bind fun r29=>cond r29 (some (.inr (.inr a19))) (some (.inl (w64 (a19 + 1))))) (some (.inr (.inl ())))
noncomputable def q3r (p0 : List api_Span) (p1 : api_Span→Option Bool) : Option Int:=
  (loop (q1d p0 p1) 0 : Option ((Unit) ⊕ (Int))).bind fun m20=>(match m20 with | .inl _=>some (-1) | .inr x1=>some x1)
noncomputable def q3g (p0 : List api_Span) (p1 : api_Span→Option Bool) : Option Bool:=
  (q3r p0 p1).bind fun r1=>some (decide (r1 ≥ 0))
noncomputable def span_valid (p0 : api_Span) : Option Bool:=
  (cond (decide (p0.Lo < p0.Hi)) (some (decide (p0.Lo ≥ (-1000000)))) (some false)).bind fun c1=>(cond c1 (some (decide (p0.Hi≤1000000))) (some false)).bind fun c7=>some c7
noncomputable def qab (p0 : api_Span) : Option Bool:=
  (span_valid p0).bind fun r1=>some (!r1)
def q2l (x : List api_Span) : List DV:=[.sl 2 (x.map qh)]
structure span_end where
  at_ : Int
  list_ : Int
  by_ : Int
  deriving DecidableEq
def qe (x : span_end) : List DV:=[.int .i64 x.at_,.int .i64 x.list_,.int .i64 x.by_]
noncomputable def q8l (p0 : span_end) (p1 : span_end) : Option Int:=
  some (w64 (p0.at_ - p1.at_))
noncomputable def q29 (p1 : Int) (q1 : span_end→span_end→Option Int) (a459 : Int × List span_end) : Option ((Int × List span_end) ⊕ (List span_end)):=
  (cond (decide (a459.1 > p1)) ((idx a459.2 a459.1).bind fun v484=>(idx a459.2 (w64 (a459.1 - 1))).bind fun v486=>(q1 v484 v486).bind fun r488=>some (decide (r488 < 0))) (some false)).bind fun c469=>cond c469 ((idx a459.2 (w64 (a459.1 - 1))).bind fun v498=>(idx a459.2 a459.1).bind fun v500=>(idx a459.2 a459.1).bind fun _=>(idx (a459.2.set a459.1.toNat v498) (w64 (a459.1 - 1))).bind fun _=>some (.inl (w64 (a459.1 - 1),(a459.2.set a459.1.toNat v498).set (w64 (a459.1 - 1)).toNat v500))) (some (.inr a459.2))
noncomputable def q2a (p2 : Int) (p1 : Int) (q1 : span_end→span_end→Option Int) (a278 : Int × List span_end) : Option ((Int × List span_end) ⊕ (List span_end)):=
  cond (decide (a278.1 < p2)) (((loop (q29 p1 q1) (a278.1,a278.2)).bind fun x0=>some x0).bind fun b370=>some (.inl (w64 (a278.1 + 1),b370))) (some (.inr a278.2))
noncomputable def q2s (q1 : span_end→span_end→Option Int) (p0 : List span_end) (p1 : Int) (p2 : Int) : Option (List span_end):=
  (loop (q2a p2 p1 q1) (w64 (p1 + 1),p0)).bind fun x0=>some x0
noncomputable def q3h (p2 : Int) (p3 : Int) (q1 : span_end→span_end→Option Int) (a197 : Int × List span_end) : Option ((Int × List span_end) ⊕ (List span_end)):=
  cond (decide ((w64 ((w64 (2 * a197.1)) + 1)) ≥ p2)) (some (.inr a197.2)) ((cond (decide ((w64 ((w64 ((w64 (2 * a197.1)) + 1)) + 1)) < p2)) ((idx a197.2 (w64 (p3 + (w64 ((w64 (2 * a197.1)) + 1))))).bind fun v226=>(idx a197.2 (w64 ((w64 (p3 + (w64 ((w64 (2 * a197.1)) + 1)))) + 1))).bind fun v228=>(q1 v226 v228).bind fun r230=>some (decide (r230 < 0))) (some false)).bind fun c207=>(cond c207 (some (w64 ((w64 ((w64 (2 * a197.1)) + 1)) + 1))) (some (w64 ((w64 (2 * a197.1)) + 1)))).bind fun b234=>(idx a197.2 (w64 (p3 + a197.1))).bind fun v235=>(idx a197.2 (w64 (p3 + b234))).bind fun v237=>(q1 v235 v237).bind fun r239=>cond (!(decide (r239 < 0))) (some (.inr a197.2)) ((idx a197.2 (w64 (p3 + b234))).bind fun v241=>(idx a197.2 (w64 (p3 + a197.1))).bind fun v243=>(idx a197.2 (w64 (p3 + a197.1))).bind fun _=>(idx (a197.2.set (w64 (p3 + a197.1)).toNat v241) (w64 (p3 + b234))).bind fun _=>some (.inl (b234,(a197.2.set (w64 (p3 + a197.1)).toNat v241).set (w64 (p3 + b234)).toNat v243))))
noncomputable def q2p (q1 : span_end→span_end→Option Int) (p0 : List span_end) (p1 : Int) (p2 : Int) (p3 : Int) : Option (List span_end):=
  (loop (q3h p2 p3 q1) (p1,p0)).bind fun x0=>some x0
noncomputable def q3i (q1 : span_end→span_end→Option Int) (p2 : Int) (p1 : Int) (a123 : Int × List span_end) : Option ((Int × List span_end) ⊕ (List span_end)):=
  cond (decide (a123.1 ≥ 0)) ((q2p q1 a123.2 a123.1 (w64 (p2 - p1)) p1).bind fun e132=>(lenEq e132.length a123.2.length).bind fun _=>some (.inl (w64 (a123.1 - 1),e132))) (some (.inr a123.2))
noncomputable def q3j (p1 : Int) (q1 : span_end→span_end→Option Int) (a191 : Int × List span_end) : Option ((Int × List span_end) ⊕ (List span_end)):=
  cond (decide (a191.1 ≥ 0)) ((idx a191.2 (w64 (p1 + a191.1))).bind fun v208=>(idx a191.2 p1).bind fun v210=>(idx a191.2 p1).bind fun _=>(idx (a191.2.set p1.toNat v208) (w64 (p1 + a191.1))).bind fun _=>(q2p q1 ((a191.2.set p1.toNat v208).set (w64 (p1 + a191.1)).toNat v210) 0 a191.1 p1).bind fun e216=>(lenEq e216.length ((a191.2.set p1.toNat v208).set (w64 (p1 + a191.1)).toNat v210).length).bind fun _=>some (.inl (w64 (a191.1 - 1),e216))) (some (.inr a191.2))
noncomputable def q3s (q1 : span_end→span_end→Option Int) (p0 : List span_end) (p1 : Int) (p2 : Int) : Option (List span_end):=
  (loop (q3i q1 p2 p1) (w64 (Int.tdiv (w64 ((w64 (p2 - p1)) - 1)) 2),p0)).bind fun b126=>(loop (q3j p1 q1) (w64 ((w64 (p2 - p1)) - 1),b126)).bind fun x0=>some x0
noncomputable def q2b (p1 : Int) (p2 : Int) (r101 : Int) (a153 : Int × List span_end × Int) : Option ((Int × List span_end × Int) ⊕ (List span_end)):=
  cond (decide (a153.1≤(w64 ((w64 (p1 + (w64 ((w64 (Int.tdiv (w64 (p2 - p1)) 4)) * 2)))) + 1)))) ((q33 a153.2.2).bind fun e168=>(cond (decide ((w64 (andI .u64 e168 (IntKind.wrap .u64 (r101 - 1)))) ≥ (w64 (p2 - p1)))) (some (w64 ((w64 (andI .u64 e168 (IntKind.wrap .u64 (r101 - 1)))) - (w64 (p2 - p1))))) (some (w64 (andI .u64 e168 (IntKind.wrap .u64 (r101 - 1)))))).bind fun b172=>(idx a153.2.1 (w64 (p1 + b172))).bind fun v173=>(idx a153.2.1 a153.1).bind fun v175=>(idx a153.2.1 a153.1).bind fun _=>(idx (a153.2.1.set a153.1.toNat v173) (w64 (p1 + b172))).bind fun _=>some (.inl (w64 (a153.1 + 1),(a153.2.1.set a153.1.toNat v173).set (w64 (p1 + b172)).toNat v175,e168))) (some (.inr a153.2.1))
noncomputable def q2t (q1 : span_end→span_end→Option Int) (p0 : List span_end) (p1 : Int) (p2 : Int) : Option (List span_end):=
  cond (decide ((w64 (p2 - p1)) ≥ 8)) ((q3n (w64 (p2 - p1))).bind fun r101=>(loop (q2b p1 p2 r101) (w64 ((w64 (p1 + (w64 ((w64 (Int.tdiv (w64 (p2 - p1)) 4)) * 2)))) - 1),p0,IntKind.wrap .u64 (w64 (p2 - p1)))).bind fun x0=>some x0) (some p0)
noncomputable def q28 (q1 : span_end→span_end→Option Int) (p0 : List span_end) (p1 : Int) (p2 : Int) (p3 : Int) : Option (Int × Int × Int):=
  (idx p0 p2).bind fun v101=>(idx p0 p1).bind fun v103=>(q1 v101 v103).bind fun r105=>cond (decide (r105 < 0)) (some (p2,p1,w64 (p3 + 1))) (some (p1,p2,p3))
noncomputable def q3f (q1 : span_end→span_end→Option Int) (p0 : List span_end) (p1 : Int) (p2 : Int) (p3 : Int) (p4 : Int) : Option (Int × Int):=
  (q28 q1 p0 p1 p2 p4).bind fun e101=>(q28 q1 p0 e101.2.1 p3 e101.2.2).bind fun e103=>(q28 q1 p0 e101.1 e103.1 e103.2.2).bind fun e105=>some (e105.2.1,e105.2.2)
noncomputable def q1h (q1 : span_end→span_end→Option Int) (p0 : List span_end) (p1 : Int) (p2 : Int) : Option (Int × Int):=
  (q3f q1 p0 (w64 (p1 - 1)) p1 (w64 (p1 + 1)) p2).bind fun e101=>some (e101.1,e101.2)
noncomputable def q3t (p0 : List span_end) (p1 : Int) (p2 : Int) (p3 : span_end→span_end→Option Int) : Option (Int × Int):=
  (cond (decide ((w64 (p2 - p1)) ≥ 8)) ((cond (decide ((w64 (p2 - p1)) ≥ 50)) ((q1h p3 p0 (w64 (p1 + (w64 ((w64 (Int.tdiv (w64 (p2 - p1)) 4)) * 1)))) 0).bind fun e25=>(q1h p3 p0 (w64 (p1 + (w64 ((w64 (Int.tdiv (w64 (p2 - p1)) 4)) * 2)))) e25.2).bind fun e27=>(q1h p3 p0 (w64 (p1 + (w64 ((w64 (Int.tdiv (w64 (p2 - p1)) 4)) * 3)))) e27.2).bind fun e29=>some (e25.1,e27.1,e29.1,e29.2)) (some (w64 (p1 + (w64 ((w64 (Int.tdiv (w64 (p2 - p1)) 4)) * 1))),w64 (p1 + (w64 ((w64 (Int.tdiv (w64 (p2 - p1)) 4)) * 2))),w64 (p1 + (w64 ((w64 (Int.tdiv (w64 (p2 - p1)) 4)) * 3))),0))).bind fun b24=>(q3f p3 p0 b24.1 b24.2.1 b24.2.2.1 b24.2.2.2).bind fun e31=>some (e31.1,e31.2)) (some (w64 (p1 + (w64 ((w64 (Int.tdiv (w64 (p2 - p1)) 4)) * 2))),0))).bind fun b15=>cond (b15.2 == 0) (some (b15.1,1)) (cond (b15.2 == 12) (some (b15.1,2)) (some (b15.1,0)))
noncomputable def q2f (a119 : Int × Int × List span_end) : Option ((Int × Int × List span_end) ⊕ (List span_end)):=
  cond (decide (a119.1 < a119.2.1)) ((idx a119.2.2 a119.2.1).bind fun v123=>(idx a119.2.2 a119.1).bind fun v125=>(idx a119.2.2 a119.1).bind fun _=>(idx (a119.2.2.set a119.1.toNat v123) a119.2.1).bind fun _=>some (.inl (w64 (a119.1 + 1),w64 (a119.2.1 - 1),(a119.2.2.set a119.1.toNat v123).set a119.2.1.toNat v125))) (some (.inr a119.2.2))
noncomputable def q35 (q1 : span_end→span_end→Option Int) (p0 : List span_end) (p1 : Int) (p2 : Int) : Option (List span_end):=
  (loop q2f (p1,w64 (p2 - 1),p0)).bind fun x0=>some x0
noncomputable def q1r (p2 : Int) (a438 : Int × Int × List span_end) (q1 : span_end→span_end→Option Int) (a681 : Int) : Option ((Int) ⊕ (Int)):=
  (cond (decide (a681 < p2)) ((idx a438.2.2 a681).bind fun v707=>(idx a438.2.2 (w64 (a681 - 1))).bind fun v709=>(q1 v707 v709).bind fun r711=>some (!(decide (r711 < 0)))) (some false)).bind fun c691=>cond c691 (some (.inl (w64 (a681 + 1)))) (some (.inr a681))
noncomputable def q1s (q1 : span_end→span_end→Option Int) (a838 : Int × List span_end) : Option ((Int × List span_end) ⊕ (List span_end)):=
  cond (decide (a838.1 ≥ 1)) ((idx a838.2 a838.1).bind fun v856=>(idx a838.2 (w64 (a838.1 - 1))).bind fun v858=>(q1 v856 v858).bind fun r860=>cond (!(decide (r860 < 0))) (some (.inr a838.2)) ((idx a838.2 (w64 (a838.1 - 1))).bind fun v862=>(idx a838.2 a838.1).bind fun v864=>(idx a838.2 a838.1).bind fun _=>(idx (a838.2.set a838.1.toNat v862) (w64 (a838.1 - 1))).bind fun _=>some (.inl (w64 (a838.1 - 1),(a838.2.set a838.1.toNat v862).set (w64 (a838.1 - 1)).toNat v864)))) (some (.inr a838.2))
noncomputable def q1t (p2 : Int) (q1 : span_end→span_end→Option Int) (b684 : Int) (a928 : Int × List span_end) : Option ((Int × List span_end) ⊕ (Int × List span_end)):=
  cond (decide (a928.1 < p2)) ((idx a928.2 a928.1).bind fun v946=>(idx a928.2 (w64 (a928.1 - 1))).bind fun v948=>(q1 v946 v948).bind fun r950=>cond (!(decide (r950 < 0))) (some (.inr (b684,a928.2))) ((idx a928.2 (w64 (a928.1 - 1))).bind fun v952=>(idx a928.2 a928.1).bind fun v954=>(idx a928.2 a928.1).bind fun _=>(idx (a928.2.set a928.1.toNat v952) (w64 (a928.1 - 1))).bind fun _=>some (.inl (w64 (a928.1 + 1),(a928.2.set a928.1.toNat v952).set (w64 (a928.1 - 1)).toNat v954)))) (some (.inr (b684,a928.2)))
noncomputable def q1a (p2 : Int) (q1 : span_end→span_end→Option Int) (p1 : Int) (a438 : Int × Int × List span_end) : Option ((Int × Int × List span_end) ⊕ ((List span_end) ⊕ (Bool × List span_end))):=
  cond (decide (a438.2.1 < 5)) (((loop (q1r p2 a438 q1) a438.1).bind fun b684=>cond (b684 == p2) (some (.inr (true,a438.2.2))) (cond (decide ((w64 (p2 - p1)) < 50)) (some (.inr (false,a438.2.2))) ((idx a438.2.2 (w64 (b684 - 1))).bind fun v713=>(idx a438.2.2 b684).bind fun v715=>(idx a438.2.2 b684).bind fun _=>(idx (a438.2.2.set b684.toNat v713) (w64 (b684 - 1))).bind fun _=>(cond (decide ((w64 (b684 - p1)) ≥ 2)) ((loop (q1s q1) (w64 (b684 - 1),(a438.2.2.set b684.toNat v713).set (w64 (b684 - 1)).toNat v715)).bind fun x0=>some x0) (some ((a438.2.2.set b684.toNat v713).set (w64 (b684 - 1)).toNat v715))).bind fun b779=>cond (decide ((w64 (p2 - b684)) ≥ 2)) ((loop (q1t p2 q1 b684) (w64 (b684 + 1),b779)).bind fun x0=>some (.inl x0)) (some (.inl (b684,b779))))) : Option ((Int × List span_end) ⊕ (Bool × List span_end))).bind fun m621=>(match m621 with | .inl b622=>some (.inl (b622.1,w64 (a438.2.1 + 1),b622.2)) | .inr x1=>some (.inr (.inr x1)))) (some (.inr (.inl a438.2.2)))
noncomputable def q1g (q1 : span_end→span_end→Option Int) (p0 : List span_end) (p1 : Int) (p2 : Int) : Option (Bool × List span_end):=
  (loop (q1a p2 q1 p1) (w64 (p1 + 1),0,p0) : Option ((List span_end) ⊕ (Bool × List span_end))).bind fun m439=>(match m439 with | .inl b441=>some (false,b441) | .inr x1=>some x1)
noncomputable def q25 (a318 : Int × Int × List span_end) (p1 : Int) (q1 : span_end→span_end→Option Int) (a378 : Int) : Option ((Int) ⊕ (Int)):=
  (cond (decide (a378≤a318.2.1)) ((idx a318.2.2 p1).bind fun v403=>(idx a318.2.2 a378).bind fun v405=>(q1 v403 v405).bind fun r407=>some (!(decide (r407 < 0)))) (some false)).bind fun c388=>cond c388 (some (.inl (w64 (a378 + 1)))) (some (.inr a378))
noncomputable def q26 (b381 : Int) (a318 : Int × Int × List span_end) (p1 : Int) (q1 : span_end→span_end→Option Int) (a463 : Int) : Option ((Int) ⊕ (Int)):=
  (cond (decide (b381≤a463)) ((idx a318.2.2 p1).bind fun v487=>(idx a318.2.2 a463).bind fun v489=>(q1 v487 v489).bind fun r491=>some (decide (r491 < 0))) (some false)).bind fun c473=>cond c473 (some (.inl (w64 (a463 - 1)))) (some (.inr a463))
noncomputable def q27 (p1 : Int) (q1 : span_end→span_end→Option Int) (a318 : Int × Int × List span_end) : Option ((Int × Int × List span_end) ⊕ (Int × List span_end)):=
  (loop (q25 a318 p1 q1) a318.1).bind fun b381=>(loop (q26 b381 a318 p1 q1) a318.2.1).bind fun b466=>cond (decide (b381 > b466)) (some (.inr (b381,a318.2.2))) ((idx a318.2.2 b466).bind fun v493=>(idx a318.2.2 b381).bind fun v495=>(idx a318.2.2 b381).bind fun _=>(idx (a318.2.2.set b381.toNat v493) b466).bind fun _=>some (.inl (w64 (b381 + 1),w64 (b466 - 1),(a318.2.2.set b381.toNat v493).set b466.toNat v495)))
noncomputable def q2m (q1 : span_end→span_end→Option Int) (p0 : List span_end) (p1 : Int) (p2 : Int) (p3 : Int) : Option (Int × List span_end):=
  (idx p0 p3).bind fun v101=>(idx p0 p1).bind fun v103=>(idx p0 p1).bind fun _=>(idx (p0.set p1.toNat v101) p3).bind fun _=>(loop (q27 p1 q1) (w64 (p1 + 1),w64 (p2 - 1),(p0.set p1.toNat v101).set p3.toNat v103)).bind fun b321=>some (b321.1,b321.2)
noncomputable def q36 (p2 : Int) (p0 : List span_end) (p1 : Int) (v101 : span_end) (p3 : Int) (v103 : span_end) (q1 : span_end→span_end→Option Int) (a163 : Int) : Option ((Int) ⊕ (Int)):=
  (cond (decide (a163≤(w64 (p2 - 1)))) ((idx ((p0.set p1.toNat v101).set p3.toNat v103) a163).bind fun v187=>(idx ((p0.set p1.toNat v101).set p3.toNat v103) p1).bind fun v189=>(q1 v187 v189).bind fun r191=>some (decide (r191 < 0))) (some false)).bind fun c173=>cond c173 (some (.inl (w64 (a163 + 1)))) (some (.inr a163))
noncomputable def q37 (b166 : Int) (p0 : List span_end) (p1 : Int) (v101 : span_end) (p3 : Int) (v103 : span_end) (q1 : span_end→span_end→Option Int) (a249 : Int) : Option ((Int) ⊕ (Int)):=
  (cond (decide (b166≤a249)) ((idx ((p0.set p1.toNat v101).set p3.toNat v103) a249).bind fun v274=>(idx ((p0.set p1.toNat v101).set p3.toNat v103) p1).bind fun v276=>(q1 v274 v276).bind fun r278=>some (!(decide (r278 < 0)))) (some false)).bind fun c259=>cond c259 (some (.inl (w64 (a249 - 1)))) (some (.inr a249))
noncomputable def q38 (a514 : Int × Int × List span_end) (p1 : Int) (q1 : span_end→span_end→Option Int) (a572 : Int) : Option ((Int) ⊕ (Int)):=
  (cond (decide (a572≤a514.2.1)) ((idx a514.2.2 a572).bind fun v596=>(idx a514.2.2 p1).bind fun v598=>(q1 v596 v598).bind fun r600=>some (decide (r600 < 0))) (some false)).bind fun c582=>cond c582 (some (.inl (w64 (a572 + 1)))) (some (.inr a572))
noncomputable def q39 (b575 : Int) (a514 : Int × Int × List span_end) (p1 : Int) (q1 : span_end→span_end→Option Int) (a658 : Int) : Option ((Int) ⊕ (Int)):=
  (cond (decide (b575≤a658)) ((idx a514.2.2 a658).bind fun v683=>(idx a514.2.2 p1).bind fun v685=>(q1 v683 v685).bind fun r687=>some (!(decide (r687 < 0)))) (some false)).bind fun c668=>cond c668 (some (.inl (w64 (a658 - 1)))) (some (.inr a658))
noncomputable def q3a (p1 : Int) (q1 : span_end→span_end→Option Int) (a514 : Int × Int × List span_end) : Option ((Int × Int × List span_end) ⊕ (Int × List span_end)):=
  (loop (q38 a514 p1 q1) a514.1).bind fun b575=>(loop (q39 b575 a514 p1 q1) a514.2.1).bind fun b661=>cond (decide (b575 > b661)) (some (.inr (b661,a514.2.2))) ((idx a514.2.2 b661).bind fun v689=>(idx a514.2.2 b575).bind fun v691=>(idx a514.2.2 b575).bind fun _=>(idx (a514.2.2.set b575.toNat v689) b661).bind fun _=>some (.inl (w64 (b575 + 1),w64 (b661 - 1),(a514.2.2.set b575.toNat v689).set b661.toNat v691)))
noncomputable def q3p (q1 : span_end→span_end→Option Int) (p0 : List span_end) (p1 : Int) (p2 : Int) (p3 : Int) : Option (Int × Bool × List span_end):=
  (idx p0 p3).bind fun v101=>(idx p0 p1).bind fun v103=>(idx p0 p1).bind fun _=>(idx (p0.set p1.toNat v101) p3).bind fun _=>(loop (q36 p2 p0 p1 v101 p3 v103 q1) (w64 (p1 + 1))).bind fun b166=>(loop (q37 b166 p0 p1 v101 p3 v103 q1) (w64 (p2 - 1))).bind fun b252=>cond (decide (b166 > b252)) ((idx ((p0.set p1.toNat v101).set p3.toNat v103) p1).bind fun v288=>(idx ((p0.set p1.toNat v101).set p3.toNat v103) b252).bind fun v290=>(idx ((p0.set p1.toNat v101).set p3.toNat v103) b252).bind fun _=>(idx (((p0.set p1.toNat v101).set p3.toNat v103).set b252.toNat v288) p1).bind fun _=>some (b252,true,(((p0.set p1.toNat v101).set p3.toNat v103).set b252.toNat v288).set p1.toNat v290)) ((idx ((p0.set p1.toNat v101).set p3.toNat v103) b252).bind fun v296=>(idx ((p0.set p1.toNat v101).set p3.toNat v103) b166).bind fun v298=>(idx ((p0.set p1.toNat v101).set p3.toNat v103) b166).bind fun _=>(idx (((p0.set p1.toNat v101).set p3.toNat v103).set b166.toNat v296) b252).bind fun _=>(loop (q3a p1 q1) (w64 (b166 + 1),w64 (b252 - 1),(((p0.set p1.toNat v101).set p3.toNat v103).set b166.toNat v296).set b252.toNat v298)).bind fun b517=>(idx b517.2 p1).bind fun v697=>(idx b517.2 b517.1).bind fun v699=>(idx b517.2 b517.1).bind fun _=>(idx (b517.2.set b517.1.toNat v697) p1).bind fun _=>some (b517.1,false,(b517.2.set b517.1.toNat v697).set p1.toNat v699))
noncomputable def q2c (q1 : span_end→span_end→Option Int) (rec : List span_end→Int→Int→Int→Option (List span_end)) (a309 : Int × Int × Int × Bool × Bool × List span_end) : Option ((Int × Int × Int × Bool × Bool × List span_end) ⊕ (List span_end)):=
  cond (decide ((w64 (a309.2.1 - a309.1))≤12)) ((q2s q1 a309.2.2.2.2.2 a309.1 a309.2.1).bind fun e318=>(lenEq e318.length a309.2.2.2.2.2.length).bind fun _=>some (.inr e318)) (cond (a309.2.2.1 == 0) ((q3s q1 a309.2.2.2.2.2 a309.1 a309.2.1).bind fun e328=>(lenEq e328.length a309.2.2.2.2.2.length).bind fun _=>some (.inr e328)) ((cond (!a309.2.2.2.1) ((q2t q1 a309.2.2.2.2.2 a309.1 a309.2.1).bind fun e341=>(lenEq e341.length a309.2.2.2.2.2.length).bind fun _=>some (w64 (a309.2.2.1 - 1),e341)) (some (a309.2.2.1,a309.2.2.2.2.2))).bind fun b340=>(q3t b340.2 a309.1 a309.2.1 q1).bind fun r346=>(cond (r346.2 == 2) ((q35 q1 b340.2 a309.1 a309.2.1).bind fun e356=>(lenEq e356.length b340.2.length).bind fun _=>some (w64 ((w64 (a309.2.1 - 1)) - (w64 (r346.1 - a309.1))),1,e356)) (some (r346.1,r346.2,b340.2))).bind fun b355=>(cond a309.2.2.2.1 (some a309.2.2.2.2.1) (some false)).bind fun c361=>(cond c361 (some (b355.2.1 == 1)) (some false)).bind fun c365=>(cond c365 ((q1g q1 b355.2.2 a309.1 a309.2.1).bind fun e378=>(lenEq e378.2.length b355.2.2.length).bind fun _=>cond e378.1 (some (.inr e378.2)) (some (.inl e378.2))) (some (.inl b355.2.2)) : Option ((List span_end) ⊕ (List span_end))).bind fun m376=>(match m376 with | .inl b377=>(cond (decide (a309.1 > 0)) ((idx b377 (w64 (a309.1 - 1))).bind fun v405=>(idx b377 b355.1).bind fun v407=>(q1 v405 v407).bind fun r409=>some (!(decide (r409 < 0)))) (some false)).bind fun c389=>cond c389 ((q2m q1 b377 a309.1 a309.2.1 b355.1).bind fun e416=>(lenEq e416.2.length b377.length).bind fun _=>some (.inl (e416.1,a309.2.1,b340.1,a309.2.2.2.1,a309.2.2.2.2.1,e416.2))) ((q3p q1 b377 a309.1 a309.2.1 b355.1).bind fun e421=>(lenEq e421.2.2.length b377.length).bind fun _=>cond (decide ((w64 (e421.1 - a309.1)) < (w64 (a309.2.1 - e421.1)))) ((rec e421.2.2 a309.1 e421.1 b340.1).bind fun e426=>(lenEq e426.length e421.2.2.length).bind fun _=>some (.inl (w64 (e421.1 + 1),a309.2.1,b340.1,decide ((w64 (e421.1 - a309.1)) ≥ (w64 (Int.tdiv (w64 (a309.2.1 - a309.1)) 8))),e421.2.1,e426))) ((rec e421.2.2 (w64 (e421.1 + 1)) a309.2.1 b340.1).bind fun e431=>(lenEq e431.length e421.2.2.length).bind fun _=>some (.inl (a309.1,e421.1,b340.1,decide ((w64 (a309.2.1 - e421.1)) ≥ (w64 (Int.tdiv (w64 (a309.2.1 - a309.1)) 8))),e421.2.1,e431)))) | .inr x1=>some (.inr x1))))
noncomputable def q2i (rec : List span_end→Int→Int→Int→Option (List span_end)) (q1 : span_end→span_end→Option Int) (p0 : List span_end) (p1 : Int) (p2 : Int) (p3 : Int) : Option (List span_end):=
  (loop (q2c q1 rec) (p1,p2,p3,true,true,p0)).bind fun x0=>some x0
noncomputable def q32 : Nat→(span_end→span_end→Option Int)→List span_end→Int→Int→Int→Option (List span_end)
  | 0,_,_,_,_,_=>none
  | n + 1,q1,p0,p1,p2,p3=>q2i (q32 n q1) q1 p0 p1 p2 p3
noncomputable def q2d (q1 : span_end→span_end→Option Int) (p0 : List span_end) : Option (List span_end):=
  (q4w (IntKind.wrap .u64 (p0.length : Int))).bind fun r101=>(lim (fun n=>q32 n q1 p0 0 (p0.length : Int) r101)).bind fun e103=>(lenEq e103.length p0.length).bind fun _=>some e103
noncomputable def q48 (p0 : List span_end) : Option (List span_end):=
  some p0
noncomputable def q5f (v167 : List api_Span) (a142 : Int × List span_end) (a187 : Int × List span_end) : Option ((Int × List span_end) ⊕ (List span_end)):=
  cond (decide (a187.1 < (v167.length : Int))) ((idx v167 a187.1).bind fun v195=>(app 24 a187.2 [({at_:=v195.Lo,list_:=a142.1,by_:=1} : span_end),({at_:=v195.Hi,list_:=a142.1,by_:=(-1)} : span_end)]).bind fun z197=>some (.inl (w64 (a187.1 + 1),z197))) (some (.inr a187.2))
noncomputable def q4f (p0 : List (List api_Span)) (a142 : Int × List span_end) : Option ((Int × List span_end) ⊕ (List span_end)):=
  cond (decide (a142.1 < (p0.length : Int))) (((idx p0 a142.1).bind fun v167=>(loop (q5f v167 a142) (0,a142.2)).bind fun x0=>some x0).bind fun b166=>some (.inl (w64 (a142.1 + 1),b166))) (some (.inr a142.2))
noncomputable def q81 (p0 : List (List api_Span)) : Option (List (List api_Span) × List span_end):=
  (loop (q4f p0) (0,[])).bind fun b145=>(q2d (fun x0 x1=>q8l x0 x1) b145).bind fun e199=>(lenEq e199.length b145.length).bind fun _=>(q48 e199).bind fun e204=>(lenEq e204.length e199.length).bind fun _=>some (p0,e204)
noncomputable def q6y (p0 : Int) (p1 : Bool) (p2 : Int) (p3 : List api_Span) : Option (Bool × Int × List api_Span):=
  (cond (!p1) (some true) (some (p2 == p0))).bind fun c101=>cond c101 (some (p1,p2,p3)) ((cond (decide ((p3.length : Int) > 0)) ((idx p3 (w64 ((p3.length : Int) - 1))).bind fun v120=>some (v120.Hi == p2)) (some false)).bind fun c109=>cond c109 ((idx p3 (w64 ((p3.length : Int) - 1))).bind fun v122=>some (p1,p2,p3.set (w64 ((p3.length : Int) - 1)).toNat ({Lo:=v122.Lo,Hi:=p0} : api_Span))) ((app 16 p3 [({Lo:=p2,Hi:=p0} : api_Span)]).bind fun z124=>some (p1,p2,z124)))
noncomputable def q6f (e1 : List (List api_Span) × List span_end) (p2 : Bool→Bool→Option Bool) (a228 : Int × List Int × Int × Bool × List api_Span) : Option ((Int × List Int × Int × Bool × List api_Span) ⊕ (List api_Span)):=
  cond (decide (a228.1 < (e1.2.length : Int))) ((idx e1.2 a228.1).bind fun v249=>((q6y v249.at_ a228.2.2.2.1 a228.2.2.1 a228.2.2.2.2).bind fun e266=>(idxA 2 a228.2.1 v249.list_).bind fun v268=>(idxA 2 a228.2.1 v249.list_).bind fun _=>(idxA 2 (a228.2.1.set v249.list_.toNat (w64 (v268 + v249.by_))) 0).bind fun v272=>(idxA 2 (a228.2.1.set v249.list_.toNat (w64 (v268 + v249.by_))) 1).bind fun v274=>(p2 (decide (v272 > 0)) (decide (v274 > 0))).bind fun r276=>some (a228.2.1.set v249.list_.toNat (w64 (v268 + v249.by_)),r276,e266.2.2)).bind fun b265=>cond (!true) (some (.inr b265.2.2)) (some (.inl (w64 (a228.1 + 1),b265.1,v249.at_,b265.2.1,b265.2.2)))) (some (.inr a228.2.2.2.2))
noncomputable def q98 (p0 : List api_Span) (p1 : List api_Span) (p2 : Bool→Bool→Option Bool) : Option (List api_Span):=
  (q81 [p0,p1]).bind fun e1=>(lenEq e1.1.length [p0,p1].length).bind fun _=>((loop (q6f e1 p2) (0,[0,0],0,false,[])).bind fun x0=>some x0).bind fun b153=>some b153
noncomputable def q8m (p0 : Bool) (p1 : Bool) : Option Bool:=
  some p0
noncomputable def q99 (p0 : List api_Span) : Option (List api_Span × Int):=
  cond (decide ((p0.length : Int) > 400)) (some ([],4)) ((q3g p0 (fun x0=>qab x0)).bind fun r1=>cond r1 (some ([],8)) ((q98 p0 [] (fun x0 x1=>q8m x0 x1)).bind fun r3=>some (r3,0)))
noncomputable def q4g (p0 : List api_Span) (p1 : List api_Span) (a19 : Int) : Option ((Int) ⊕ ((Unit) ⊕ (Bool))):=
  cond (decide (a19 < (p0.length : Int))) ((idx p0 a19).bind fun v27=>(idx p1 a19).bind fun v29=>cond (!((v27.Lo == v29.Lo) && ((v27.Hi == v29.Hi) && true))) (some (.inr (.inr false))) (some (.inl (w64 (a19 + 1))))) (some (.inr (.inl ())))
noncomputable def q41 (p0 : List api_Span) (p1 : List api_Span) : Option Bool:=
  cond ((p0.length : Int) != (p1.length : Int)) (some false) ((loop (q4g p0 p1) 0 : Option ((Unit) ⊕ (Bool))).bind fun m20=>(match m20 with | .inl _=>some true | .inr x1=>some x1))
noncomputable def q4c (p5 : Int) (a142 : Int × List api_Rect) : Option ((Int × List api_Rect) ⊕ (List api_Rect)):=
  cond (decide (a142.1 < (a142.2.length : Int))) ((idx a142.2 a142.1).bind fun v148=>some (.inl (w64 (a142.1 + 1),a142.2.set a142.1.toNat ({X0:=v148.X0,Y0:=v148.Y0,X1:=p5,Y1:=v148.Y1} : api_Rect)))) (some (.inr a142.2))
noncomputable def q4d (p6 : List api_Span) (p4 : Int) (p5 : Int) (p0 : List api_Rect) (a168 : Int × List api_Rect) : Option ((Int × List api_Rect) ⊕ (List api_Span × Int × Int × List api_Rect)):=
  cond (decide (a168.1 < (p6.length : Int))) ((idx p6 a168.1).bind fun v176=>(app 32 a168.2 [({X0:=p4,Y0:=v176.Lo,X1:=p5,Y1:=v176.Hi} : api_Rect)]).bind fun z178=>some (.inl (w64 (a168.1 + 1),z178))) (some (.inr (p6,(p0.length : Int),p5,a168.2)))
noncomputable def q57 (p0 : List api_Rect) (p1 : List api_Span) (p2 : Int) (p3 : Int) (p4 : Int) (p5 : Int) (p6 : List api_Span) : Option (List api_Span × Int × Int × List api_Rect):=
  (cond (decide ((p6.length : Int) > 0)) (some (p3 == p4)) (some false)).bind fun c101=>(cond c101 ((q41 p1 p6).bind fun r121=>some r121) (some false)).bind fun c112=>cond c112 ((loop (q4c p5) (p2,p0)).bind fun b145=>some (p1,p2,p5,b145)) ((loop (q4d p6 p4 p5 p0) (0,p0)).bind fun x0=>some x0)
noncomputable def q58 (v95 : List api_Rect) (a115 : Int × List Int) : Option ((Int × List Int) ⊕ (List Int)):=
  cond (decide (a115.1 < (v95.length : Int))) ((idx v95 a115.1).bind fun v123=>(app 8 a115.2 [v123.X0,v123.X1]).bind fun z125=>some (.inl (w64 (a115.1 + 1),z125))) (some (.inr a115.2))
noncomputable def q5n (v1341 : List api_Rect) (v1275 : Int) (a1372 : Int × List api_Span) : Option ((Int × List api_Span) ⊕ (List api_Span)):=
  cond (decide (a1372.1 < (v1341.length : Int))) (((idx v1341 a1372.1).bind fun v1391=>(cond (decide (v1391.X0≤v1275)) (some (decide (v1275 < v1391.X1))) (some false)).bind fun c1393=>cond c1393 ((app 16 a1372.2 [({Lo:=v1391.Y0,Hi:=v1391.Y1} : api_Span)]).bind fun z1401=>some z1401) (some a1372.2)).bind fun b1390=>some (.inl (w64 (a1372.1 + 1),b1390))) (some (.inr a1372.2))
noncomputable def q59 (b54 : List Int) (p0 : List api_Rect) (a1199 : Int × List api_Span × Int × Int × List api_Rect) : Option ((Int × List api_Span × Int × Int × List api_Rect) ⊕ (List api_Span × Int × Int × List api_Rect)):=
  cond (decide (a1199.1 < (b54.length : Int))) ((idx b54 (w64 (a1199.1 - 1))).bind fun v1275=>(idx b54 a1199.1).bind fun v1277=>((idx [p0] 0).bind fun v1341=>(loop (q5n v1341 v1275) (0,[])).bind fun x0=>some x0).bind fun b1340=>((q99 b1340).bind fun r1410=>(q57 a1199.2.2.2.2 a1199.2.1 a1199.2.2.1 a1199.2.2.2.1 v1275 v1277 r1410.1).bind fun e1412=>some (e1412.1,e1412.2.1,e1412.2.2.1,e1412.2.2.2)).bind fun b1409=>cond (!true) (some (.inr (b1409.1,b1409.2.1,b1409.2.2.1,b1409.2.2.2))) (some (.inl (w64 (a1199.1 + 1),b1409.1,b1409.2.1,b1409.2.2.1,b1409.2.2.2)))) (some (.inr (a1199.2.1,a1199.2.2.1,a1199.2.2.2.1,a1199.2.2.2.2)))
noncomputable def q8n (p0 : List api_Rect) : Option (List api_Rect × Int):=
  (((idx [p0] 0).bind fun v95=>(loop (q58 v95) (0,[])).bind fun x0=>some x0).bind fun b94=>(q3w b94).bind fun e127=>(lenEq e127.length b94.length).bind fun _=>(q44 e127).bind fun e132=>(lenEq e132.2.length e127.length).bind fun _=>(winOk e132.2.length e132.1).bind fun _=>some ((e132.2.drop e132.1.1).take e132.1.2)).bind fun b54=>((loop (q59 b54 p0) (1,[],0,0,[])).bind fun x0=>some x0).bind fun b846=>(cond (decide ((b846.2.2.2.length : Int) > 400)) (some (4,[])) (some (0,b846.2.2.2))).bind fun b1416=>some (b1416.2,b1416.1)
noncomputable def q45 (p0 : List api_Rect) (p1 : List api_Rect) (a19 : Int) : Option ((Int) ⊕ ((Unit) ⊕ (Bool))):=
  cond (decide (a19 < (p0.length : Int))) ((idx p0 a19).bind fun v27=>(idx p1 a19).bind fun v29=>cond (!((v27.X0 == v29.X0) && ((v27.Y0 == v29.Y0) && ((v27.X1 == v29.X1) && ((v27.Y1 == v29.Y1) && true))))) (some (.inr (.inr false))) (some (.inl (w64 (a19 + 1))))) (some (.inr (.inl ())))
noncomputable def q1u (p0 : List api_Rect) (p1 : List api_Rect) : Option Bool:=
  cond ((p0.length : Int) != (p1.length : Int)) (some false) ((loop (q45 p0 p1) 0 : Option ((Unit) ⊕ (Bool))).bind fun m20=>(match m20 with | .inl _=>some true | .inr x1=>some x1))
noncomputable def q6z (p0 : List api_Rect) : Option Int:=
  cond (decide ((p0.length : Int) > 400)) (some 4) ((q2r p0 (fun x0=>q56 x0)).bind fun r1=>cond r1 (some 8) ((q8n p0).bind fun r3=>(cond (r3.2 != 0) (some true) ((q1u r3.1 p0).bind fun r14=>some (!r14))).bind fun c7=>cond c7 (some 8) (some 0)))
noncomputable def q8e (p0 : Int) : Option Bool:=
  (cond (decide (p0 ≥ (-1000000))) (some (decide (p0≤1000000))) (some false)).bind fun c1=>some c1
def qi (x : api_Box) : List DV:=[.int .i64 x.Lo.X,.int .i64 x.Lo.Y,.int .i64 x.Lo.Z,.int .i64 x.Hi.X,.int .i64 x.Hi.Y,.int .i64 x.Hi.Z]
noncomputable def q70 (p0 : Int) (a125 : Unit) : Option ((Unit) ⊕ (Unit)):=
  cond (decide (p0 < 0)) none (some (.inr ()))
noncomputable def q4o (p4 : List api_Rect) (p2 : Int) (p3 : Int) (a147 : Int × List api_Box) : Option ((Int × List api_Box) ⊕ (List api_Rect × Int × Int × List api_Box)):=
  cond (decide (a147.1 < (p4.length : Int))) ((idx p4 a147.1).bind fun v155=>(app 48 a147.2 [({Lo:=({X:=v155.X0,Y:=v155.Y0,Z:=p2} : q15),Hi:=({X:=v155.X1,Y:=v155.Y1,Z:=p3} : q15)} : api_Box)]).bind fun z157=>some (.inl (w64 (a147.1 + 1),z157))) (some (.inr (p4,0,p3,a147.2)))
noncomputable def q5s (p0 : Int) (p1 : Int) (p2 : Int) (p3 : Int) (p4 : List api_Rect) : Option (List api_Rect × Int × Int × List api_Box):=
  (cond (decide ((p4.length : Int) > 0)) (some (p1 == p2)) (some false)).bind fun c101=>(cond c101 ((q1u [] p4).bind fun r121=>some r121) (some false)).bind fun c112=>cond c112 ((loop (q70 p0) ()).bind fun _=>some ([],p0,p3,[])) ((loop (q4o p4 p2 p3) (0,[])).bind fun x0=>some x0)
noncomputable def q8o (p0 : List api_Rect) (p1 : Int) (p2 : Int) : Option (List api_Box × Int):=
  (q6z p0).bind fun r1=>cond (r1 != 0) (some ([],r1)) ((q8e p1).bind fun r3=>(cond (!r3) (some true) ((q8e p2).bind fun r13=>some (!r13))).bind fun c7=>(cond c7 (some true) (some (decide (p1 ≥ p2)))).bind fun c15=>cond c15 (some ([],2)) ((q5s 0 0 p1 p2 p0).bind fun e21=>(cond (decide ((e21.2.2.2.length : Int) > 400)) (some (4,[])) (some (0,e21.2.2.2))).bind fun b25=>some (b25.2,b25.1)))
noncomputable def qck (p0 : Int) : Option Bool:=
  (cond (decide (p0 ≥ (-1000000))) (some (decide (p0≤1000000))) (some false)).bind fun c1=>some c1
noncomputable def qbv (p0 : api_Rect) : Option Bool:=
  (cond (decide (p0.X0 < p0.X1)) (some (decide (p0.Y0 < p0.Y1))) (some false)).bind fun c1=>(cond c1 ((qck p0.X0).bind fun r17=>some r17) (some false)).bind fun c11=>(cond c11 ((qck p0.X1).bind fun r27=>some r27) (some false)).bind fun c21=>(cond c21 ((qck p0.Y0).bind fun r37=>some r37) (some false)).bind fun c31=>(cond c31 ((qck p0.Y1).bind fun r47=>some r47) (some false)).bind fun c41=>some c41
noncomputable def q60 (a113 : Int × List Int) (p0 : List Int) (a239 : Int) : Option ((Int) ⊕ (Int)):=
  (cond (decide (a239 > 0)) ((idx a113.2 (w64 (a239 - 1))).bind fun v260=>(idx p0 a113.1).bind fun v262=>some (decide (v260 > v262))) (some false)).bind fun c247=>cond c247 (some (.inl (w64 (a239 - 1)))) (some (.inr a239))
noncomputable def q61 (p0 : List Int) (a113 : Int × List Int) : Option ((Int × List Int) ⊕ (List Int)):=
  cond (decide (a113.1 < (p0.length : Int))) (((loop (q60 a113 p0) (a113.2.length : Int)).bind fun b242=>(cond (decide (b242 > 0)) ((idx a113.2 (w64 (b242 - 1))).bind fun v281=>(idx p0 a113.1).bind fun v283=>some (v281 == v283)) (some false)).bind fun c268=>cond c268 (some a113.2) ((app 8 a113.2 [0]).bind fun z285=>(sub2 z285.length (w64 (b242 + 1)) z285.length).bind fun w287=>(sub2 z285.length b242 z285.length).bind fun w289=>(idx p0 a113.1).bind fun v292=>(idx (cpyw z285 w287 ((z285.drop w289.1).take w289.2)) b242).bind fun _=>some ((cpyw z285 w287 ((z285.drop w289.1).take w289.2)).set b242.toNat v292))).bind fun b194=>some (.inl (w64 (a113.1 + 1),b194))) (some (.inr a113.2))
noncomputable def q52 (p0 : List Int) : Option (List Int):=
  (loop (q61 p0) (0,[])).bind fun b116=>some b116
noncomputable def q82 (p0 : List api_Rect) (a27 : Int × List Int) : Option ((Int × List Int) ⊕ (List Int)):=
  cond (decide (a27.1 < (p0.length : Int))) ((idx p0 a27.1).bind fun v37=>(idx p0 a27.1).bind fun v39=>(app 8 a27.2 [v37.X0,v39.X1]).bind fun z41=>some (.inl (w64 (a27.1 + 1),z41))) (some (.inr a27.2))
noncomputable def q83 (p1 : List api_Rect) (a69 : Int × List Int) : Option ((Int × List Int) ⊕ (List Int)):=
  cond (decide (a69.1 < (p1.length : Int))) ((idx p1 a69.1).bind fun v79=>(idx p1 a69.1).bind fun v81=>(app 8 a69.2 [v79.X0,v81.X1]).bind fun z83=>some (.inl (w64 (a69.1 + 1),z83))) (some (.inr a69.2))
noncomputable def qef (p0 : List api_Rect) (p1 : List api_Rect) : Option (List Int):=
  (loop (q82 p0) (0,[])).bind fun b30=>(loop (q83 p1) (0,b30)).bind fun b72=>(q52 b72).bind fun r85=>some r85
noncomputable def q84 (p0 : List api_Rect) (a27 : Int × List Int) : Option ((Int × List Int) ⊕ (List Int)):=
  cond (decide (a27.1 < (p0.length : Int))) ((idx p0 a27.1).bind fun v37=>(idx p0 a27.1).bind fun v39=>(app 8 a27.2 [v37.Y0,v39.Y1]).bind fun z41=>some (.inl (w64 (a27.1 + 1),z41))) (some (.inr a27.2))
noncomputable def q85 (p1 : List api_Rect) (a69 : Int × List Int) : Option ((Int × List Int) ⊕ (List Int)):=
  cond (decide (a69.1 < (p1.length : Int))) ((idx p1 a69.1).bind fun v79=>(idx p1 a69.1).bind fun v81=>(app 8 a69.2 [v79.Y0,v81.Y1]).bind fun z83=>some (.inl (w64 (a69.1 + 1),z83))) (some (.inr a69.2))
noncomputable def qeg (p0 : List api_Rect) (p1 : List api_Rect) : Option (List Int):=
  (loop (q84 p0) (0,[])).bind fun b30=>(loop (q85 p1) (0,b30)).bind fun b72=>(q52 b72).bind fun r85=>some r85
noncomputable def q6n (p0 : List api_Rect) (p1 : Int) (p2 : Int) (a179 : Int) : Option ((Int) ⊕ ((Unit) ⊕ (Bool))):=
  cond (decide (a179 < (p0.length : Int))) ((idx p0 a179).bind fun v227=>(cond (decide (v227.X0≤p1)) ((idx p0 a179).bind fun v241=>some (decide (p1 < v241.X1))) (some false)).bind fun c231=>(cond c231 ((idx p0 a179).bind fun v255=>some (decide (v255.Y0≤p2))) (some false)).bind fun c245=>(cond c245 ((idx p0 a179).bind fun v269=>some (decide (p2 < v269.Y1))) (some false)).bind fun c259=>cond c259 (some (.inr (.inr true))) (some (.inl (w64 (a179 + 1))))) (some (.inr (.inl ())))
noncomputable def qb3 (p0 : List api_Rect) (p1 : Int) (p2 : Int) : Option Bool:=
  (loop (q6n p0 p1 p2) 0 : Option ((Unit) ⊕ (Bool))).bind fun m180=>(match m180 with | .inl _=>some false | .inr x1=>some x1)
noncomputable def q9a (p0 : Int) (p1 : Bool) (p2 : Bool) : Option Bool:=
  cond (p0 == 1) ((cond p1 (some p2) (some false)).bind fun c5=>some c5) (cond (p0 == 2) ((cond p1 (some true) (some p2)).bind fun c13=>some c13) ((cond p1 (some (!p2)) (some false)).bind fun c17=>some c17))
noncomputable def q6g (p0 : List Int) (p1 : List Bool) (a64 : Int × List api_Span) : Option ((Int × List api_Span) ⊕ (List api_Span)):=
  cond (decide ((w64 (a64.1 + 1)) < (p0.length : Int))) (((idx p1 a64.1).bind fun v105=>cond (!v105) (some a64.2) ((cond (decide ((a64.2.length : Int) > 0)) ((idx a64.2 (w64 ((a64.2.length : Int) - 1))).bind fun v125=>(idx p0 a64.1).bind fun v127=>some (v125.Hi == v127)) (some false)).bind fun c111=>cond c111 ((idx p0 (w64 (a64.1 + 1))).bind fun v129=>(idx a64.2 (w64 ((a64.2.length : Int) - 1))).bind fun v131=>some (a64.2.set (w64 ((a64.2.length : Int) - 1)).toNat ({Lo:=v131.Lo,Hi:=v129} : api_Span))) ((idx p0 a64.1).bind fun v133=>(idx p0 (w64 (a64.1 + 1))).bind fun v135=>(app 16 a64.2 [({Lo:=v133,Hi:=v135} : api_Span)]).bind fun z137=>some z137))).bind fun b104=>some (.inl (w64 (a64.1 + 1),b104))) (some (.inr a64.2))
noncomputable def q86 (p0 : List Int) (p1 : List Bool) : Option (List api_Span):=
  (loop (q6g p0 p1) (0,[])).bind fun b67=>some b67
noncomputable def qac (p0 : List api_Span) (p1 : List api_Span) (a19 : Int) : Option ((Int) ⊕ ((Unit) ⊕ (Bool))):=
  cond (decide (a19 < (p0.length : Int))) ((idx p0 a19).bind fun v27=>(idx p1 a19).bind fun v29=>cond (!((v27.Lo == v29.Lo) && ((v27.Hi == v29.Hi) && true))) (some (.inr (.inr false))) (some (.inl (w64 (a19 + 1))))) (some (.inr (.inl ())))
noncomputable def q9x (p0 : List api_Span) (p1 : List api_Span) : Option Bool:=
  cond ((p0.length : Int) != (p1.length : Int)) (some false) ((loop (qac p0 p1) 0 : Option ((Unit) ⊕ (Bool))).bind fun m20=>(match m20 with | .inl _=>some true | .inr x1=>some x1))
noncomputable def q62 (r3 : List Int) (r1 : List Int) (a451 : List api_Span × Int × Int × List api_Rect) (p1 : List api_Rect) (p2 : List api_Rect) (p0 : Int) (a675 : Int × List Bool) : Option ((Int × List Bool) ⊕ (List Bool)):=
  cond (decide (a675.1 < (r3.length : Int))) ((idx r1 a451.2.2.1).bind fun v695=>(idx r3 a675.1).bind fun v697=>(qb3 p1 v695 v697).bind fun r699=>(idx r1 a451.2.2.1).bind fun v701=>(idx r3 a675.1).bind fun v703=>(qb3 p2 v701 v703).bind fun r705=>(q9a p0 r699 r705).bind fun r707=>(app 1 a675.2 [r707]).bind fun z709=>some (.inl (w64 (a675.1 + 1),z709))) (some (.inr a675.2))
noncomputable def q63 (r1 : List Int) (a451 : List api_Span × Int × Int × List api_Rect) (a758 : Int × List api_Rect) : Option ((Int × List api_Rect) ⊕ (List api_Rect)):=
  cond (decide (a758.1 < (a758.2.length : Int))) ((idx r1 (w64 (a451.2.2.1 + 1))).bind fun v766=>(idx a758.2 a758.1).bind fun v768=>some (.inl (w64 (a758.1 + 1),a758.2.set a758.1.toNat ({X0:=v768.X0,Y0:=v768.Y0,X1:=v766,Y1:=v768.Y1} : api_Rect)))) (some (.inr a758.2))
noncomputable def q6l (r711 : List api_Span) (r1 : List Int) (a451 : List api_Span × Int × Int × List api_Rect) (a812 : Int × List api_Rect) : Option ((Int × List api_Rect) ⊕ (List api_Span × Int × List api_Rect)):=
  cond (decide (a812.1 < (r711.length : Int))) ((idx r1 a451.2.2.1).bind fun v826=>(idx r711 a812.1).bind fun v828=>(idx r1 (w64 (a451.2.2.1 + 1))).bind fun v830=>(idx r711 a812.1).bind fun v832=>(app 32 a812.2 [({X0:=v826,Y0:=v828.Lo,X1:=v830,Y1:=v832.Hi} : api_Rect)]).bind fun z834=>some (.inl (w64 (a812.1 + 1),z834))) (some (.inr (r711,(a451.2.2.2.length : Int),a812.2)))
noncomputable def q5j (r1 : List Int) (r3 : List Int) (p1 : List api_Rect) (p2 : List api_Rect) (p0 : Int) (a451 : List api_Span × Int × Int × List api_Rect) : Option ((List api_Span × Int × Int × List api_Rect) ⊕ (List api_Rect)):=
  cond (decide ((w64 (a451.2.2.1 + 1)) < (r1.length : Int))) (((loop (q62 r3 r1 a451 p1 p2 p0) (0,[])).bind fun b678=>(q86 r3 b678).bind fun r711=>(cond (decide (a451.2.2.1 > 0)) ((q9x r711 a451.1).bind fun r721=>some r721) (some false)).bind fun c715=>cond c715 ((loop (q63 r1 a451) (a451.2.1,a451.2.2.2)).bind fun b761=>some (a451.1,a451.2.1,b761)) ((loop (q6l r711 r1 a451) (0,a451.2.2.2)).bind fun x0=>some x0)).bind fun b608=>some (.inl (b608.1,b608.2.1,w64 (a451.2.2.1 + 1),b608.2.2))) (some (.inr a451.2.2.2))
noncomputable def q5g (p0 : Int) (p1 : List api_Rect) (p2 : List api_Rect) : Option (List api_Rect):=
  (qef p1 p2).bind fun r1=>(qeg p1 p2).bind fun r3=>(loop (q5j r1 r3 p1 p2 p0) ([],0,0,[])).bind fun b454=>some b454
noncomputable def q7a (p0 : List api_Rect) (p1 : List api_Rect) (a19 : Int) : Option ((Int) ⊕ ((Unit) ⊕ (Bool))):=
  cond (decide (a19 < (p0.length : Int))) ((idx p0 a19).bind fun v27=>(idx p1 a19).bind fun v29=>cond (!((v27.X0 == v29.X0) && ((v27.Y0 == v29.Y0) && ((v27.X1 == v29.X1) && ((v27.Y1 == v29.Y1) && true))))) (some (.inr (.inr false))) (some (.inl (w64 (a19 + 1))))) (some (.inr (.inl ())))
noncomputable def q64 (p0 : List api_Rect) (p1 : List api_Rect) : Option Bool:=
  cond ((p0.length : Int) != (p1.length : Int)) (some false) ((loop (q7a p0 p1) 0 : Option ((Unit) ⊕ (Bool))).bind fun m20=>(match m20 with | .inl _=>some true | .inr x1=>some x1))
noncomputable def q6h (p0 : List api_Rect) (a19 : Int) : Option ((Int) ⊕ ((Unit) ⊕ (Int))):=
  cond (decide (a19 < (p0.length : Int))) ((idx p0 a19).bind fun v27=>(qbv v27).bind fun r29=>cond (!r29) (some (.inr (.inr 8))) (some (.inl (w64 (a19 + 1))))) (some (.inr (.inl ())))
noncomputable def q76 (p0 : List api_Rect) : Option Int:=
  cond (decide ((p0.length : Int) > 400)) (some 4) ((loop (q6h p0) 0 : Option ((Unit) ⊕ (Int))).bind fun m20=>(match m20 with | .inl _=>(q5g 2 p0 []).bind fun r31=>(q64 r31 p0).bind fun r33=>cond (!r33) (some 8) (some 0) | .inr x1=>some x1))
noncomputable def q71 (p0 : List api_Rect) (p1 : Int) (p2 : Int) (a43 : Int × List api_Box) : Option ((Int × List api_Box) ⊕ (List api_Box)):=
  cond (decide (a43.1 < (p0.length : Int))) ((idx p0 a43.1).bind fun v57=>(idx p0 a43.1).bind fun v59=>(idx p0 a43.1).bind fun v61=>(idx p0 a43.1).bind fun v63=>(app 48 a43.2 [({Lo:=({X:=v57.X0,Y:=v59.Y0,Z:=p1} : q15),Hi:=({X:=v61.X1,Y:=v63.Y1,Z:=p2} : q15)} : api_Box)]).bind fun z65=>some (.inl (w64 (a43.1 + 1),z65))) (some (.inr a43.2))
noncomputable def q9b (p0 : List api_Rect) (p1 : Int) (p2 : Int) : Option (List api_Box):=
  (loop (q71 p0 p1 p2) (0,[])).bind fun b46=>some b46
noncomputable def qaj (p0 : List api_Rect) (p1 : Int) (p2 : Int) : Option (List api_Box × Int):=
  (q76 p0).bind fun r1=>cond (r1 != 0) ((q76 p0).bind fun r5=>some ([],r5)) ((cond (decide (p1 < (-1000000))) (some true) (some (decide (p1 > 1000000)))).bind fun c7=>(cond c7 (some true) (some (decide (p2 < (-1000000))))).bind fun c12=>(cond c12 (some true) (some (decide (p2 > 1000000)))).bind fun c17=>(cond c17 (some true) (some (decide (p1 ≥ p2)))).bind fun c22=>cond c22 (some ([],2)) ((q9b p0 p1 p2).bind fun r28=>some (r28,0)))
noncomputable def q1f (p0 : List qs) (p1 : qs→Option Bool) (a19 : Int) : Option ((Int) ⊕ ((Unit) ⊕ (Int))):=
  cond (decide (a19 < (p0.length : Int))) ((idx p0 a19).bind fun v27=>(p1 v27).bind fun r29=>cond r29 (some (.inr (.inr a19))) (some (.inl (w64 (a19 + 1))))) (some (.inr (.inl ())))
noncomputable def q3z (p0 : List qs) (p1 : qs→Option Bool) : Option Int:=
  (loop (q1f p0 p1) 0 : Option ((Unit) ⊕ (Int))).bind fun m20=>(match m20 with | .inl _=>some (-1) | .inr x1=>some x1)
noncomputable def q2g (p0 : List qs) (p1 : qs→Option Bool) : Option Bool:=
  (q3z p0 p1).bind fun r1=>some (decide (r1 ≥ 0))
noncomputable def q53 (p0 : qs) : Option Bool:=
  (cond (decide (p0.Height < 1)) (some true) (some (decide (p0.Height > 1000000)))).bind fun c1=>some c1
noncomputable def q4p (p5 : Int) (a142 : Int × List api_Box) : Option ((Int × List api_Box) ⊕ (List api_Box)):=
  cond (decide (a142.1 < (a142.2.length : Int))) ((idx a142.2 a142.1).bind fun v148=>some (.inl (w64 (a142.1 + 1),a142.2.set a142.1.toNat ({Lo:=v148.Lo,Hi:=({X:=v148.Hi.X,Y:=v148.Hi.Y,Z:=p5} : q15)} : api_Box)))) (some (.inr a142.2))
noncomputable def q4q (p6 : List api_Rect) (p4 : Int) (p5 : Int) (p0 : List api_Box) (a168 : Int × List api_Box) : Option ((Int × List api_Box) ⊕ (List api_Rect × Int × Int × List api_Box)):=
  cond (decide (a168.1 < (p6.length : Int))) ((idx p6 a168.1).bind fun v176=>(app 48 a168.2 [({Lo:=({X:=v176.X0,Y:=v176.Y0,Z:=p4} : q15),Hi:=({X:=v176.X1,Y:=v176.Y1,Z:=p5} : q15)} : api_Box)]).bind fun z178=>some (.inl (w64 (a168.1 + 1),z178))) (some (.inr (p6,(p0.length : Int),p5,a168.2)))
noncomputable def q5t (p0 : List api_Box) (p1 : List api_Rect) (p2 : Int) (p3 : Int) (p4 : Int) (p5 : Int) (p6 : List api_Rect) : Option (List api_Rect × Int × Int × List api_Box):=
  (cond (decide ((p6.length : Int) > 0)) (some (p3 == p4)) (some false)).bind fun c101=>(cond c101 ((q1u p1 p6).bind fun r121=>some r121) (some false)).bind fun c112=>cond c112 ((loop (q4p p5) (p2,p0)).bind fun b145=>some (p1,p2,p5,b145)) ((loop (q4q p6 p4 p5 p0) (0,p0)).bind fun x0=>some x0)
noncomputable def q4n (p0 : List qs) (a19 : Int) : Option ((Int) ⊕ ((Unit) ⊕ (List api_Box × Int))):=
  cond (decide (a19 < (p0.length : Int))) ((idx p0 a19).bind fun v27=>(q6z v27.Region).bind fun r29=>cond (r29 != 0) (some (.inr (.inr ([],r29)))) (some (.inl (w64 (a19 + 1))))) (some (.inr (.inl ())))
noncomputable def q4e (p0 : List qs) (a60 : Int × Int × List api_Rect × Int × Int × List api_Box) : Option ((Int × Int × List api_Rect × Int × Int × List api_Box) ⊕ ((List api_Rect × Int × Int × List api_Box) ⊕ (List api_Box × Int))):=
  cond (decide (a60.2.1 < (p0.length : Int))) ((idx p0 a60.2.1).bind fun v68=>cond (decide ((w64 (a60.1 + v68.Height)) > 1000000)) (some (.inr (.inr ([],16)))) ((q5t a60.2.2.2.2.2 a60.2.2.1 a60.2.2.2.1 a60.2.2.2.2.1 a60.1 (w64 (a60.1 + v68.Height)) v68.Region).bind fun e70=>some (.inl (w64 (a60.1 + v68.Height),w64 (a60.2.1 + 1),e70.1,e70.2.1,e70.2.2.1,e70.2.2.2)))) (some (.inr (.inl (a60.2.2.1,a60.2.2.2.1,a60.2.2.2.2.1,a60.2.2.2.2.2))))
noncomputable def q8p (p0 : List qs) (p1 : Int) : Option (List api_Box × Int):=
  cond (decide ((p0.length : Int) > 100)) (some ([],4)) ((loop (q4n p0) 0 : Option ((Unit) ⊕ (List api_Box × Int))).bind fun m20=>(match m20 with | .inl _=>(q8e p1).bind fun r31=>(cond (!r31) (some true) ((q2g p0 (fun x0=>q53 x0)).bind fun r40=>some r40)).bind fun c35=>cond c35 (some ([],2)) ((loop (q4e p0) (p1,0,[],0,0,[]) : Option ((List api_Rect × Int × Int × List api_Box) ⊕ (List api_Box × Int))).bind fun m61=>(match m61 with | .inl b63=>(cond (decide ((b63.2.2.2.length : Int) > 400)) (some (4,[])) (some (0,b63.2.2.2))).bind fun b74=>some (b74.2,b74.1) | .inr x1=>some x1)) | .inr x1=>some x1))
noncomputable def q6r (p0 : List api_Box) (a27 : Int × List Int) : Option ((Int × List Int) ⊕ (List Int)):=
  cond (decide (a27.1 < (p0.length : Int))) ((idx p0 a27.1).bind fun v37=>(idx p0 a27.1).bind fun v39=>(app 8 a27.2 [v37.Lo.Z,v39.Hi.Z]).bind fun z41=>some (.inl (w64 (a27.1 + 1),z41))) (some (.inr a27.2))
noncomputable def q6s (p1 : List api_Box) (a69 : Int × List Int) : Option ((Int × List Int) ⊕ (List Int)):=
  cond (decide (a69.1 < (p1.length : Int))) ((idx p1 a69.1).bind fun v79=>(idx p1 a69.1).bind fun v81=>(app 8 a69.2 [v79.Lo.Z,v81.Hi.Z]).bind fun z83=>some (.inl (w64 (a69.1 + 1),z83))) (some (.inr a69.2))
noncomputable def qbb (p0 : List api_Box) (p1 : List api_Box) : Option (List Int):=
  (loop (q6r p0) (0,[])).bind fun b30=>(loop (q6s p1) (0,b30)).bind fun b72=>(q52 b72).bind fun r85=>some r85
noncomputable def q9c (p0 : List api_Box) (p1 : Int) (a60 : Int × List api_Rect) : Option ((Int × List api_Rect) ⊕ (List api_Rect)):=
  cond (decide (a60.1 < (p0.length : Int))) (((idx p0 a60.1).bind fun v94=>(cond (decide (v94.Lo.Z≤p1)) ((idx p0 a60.1).bind fun v109=>some (decide (p1 < v109.Hi.Z))) (some false)).bind fun c98=>cond c98 ((idx p0 a60.1).bind fun v111=>(idx p0 a60.1).bind fun v113=>(idx p0 a60.1).bind fun v115=>(idx p0 a60.1).bind fun v117=>(app 32 a60.2 [({X0:=v111.Lo.X,Y0:=v113.Lo.Y,X1:=v115.Hi.X,Y1:=v117.Hi.Y} : api_Rect)]).bind fun z119=>some z119) (some a60.2)).bind fun b93=>some (.inl (w64 (a60.1 + 1),b93))) (some (.inr a60.2))
noncomputable def q8q (p0 : List api_Box) (p1 : Int) : Option (List api_Rect):=
  (loop (q9c p0 p1) (0,[])).bind fun b63=>some b63
noncomputable def q65 (r1 : List Int) (a473 : List api_Rect × Int × Int × List api_Box) (a741 : Int × List api_Box) : Option ((Int × List api_Box) ⊕ (List api_Box)):=
  cond (decide (a741.1 < (a741.2.length : Int))) ((idx r1 (w64 (a473.2.2.1 + 1))).bind fun v749=>(idx a741.2 a741.1).bind fun v751=>some (.inl (w64 (a741.1 + 1),a741.2.set a741.1.toNat ({Lo:=v751.Lo,Hi:=({X:=v751.Hi.X,Y:=v751.Hi.Y,Z:=v749} : q15)} : api_Box)))) (some (.inr a741.2))
noncomputable def q6m (r646 : List api_Rect) (r1 : List Int) (a473 : List api_Rect × Int × Int × List api_Box) (a811 : Int × List api_Box) : Option ((Int × List api_Box) ⊕ (List api_Rect × Int × List api_Box)):=
  cond (decide (a811.1 < (r646.length : Int))) ((idx r646 a811.1).bind fun v829=>(idx r646 a811.1).bind fun v831=>(idx r1 a473.2.2.1).bind fun v833=>(idx r646 a811.1).bind fun v835=>(idx r646 a811.1).bind fun v837=>(idx r1 (w64 (a473.2.2.1 + 1))).bind fun v839=>(app 48 a811.2 [({Lo:=({X:=v829.X0,Y:=v831.Y0,Z:=v833} : q15),Hi:=({X:=v835.X1,Y:=v837.Y1,Z:=v839} : q15)} : api_Box)]).bind fun z841=>some (.inl (w64 (a811.1 + 1),z841))) (some (.inr (r646,(a473.2.2.2.length : Int),a811.2)))
noncomputable def q5k (r1 : List Int) (p1 : List api_Box) (p2 : List api_Box) (p0 : Int) (a473 : List api_Rect × Int × Int × List api_Box) : Option ((List api_Rect × Int × Int × List api_Box) ⊕ ((List api_Box) ⊕ (List api_Box × Bool))):=
  cond (decide ((w64 (a473.2.2.1 + 1)) < (r1.length : Int))) (((idx r1 a473.2.2.1).bind fun v638=>(q8q p1 v638).bind fun r640=>(idx r1 a473.2.2.1).bind fun v642=>(q8q p2 v642).bind fun r644=>(q5g p0 r640 r644).bind fun r646=>(cond (decide ((r646.length : Int) > 400)) (some true) ((idx r1 a473.2.2.1).bind fun v666=>(q8q p1 v666).bind fun r668=>(q5g 2 r668 []).bind fun r670=>some (decide ((r670.length : Int) > 400)))).bind fun c654=>(cond c654 (some true) ((idx r1 a473.2.2.1).bind fun v690=>(q8q p2 v690).bind fun r692=>(q5g 2 r692 []).bind fun r694=>some (decide ((r694.length : Int) > 400)))).bind fun c678=>cond c678 (some (.inr ([],false))) ((cond (decide (a473.2.2.1 > 0)) ((q64 r646 a473.1).bind fun r704=>some r704) (some false)).bind fun c698=>cond c698 ((loop (q65 r1 a473) (a473.2.1,a473.2.2.2)).bind fun b744=>some (.inl (a473.1,a473.2.1,b744))) ((loop (q6m r646 r1 a473) (0,a473.2.2.2)).bind fun x0=>some (.inl x0))) : Option ((List api_Rect × Int × List api_Box) ⊕ (List api_Box × Bool))).bind fun m636=>(match m636 with | .inl b637=>some (.inl (b637.1,b637.2.1,w64 (a473.2.2.1 + 1),b637.2.2)) | .inr x1=>some (.inr (.inr x1)))) (some (.inr (.inl a473.2.2.2)))
noncomputable def q8f (p0 : Int) (p1 : List api_Box) (p2 : List api_Box) : Option (List api_Box × Bool):=
  (qbb p1 p2).bind fun r1=>(loop (q5k r1 p1 p2 p0) ([],0,0,[]) : Option ((List api_Box) ⊕ (List api_Box × Bool))).bind fun m474=>(match m474 with | .inl b476=>some (b476,decide ((b476.length : Int)≤400)) | .inr x1=>some x1)
noncomputable def q4s (p0 : List qs) (a35 : Int) : Option ((Int) ⊕ ((Unit) ⊕ (List api_Box × Int))):=
  cond (decide (a35 < (p0.length : Int))) ((idx p0 a35).bind fun v47=>(q76 v47.Region).bind fun r49=>cond (r49 != 0) ((idx p0 a35).bind fun v51=>(q76 v51.Region).bind fun r53=>some (.inr (.inr ([],r53)))) (some (.inl (w64 (a35 + 1))))) (some (.inr (.inl ())))
noncomputable def q5u (p0 : List qs) (a122 : Int) : Option ((Int) ⊕ ((Unit) ⊕ (List api_Box × Int))):=
  cond (decide (a122 < (p0.length : Int))) ((idx p0 a122).bind fun v141=>(cond (decide (v141.Height < 1)) (some true) ((idx p0 a122).bind fun v154=>some (decide (v154.Height > 1000000)))).bind fun c145=>cond c145 (some (.inr (.inr ([],2)))) (some (.inl (w64 (a122 + 1))))) (some (.inr (.inl ())))
noncomputable def q4t (p0 : List qs) (a199 : Int × Int × List api_Box) : Option ((Int × Int × List api_Box) ⊕ ((List api_Box) ⊕ (List api_Box × Int))):=
  cond (decide (a199.2.1 < (p0.length : Int))) ((idx p0 a199.2.1).bind fun v215=>cond (decide ((w64 (a199.1 + v215.Height)) > 1000000)) (some (.inr (.inr ([],16)))) ((idx p0 a199.2.1).bind fun v217=>(idx p0 a199.2.1).bind fun v219=>(q9b v217.Region a199.1 (w64 (a199.1 + v219.Height))).bind fun r221=>(app 48 a199.2.2 r221).bind fun z223=>(idx p0 a199.2.1).bind fun v225=>some (.inl (w64 (a199.1 + v225.Height),w64 (a199.2.1 + 1),z223)))) (some (.inr (.inl a199.2.2)))
noncomputable def qak (p0 : List qs) (p1 : Int) : Option (List api_Box × Int):=
  cond (decide ((p0.length : Int) > 100)) (some ([],4)) ((loop (q4s p0) 0 : Option ((Unit) ⊕ (List api_Box × Int))).bind fun m36=>(match m36 with | .inl _=>(cond (decide (p1 < (-1000000))) (some true) (some (decide (p1 > 1000000)))).bind fun c55=>cond c55 (some ([],2)) ((loop (q5u p0) 0 : Option ((Unit) ⊕ (List api_Box × Int))).bind fun m123=>(match m123 with | .inl _=>(loop (q4t p0) (p1,0,[]) : Option ((List api_Box) ⊕ (List api_Box × Int))).bind fun m200=>(match m200 with | .inl b202=>(q8f 2 b202 []).bind fun r227=>cond (decide ((r227.1.length : Int) > 400)) (some ([],4)) (some (r227.1,0)) | .inr x1=>some x1) | .inr x1=>some x1)) | .inr x1=>some x1))
noncomputable def q7b (p0 : List api_Box) (p1 : List api_Box) (a19 : Int) : Option ((Int) ⊕ ((Unit) ⊕ (Bool))):=
  cond (decide (a19 < (p0.length : Int))) ((idx p0 a19).bind fun v27=>(idx p1 a19).bind fun v29=>cond (!((v27.Lo.X == v29.Lo.X) && ((v27.Lo.Y == v29.Lo.Y) && ((v27.Lo.Z == v29.Lo.Z) && ((v27.Hi.X == v29.Hi.X) && ((v27.Hi.Y == v29.Hi.Y) && ((v27.Hi.Z == v29.Hi.Z) && true))))))) (some (.inr (.inr false))) (some (.inl (w64 (a19 + 1))))) (some (.inr (.inl ())))
noncomputable def q7g (p0 : List api_Box) (p1 : List api_Box) : Option Bool:=
  cond ((p0.length : Int) != (p1.length : Int)) (some false) ((loop (q7b p0 p1) 0 : Option ((Unit) ⊕ (Bool))).bind fun m20=>(match m20 with | .inl _=>some true | .inr x1=>some x1))
noncomputable def q7s (p0 : List api_Rect) (p1 : Int) (p2 : Int) (p3 : List qs) : Option Bool:=
  (qah p0).bind fun r1=>(cond r1 (some true) ((qai p3).bind fun r10=>some r10)).bind fun c5=>cond c5 (some true) ((q8o p0 p1 p2).bind fun r12=>(qaj p0 p1 p2).bind fun r14=>(q8p p3 p1).bind fun r16=>(qak p3 p1).bind fun r18=>(q7g r12.1 r14.1).bind fun r20=>(cond r20 (some (r12.2 == r14.2)) (some false)).bind fun c22=>(cond c22 ((q7g r16.1 r18.1).bind fun r36=>some r36) (some false)).bind fun c30=>(cond c30 (some (r16.2 == r18.2)) (some false)).bind fun c38=>some c38)
end Go.Sh
namespace Go.Sh
open Go Go.Am
noncomputable def q66 (p0 : List api_Span) (a211 : Int) : Option ((Int) ⊕ ((Unit) ⊕ (Int))):=
  cond (decide (a211 < (p0.length : Int))) ((idx p0 a211).bind fun v267=>(span_valid v267).bind fun r269=>(cond (!r269) (some true) ((cond (decide (a211 > 0)) ((idx p0 (w64 (a211 - 1))).bind fun v317=>some (decide (v317.Hi ≥ v267.Lo))) (some false)).bind fun c305=>some c305)).bind fun c287=>cond c287 (some (.inr (.inr 8))) (some (.inl (w64 (a211 + 1))))) (some (.inr (.inl ())))
noncomputable def qaw (p0 : List api_Span) : Option Int:=
  cond (decide ((p0.length : Int) > 400)) (some 4) ((loop (q66 p0) 0 : Option ((Unit) ⊕ (Int))).bind fun m212=>(match m212 with | .inl _=>some 0 | .inr x1=>some x1))
noncomputable def qj5 (p0 : api_Span) : Option Bool:=
  (cond (decide (p0.Lo < p0.Hi)) (some (decide (p0.Lo ≥ (-1000000)))) (some false)).bind fun c1=>(cond c1 (some (decide (p0.Hi≤1000000))) (some false)).bind fun c7=>some c7
noncomputable def qbc (p0 : List api_Span) (a279 : Int) : Option ((Int) ⊕ ((Unit) ⊕ (Int))):=
  cond (decide (a279 < (p0.length : Int))) ((idx p0 a279).bind fun v352=>(qj5 v352).bind fun r354=>(cond (!r354) (some true) ((cond (decide (a279 > 0)) ((idx p0 (w64 (a279 - 1))).bind fun v417=>(idx p0 a279).bind fun v419=>some (decide (v417.Hi ≥ v419.Lo))) (some false)).bind fun c402=>some c402)).bind fun c379=>cond c379 (some (.inr (.inr 8))) (some (.inl (w64 (a279 + 1))))) (some (.inr (.inl ())))
noncomputable def qbw (p0 : List api_Span) : Option Int:=
  cond (decide ((p0.length : Int) > 400)) (some 4) ((loop (qbc p0) 0 : Option ((Unit) ⊕ (Int))).bind fun m280=>(match m280 with | .inl _=>some 0 | .inr x1=>some x1))
noncomputable def q8r (p0 : List api_Span) (a27 : Int × List Int) : Option ((Int × List Int) ⊕ (List Int)):=
  cond (decide (a27.1 < (p0.length : Int))) ((idx p0 a27.1).bind fun v37=>(idx p0 a27.1).bind fun v39=>(app 8 a27.2 [v37.Lo,v39.Hi]).bind fun z41=>some (.inl (w64 (a27.1 + 1),z41))) (some (.inr a27.2))
noncomputable def qg0 (p1 : List api_Span) (a69 : Int × List Int) : Option ((Int × List Int) ⊕ (List Int)):=
  cond (decide (a69.1 < (p1.length : Int))) ((idx p1 a69.1).bind fun v79=>(idx p1 a69.1).bind fun v81=>(app 8 a69.2 [v79.Lo,v81.Hi]).bind fun z83=>some (.inl (w64 (a69.1 + 1),z83))) (some (.inr a69.2))
noncomputable def qgl (p0 : List api_Span) (p1 : List api_Span) : Option (List Int):=
  (loop (q8r p0) (0,[])).bind fun b30=>(loop (qg0 p1) (0,b30)).bind fun b72=>(q52 b72).bind fun r85=>some r85
noncomputable def q9j (p0 : List api_Span) (p1 : Int) (a67 : Int) : Option ((Int) ⊕ ((Unit) ⊕ (Bool))):=
  cond (decide (a67 < (p0.length : Int))) ((idx p0 a67).bind fun v87=>(cond (decide (v87.Lo≤p1)) ((idx p0 a67).bind fun v101=>some (decide (p1 < v101.Hi))) (some false)).bind fun c91=>cond c91 (some (.inr (.inr true))) (some (.inl (w64 (a67 + 1))))) (some (.inr (.inl ())))
noncomputable def qf7 (p0 : List api_Span) (p1 : Int) : Option Bool:=
  (loop (q9j p0 p1) 0 : Option ((Unit) ⊕ (Bool))).bind fun m68=>(match m68 with | .inl _=>some false | .inr x1=>some x1)
noncomputable def q7h (r1 : List Int) (p1 : List api_Span) (p2 : List api_Span) (p0 : Int) (a53 : Int × List Bool) : Option ((Int × List Bool) ⊕ (List Bool)):=
  cond (decide (a53.1 < (r1.length : Int))) ((idx r1 a53.1).bind fun v69=>(qf7 p1 v69).bind fun r71=>(idx r1 a53.1).bind fun v73=>(qf7 p2 v73).bind fun r75=>(q9a p0 r71 r75).bind fun r77=>(app 1 a53.2 [r77]).bind fun z79=>some (.inl (w64 (a53.1 + 1),z79))) (some (.inr a53.2))
noncomputable def qax (p0 : Int) (p1 : List api_Span) (p2 : List api_Span) : Option (List api_Span):=
  (qgl p1 p2).bind fun r1=>(loop (q7h r1 p1 p2 p0) (0,[])).bind fun b56=>(q86 r1 b56).bind fun r81=>some r81
noncomputable def q72 (p0 : List api_Span) (a13 : Int × Int) : Option ((Int × Int) ⊕ (Int)):=
  cond (decide (a13.2 < (p0.length : Int))) ((idx p0 a13.2).bind fun v19=>some (.inl (w64 (a13.1 + (w64 (v19.Hi - v19.Lo))),w64 (a13.2 + 1)))) (some (.inr a13.1))
noncomputable def qg1 (p0 : List api_Span) : Option (Int × Int):=
  (qaw p0).bind fun r1=>cond (r1 != 0) (some (0,r1)) ((loop (q72 p0) (0,0)).bind fun b16=>some (b16,0))
noncomputable def q7i (p0 : List api_Span) (a25 : Int × Int) : Option ((Int × Int) ⊕ (Int)):=
  cond (decide (a25.2 < (p0.length : Int))) ((idx p0 a25.2).bind fun v33=>(idx p0 a25.2).bind fun v35=>some (.inl (w64 ((w64 (a25.1 + v33.Hi)) - v35.Lo),w64 (a25.2 + 1)))) (some (.inr a25.1))
noncomputable def qhj (p0 : List api_Span) : Option (Int × Int):=
  (qbw p0).bind fun r1=>cond (r1 != 0) ((qbw p0).bind fun r5=>some (0,r5)) ((loop (q7i p0) (0,0)).bind fun b28=>some (b28,0))
end Go.Sh
namespace Go.Sh
open Go Go.Am
def has (s : List api_Span) (x : Int) : Prop:=∃ t∈s,t.Lo≤x∧x < t.Hi
def Can (s : List api_Span) : Prop:=(∀ t∈s,t.Lo < t.Hi)∧s.Pairwise (fun a b=>a.Hi < b.Lo)
def vld (t : api_Span) : Prop:=t.Lo < t.Hi∧-1000000≤t.Lo∧t.Hi≤1000000
instance (t : api_Span) : Decidable (vld t):=by unfold vld;exact inferInstance
def Good (s : List api_Span) : Prop:=(∀ t∈s,vld t)∧s.Pairwise (fun a b=>a.Hi < b.Lo)
theorem Good.can {s : List api_Span} (h : Good s) : Can s:=⟨fun t ht=>(h.1 t ht).1,h.2⟩
theorem q9y (x : Int) : ¬ has [] x:=by rintro ⟨t,h,_⟩;cases h
theorem q5h {a : api_Span} {s : List api_Span} {x : Int} : has (a::s) x↔(a.Lo≤x∧x < a.Hi)∨has s x:=by
  constructor
  · rintro ⟨t,ht,h⟩
    rcases List.mem_cons.1 ht with rfl | ht
    · exact .inl h
    · exact .inr ⟨t,ht,h⟩
  · rintro (h | ⟨t,ht,h⟩)
    · exact ⟨a,by simp,h⟩
    · exact ⟨t,by simp [ht],h⟩
theorem qnu {a b : List api_Span} {x : Int} : has (a ++ b) x↔has a x∨has b x:=by
  induction a with
  | nil=>simp [q9y]
  | cons t r ih=>simp only [List.cons_append,q5h,ih,or_assoc]
theorem Can.tail {a : api_Span} {s : List api_Span} (h : Can (a::s)) : Can s:=⟨fun t ht=>h.1 t (by simp [ht]),(List.pairwise_cons.1 h.2).2⟩
theorem Can.lt {a : api_Span} {s : List api_Span} (h : Can (a::s)) : ∀ t∈s,a.Hi < t.Lo:=(List.pairwise_cons.1 h.2).1
theorem Can.tail_gt {a : api_Span} {s : List api_Span} (h : Can (a::s)) {x : Int} (hx : has s x) : a.Hi < x:=by
  obtain ⟨t,ht,h1,h2⟩:=hx
  have:=h.lt t ht
  omega
theorem qd3 : ∀ {s t : List api_Span},Can s→Can t→(∀ x,has s x↔has t x)→s = t
  | [],[],_,_,_=>rfl
  | [],b::t,_,ht,h=>absurd ((h b.Lo).2 (q5h.2 (.inl ⟨Int.le_refl _,ht.1 b (by simp)⟩))) (q9y _)
  | a::s,[],hs,_,h=>absurd ((h a.Lo).1 (q5h.2 (.inl ⟨Int.le_refl _,hs.1 a (by simp)⟩))) (q9y _)
  | a::s,b::t,hs,ht,h=>by
    have ha:=hs.1 a (by simp)
    have hb:=ht.1 b (by simp)
    have lo : ∀ {a b : api_Span} {s t : List api_Span},Can (a::s)→Can (b::t)→(∀ x,has (a::s) x↔has (b::t) x)→b.Lo≤a.Lo:=by
      intro a b s t hs ht h
      rcases q5h.1 ((h a.Lo).1 (q5h.2 (.inl ⟨Int.le_refl _,hs.1 a (by simp)⟩))) with h1 | h1
      · exact h1.1
      · have:=ht.tail_gt h1;have:=ht.1 b (by simp);omega
    have e1 : a.Lo = b.Lo:=Int.le_antisymm (lo ht hs fun x=>(h x).symm) (lo hs ht h)
    have hi : ∀ {a b : api_Span} {s t : List api_Span},Can (a::s)→Can (b::t)→(∀ x,has (a::s) x↔has (b::t) x)→a.Lo = b.Lo→b.Hi≤a.Hi:=by
      intro a b s t hs ht h e
      have ha:=hs.1 a (by simp)
      have hb:=ht.1 b (by simp)
      refine Int.not_lt.1 fun hlt=>?_
      rcases q5h.1 ((h a.Hi).2 (q5h.2 (.inl ⟨by omega,hlt⟩))) with h1 | h1
      · omega
      · have:=hs.tail_gt h1;omega
    have e2 : a.Hi = b.Hi:=Int.le_antisymm (hi ht hs (fun x=>(h x).symm) e1.symm) (hi hs ht h e1)
    have e : a = b:=by cases a;cases b;simp at e1 e2;simp [e1,e2]
    subst e
    congr 1
    refine qd3 hs.tail ht.tail fun x=>⟨fun hx=>?_,fun hx=>?_⟩
    · have h1:=hs.tail_gt hx
      rcases q5h.1 ((h x).1 (q5h.2 (.inr hx))) with h2 | h2
      · omega
      · exact h2
    · have h1:=ht.tail_gt hx
      rcases q5h.1 ((h x).2 (q5h.2 (.inr hx))) with h2 | h2
      · omega
      · exact h2
theorem qkz (t : api_Span) : span_valid t = some (decide (vld t)):=by
  unfold span_valid vld
  by_cases h1 : t.Lo < t.Hi <;> by_cases h2 : -1000000≤t.Lo <;> by_cases h3 : t.Hi≤1000000 <;> simp [h1,h2,h3]
open Classical in
noncomputable def checkS (s : List api_Span) : Int:=if 400 < s.length then 4 else if Good s then 0 else 8
def GoodTo (s : List api_Span) (k : Nat) : Prop:=(∀ i (h : i < s.length),i < k→vld s[i])∧∀ i (h : i + 1 < s.length),i + 1 < k→s[i].Hi < s[i+1].Lo
theorem qnv {s : List api_Span} (h : GoodTo s s.length) : Good s:=by
  refine ⟨fun t ht=>?_,?_⟩
  · obtain ⟨i,hi,rfl⟩:=List.mem_iff_getElem.1 ht
    exact h.1 i hi hi
  · have key : ∀ i j (hi : i < s.length) (hj : j < s.length),i < j→s[i].Hi < s[j].Lo:=by
      intro i j hi hj hij
      induction j with
      | zero=>omega
      | succ j ih=>
        have h1:=h.2 j hj hj
        by_cases e : i = j
        · subst e;exact h1
        · have h2:=ih (by omega) (by omega)
          have h3:=(h.1 j (by omega) (by omega)).1
          omega
    rw [List.pairwise_iff_getElem]
    exact key
theorem Good.get {s : List api_Span} (h : Good s) (i : Nat) (hi : i < s.length) : vld s[i]:=h.1 _ (List.getElem_mem hi)
theorem Good.nxt {s : List api_Span} (h : Good s) (i j : Nat) (hi : i < s.length) (hj : j < s.length) (hij : i < j) : s[i].Hi < s[j].Lo:=List.pairwise_iff_getElem.1 h.2 i j hi hj hij
theorem ql0 (s : List api_Span) : qaw s = some (checkS s):=by
  unfold qaw checkS
  by_cases hl : 400 < s.length
  · have : decide ((s.length : Int) > 400) = true:=by simp;omega
    simp [this,hl]
  · have hd : decide ((s.length : Int) > 400) = false:=by simp;omega
    simp only [hd,hl,if_false,cond_false]
    have:=q5y (f:=q66 s) (σ:=Unit) (fun k _=>(k : Int)) s.length (fun k _=>GoodTo s k) (fun b=>(b = .inl ()∧Good s)∨(b = .inr 8∧¬ Good s)) ?_ ?_ (k0:=0) (c0:=()) (by omega) ⟨fun i _ h=>by omega,fun i _ h=>by omega⟩
    · obtain ⟨b,h1,h2⟩:=this
      have h1 : loop (q66 s) 0 = some b:=h1
      rw [h1]
      rcases h2 with ⟨rfl,h2⟩ | ⟨rfl,h2⟩ <;> simp [h2]
    · intro k _ hk hg
      have hb : decide ((k : Int) < (s.length : Int)) = true:=by simp;omega
      simp only [q66,hb,cond_true,q13 hk,Option.bind_some,qkz]
      have bad : ¬ Good s→∃ b,(some (Sum.inr (Sum.inr 8)) : Option (Int ⊕ (Unit ⊕ Int))) = some (.inr b)∧((b = .inl ()∧Good s)∨(b = .inr 8∧¬ Good s)):=fun h=>⟨_,rfl,.inr ⟨rfl,h⟩⟩
      by_cases hv : vld s[k]
      · simp only [hv,decide_true,Bool.not_true,cond_false]
        by_cases h0 : k = 0
        · subst h0
          refine .inl ⟨(),by simp [qy],⟨fun i hi h=>?_,fun i hi h=>by omega⟩⟩
          (obtain rfl : i = 0:=by omega)
          exact hv
        · obtain ⟨j,rfl⟩ : ∃ j,k = j + 1:=⟨k - 1,by omega⟩
          have hp : decide (((j + 1 : Nat) : Int) > 0) = true:=decide_eq_true (by omega)
          have hj : idx s (w64 (((j + 1 : Nat) : Int) - 1)) = some (s[j]'(by omega)):=by
            rw [qy (by omega)];exact qb8 (by omega) (by omega)
          simp only [hp,cond_true,hj,Option.bind_some]
          by_cases hlt : s[j].Hi < s[j+1].Lo
          · have : decide (s[j].Hi ≥ s[j+1].Lo) = false:=by simp;omega
            simp only [this,cond_false]
            rw [qy (by omega)]
            refine .inl ⟨(),rfl,⟨fun i hi h=>?_,fun i hi h=>?_⟩⟩
            · by_cases e : i = j + 1
              · subst e;exact hv
              · exact hg.1 i hi (by omega)
            · by_cases e : i = j
              · subst e;exact hlt
              · exact hg.2 i hi (by omega)
          · have : decide (s[j].Hi ≥ s[j+1].Lo) = true:=by simp;omega
            simp only [this,cond_true]
            exact .inr (bad fun h=>hlt (h.nxt j (j + 1) (by omega) hk (by omega)))
      · simp only [hv,decide_false,Bool.not_false,cond_true,Option.bind_some]
        exact .inr (bad fun h=>hv (h.get k hk))
    · intro _ hg
      have hb : decide ((s.length : Int) < (s.length : Int)) = false:=by simp
      simp only [q66,hb,cond_false]
      exact ⟨_,rfl,.inl ⟨rfl,qnv hg⟩⟩
theorem qjo : qj5 = span_valid:=rfl
theorem qhk (s : List api_Span) : qbc s = q66 s:=by
  funext a
  unfold qbc q66
  cases h : idx s a <;> simp [h,qjo]
theorem ql1 (s : List api_Span) : qbw s = some (checkS s):=by
  rw [← ql0];unfold qbw qaw;rw [qhk]
open Classical in
theorem qhl (s : List api_Span) (x : Int) (hl : s.length≤1000000) : qf7 s x = some (decide (has s x)):=by
  have:=q5y (f:=q9j s x) (σ:=Unit) (fun k _=>(k : Int)) s.length (fun k _=>∀ i (h : i < s.length),i < k→¬ (s[i].Lo≤x∧x < s[i].Hi)) (fun b=>(b = .inl ()∧¬ has s x)∨(b = .inr true∧has s x)) ?_ ?_ (k0:=0) (c0:=()) (by omega) (fun i _ h=>by omega)
  · obtain ⟨b,h1,h2⟩:=this
    have h1 : loop (q9j s x) 0 = some b:=h1
    unfold qf7
    rw [h1]
    rcases h2 with ⟨rfl,h2⟩ | ⟨rfl,h2⟩ <;> simp [h2]
  · intro k _ hk hg
    have hb : decide ((k : Int) < (s.length : Int)) = true:=decide_eq_true (by omega)
    simp only [q9j,hb,cond_true,q13 hk,Option.bind_some]
    by_cases h1 : s[k].Lo≤x <;> by_cases h2 : x < s[k].Hi
    · exact .inr ⟨.inr true,by simp [h1,h2],.inr ⟨rfl,s[k],List.getElem_mem hk,h1,h2⟩⟩
    all_goals
      refine .inl ⟨(),by simp [h1,h2];exact qy (by omega),fun i hi h=>?_⟩
      by_cases e : i = k
      · subst e;omega
      · exact hg i hi (by omega)
  · intro _ hg
    have hb : decide ((s.length : Int) < (s.length : Int)) = false:=decide_eq_false (by omega)
    simp only [q9j,hb,cond_false]
    refine ⟨_,rfl,.inl ⟨rfl,?_⟩⟩
    rintro ⟨t,ht,h⟩
    obtain ⟨i,hi,rfl⟩:=List.mem_iff_getElem.1 ht
    exact hg i hi hi h
end Go.Sh
