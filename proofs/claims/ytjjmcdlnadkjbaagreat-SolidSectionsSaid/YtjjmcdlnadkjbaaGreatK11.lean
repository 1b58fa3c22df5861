/- Po1 Pt1 Pt2 Pt3 Pt4 Pt5 Pt6 Pt7 -/
import Derived.Test.YtjjmcdlnadkjbaaGreatK10
set_option maxHeartbeats 4000000
namespace Go.Sh
open Go Go.Am
def sg (a b : Int) : Int:=if a < b then -1 else 0
theorem qc0 {a b : Int} : decide (sg a b < 0) = decide (a < b):=by
  unfold sg;by_cases h : a < b <;> simp [h]
def qO (a b : Int) : Option Int:=some (sg a b)
theorem qcx (a b : Int) : qO a b = some (sg a b):=rfl
theorem q8x (a b : Int) : q3g a b = some (decide (a < b)):=by
  unfold q3g qb6
  have : (a != a) = false:=by simp
  simp []
theorem q124 : q9c = qmd:=rfl
theorem qyd : (fun p0=>q6i p0) = (fun p0=>qf0 p0):=by
  funext p0
  simp only [q6i,qf0,q124]
  all_goals repeat' first | with_reducible rfl | (refine funext fun (m : Sum _ _)=>?_;cases m <;> (first | with_reducible rfl | rfl)) | (congr 1) | funext _
  done
theorem qwc  : ∀ p0,q6i p0 = qf0 p0:=fun p0=>(congrFun qyd p0)
theorem q123 : (fun p0=>q68 p0) = (fun p0=>qg5 p0):=by
  funext p0
  simp only [q68,qg5,qwc]
  all_goals repeat' first | with_reducible rfl | (refine funext fun (m : Sum _ _)=>?_;cases m <;> (first | with_reducible rfl | rfl)) | (congr 1) | funext _
  done
theorem qrz  : ∀ p0,q68 p0 = qg5 p0:=fun p0=>(congrFun q123 p0)
theorem qir : (fun p1=>q2e p1) = (fun p1=>q43 p1 qO):=by
  funext p1 a443
  simp only [q2e,q43,q8x,qcx,Option.bind_some,qc0]
  all_goals repeat' first | with_reducible rfl | (refine funext fun (m : Sum _ _)=>?_;cases m <;> (first | with_reducible rfl | rfl)) | (congr 1) | funext _
  done
theorem qi5  : ∀ p1,q2e p1 = q43 p1 qO:=fun p1=>(congrFun qir p1)
theorem qiq : (fun p2 p1=>q2d p2 p1) = (fun p2 p1=>q50 p2 p1 qO):=by
  funext p2 p1 a270
  simp only [q2d,q50,qi5]
  all_goals repeat' first | with_reducible rfl | (refine funext fun (m : Sum _ _)=>?_;cases m <;> (first | with_reducible rfl | rfl)) | (congr 1) | funext _
  done
theorem qi4  : ∀ p2 p1,q2d p2 p1 = q50 p2 p1 qO:=fun p2 p1=>(congrFun (congrFun qiq p2) p1)
theorem qlr : (fun p0 p1 p2=>q2z p0 p1 p2) = (fun p0 p1 p2=>q6g qO p0 p1 p2):=by
  funext p0 p1 p2
  simp only [q2z,q6g,qi4]
  all_goals repeat' first | with_reducible rfl | (refine funext fun (m : Sum _ _)=>?_;cases m <;> (first | with_reducible rfl | rfl)) | (congr 1) | funext _
  done
theorem qkd  : ∀ p0 p1 p2,q2z p0 p1 p2 = q6g qO p0 p1 p2:=fun p0 p1 p2=>(congrFun (congrFun (congrFun qlr p0) p1) p2)
theorem qol : (fun p2 p3=>q3v p2 p3) = (fun p2 p3=>q5u p2 p3 qO):=by
  funext p2 p3 a193
  simp only [q3v,q5u,q8x,qcx,Option.bind_some,qc0]
  all_goals repeat' first | with_reducible rfl | (refine funext fun (m : Sum _ _)=>?_;cases m <;> (first | with_reducible rfl | rfl)) | (congr 1) | funext _
  done
theorem qn5  : ∀ p2 p3,q3v p2 p3 = q5u p2 p3 qO:=fun p2 p3=>(congrFun (congrFun qol p2) p3)
theorem qsn : (fun p0 p1 p2 p3=>q35 p0 p1 p2 p3) = (fun p0 p1 p2 p3=>q7w qO p0 p1 p2 p3):=by
  funext p0 p1 p2 p3
  simp only [q35,q7w,qn5]
  all_goals repeat' first | with_reducible rfl | (refine funext fun (m : Sum _ _)=>?_;cases m <;> (first | with_reducible rfl | rfl)) | (congr 1) | funext _
  done
theorem qis  : ∀ p0 p1 p2 p3,q35 p0 p1 p2 p3 = q7w qO p0 p1 p2 p3:=fun p0 p1 p2 p3=>(congrFun (congrFun (congrFun (congrFun qsn p0) p1) p2) p3)
theorem qoi : (fun p2 p1=>q3s p2 p1) = (fun p2 p1=>q6n qO p2 p1):=by
  funext p2 p1 a123
  simp only [q3s,q6n,qis]
  all_goals repeat' first | with_reducible rfl | (refine funext fun (m : Sum _ _)=>?_;cases m <;> (first | with_reducible rfl | rfl)) | (congr 1) | funext _
  done
theorem qmx  : ∀ p2 p1,q3s p2 p1 = q6n qO p2 p1:=fun p2 p1=>(congrFun (congrFun qoi p2) p1)
theorem qoj : (fun p1=>q3t p1) = (fun p1=>q6o p1 qO):=by
  funext p1 a191
  simp only [q3t,q6o,qis]
  all_goals repeat' first | with_reducible rfl | (refine funext fun (m : Sum _ _)=>?_;cases m <;> (first | with_reducible rfl | rfl)) | (congr 1) | funext _
  done
theorem qmy  : ∀ p1,q3t p1 = q6o p1 qO:=fun p1=>(congrFun qoj p1)
theorem qsm : (fun p0 p1 p2=>q4k p0 p1 p2) = (fun p0 p1 p2=>q9p qO p0 p1 p2):=by
  funext p0 p1 p2
  simp only [q4k,q9p,qmx,qmy]
  all_goals repeat' first | with_reducible rfl | (refine funext fun (m : Sum _ _)=>?_;cases m <;> (first | with_reducible rfl | rfl)) | (congr 1) | funext _
  done
theorem qqo  : ∀ p0 p1 p2,q4k p0 p1 p2 = q9p qO p0 p1 p2:=fun p0 p1 p2=>(congrFun (congrFun (congrFun qsm p0) p1) p2)
theorem qkf : (fun p0=>q47 p0) = (fun p0=>q66 p0):=by
  funext p0
  simp only [q47,q66,qrz]
  all_goals repeat' first | with_reducible rfl | (refine funext fun (m : Sum _ _)=>?_;cases m <;> (first | with_reducible rfl | rfl)) | (congr 1) | funext _
  done
theorem qjp  : ∀ p0,q47 p0 = q66 p0:=fun p0=>(congrFun qkf p0)
theorem qlz : (fun p0=>q3f p0) = (fun p0=>q6h p0):=by
  funext p0
  simp only [q3f,q6h]
  all_goals repeat' first | with_reducible rfl | (refine funext fun (m : Sum _ _)=>?_;cases m <;> (first | with_reducible rfl | rfl)) | (congr 1) | funext _
  done
theorem qkh  : ∀ p0,q3f p0 = q6h p0:=fun p0=>(congrFun qlz p0)
theorem qip : (fun p1 p2 r101=>q2c p1 p2 r101) = (fun p1 p2 r101=>q4m p1 p2 r101):=by
  funext p1 p2 r101 a153
  simp only [q2c,q4m,qkh]
  all_goals repeat' first | with_reducible rfl | (refine funext fun (m : Sum _ _)=>?_;cases m <;> (first | with_reducible rfl | rfl)) | (congr 1) | funext _
  done
theorem qi3  : ∀ p1 p2 r101,q2c p1 p2 r101 = q4m p1 p2 r101:=fun p1 p2 r101=>(congrFun (congrFun (congrFun qip p1) p2) r101)
theorem qlq : (fun p0 p1 p2=>q2y p0 p1 p2) = (fun p0 p1 p2=>q63 qO p0 p1 p2):=by
  funext p0 p1 p2
  simp only [q2y,q63,qjp,qi3]
  all_goals repeat' first | with_reducible rfl | (refine funext fun (m : Sum _ _)=>?_;cases m <;> (first | with_reducible rfl | rfl)) | (congr 1) | funext _
  done
theorem qkc  : ∀ p0 p1 p2,q2y p0 p1 p2 = q63 qO p0 p1 p2:=fun p0 p1 p2=>(congrFun (congrFun (congrFun qlq p0) p1) p2)
theorem qwe : (fun p0 p1 p2 p3=>q2u p0 p1 p2 p3) = (fun p0 p1 p2 p3=>qa1 qO p0 p1 p2 p3):=by
  funext p0 p1 p2 p3
  simp only [q2u,qa1,q8x,qcx,Option.bind_some,qc0]
  all_goals repeat' first | with_reducible rfl | (refine funext fun (m : Sum _ _)=>?_;cases m <;> (first | with_reducible rfl | rfl)) | (congr 1) | funext _
  done
theorem qv3  : ∀ p0 p1 p2 p3,q2u p0 p1 p2 p3 = qa1 qO p0 p1 p2 p3:=fun p0 p1 p2 p3=>(congrFun (congrFun (congrFun (congrFun qwe p0) p1) p2) p3)
theorem qwd : (fun p0 p1 p2 p3 p4=>q44 p0 p1 p2 p3 p4) = (fun p0 p1 p2 p3 p4=>qa0 qO p0 p1 p2 p3 p4):=by
  funext p0 p1 p2 p3 p4
  simp only [q44,qa0,qv3]
  all_goals repeat' first | with_reducible rfl | (refine funext fun (m : Sum _ _)=>?_;cases m <;> (first | with_reducible rfl | rfl)) | (congr 1) | funext _
  done
theorem qls  : ∀ p0 p1 p2 p3 p4,q44 p0 p1 p2 p3 p4 = qa0 qO p0 p1 p2 p3 p4:=fun p0 p1 p2 p3 p4=>(congrFun (congrFun (congrFun (congrFun (congrFun qwd p0) p1) p2) p3) p4)
theorem qke : (fun p0 p1 p2=>q1l p0 p1 p2) = (fun p0 p1 p2=>q4q qO p0 p1 p2):=by
  funext p0 p1 p2
  simp only [q1l,q4q,qls]
  all_goals repeat' first | with_reducible rfl | (refine funext fun (m : Sum _ _)=>?_;cases m <;> (first | with_reducible rfl | rfl)) | (congr 1) | funext _
  done
theorem qjo  : ∀ p0 p1 p2,q1l p0 p1 p2 = q4q qO p0 p1 p2:=fun p0 p1 p2=>(congrFun (congrFun (congrFun qke p0) p1) p2)
theorem qoh : (fun p0 p1 p2=>q4j p0 p1 p2) = (fun p0 p1 p2=>q7j p0 p1 p2 qO):=by
  funext p0 p1 p2
  simp only [q4j,q7j,qls,qjo]
  all_goals repeat' first | with_reducible rfl | (refine funext fun (m : Sum _ _)=>?_;cases m <;> (first | with_reducible rfl | rfl)) | (congr 1) | funext _
  done
theorem qmw  : ∀ p0 p1 p2,q4j p0 p1 p2 = q7j p0 p1 p2 qO:=fun p0 p1 p2=>(congrFun (congrFun (congrFun qoh p0) p1) p2)
theorem qjr : q45 = q61:=by
  funext a119
  simp only [q45,q61]
  all_goals repeat' first | with_reducible rfl | (refine funext fun (m : Sum _ _)=>?_;cases m <;> (first | with_reducible rfl | rfl)) | (congr 1) | funext _
  done
theorem qn4 : (fun p0 p1 p2=>q3d p0 p1 p2) = (fun p0 p1 p2=>q6b qO p0 p1 p2):=by
  funext p0 p1 p2
  simp only [q3d,q6b,qjr]
  all_goals repeat' first | with_reducible rfl | (refine funext fun (m : Sum _ _)=>?_;cases m <;> (first | with_reducible rfl | rfl)) | (congr 1) | funext _
  done
theorem qly  : ∀ p0 p1 p2,q3d p0 p1 p2 = q6b qO p0 p1 p2:=fun p0 p1 p2=>(congrFun (congrFun (congrFun qn4 p0) p1) p2)
theorem qfe : (fun p2 a432=>q1n p2 a432) = (fun p2 a432=>q24 p2 a432 qO):=by
  funext p2 a432 a667
  simp only [q1n,q24,q8x,qcx,Option.bind_some,qc0]
  all_goals repeat' first | with_reducible rfl | (refine funext fun (m : Sum _ _)=>?_;cases m <;> (first | with_reducible rfl | rfl)) | (congr 1) | funext _
  done
theorem qev  : ∀ p2 a432,q1n p2 a432 = q24 p2 a432 qO:=fun p2 a432=>(congrFun (congrFun qfe p2) a432)
theorem qff : q2b = q25 qO:=by
  funext a822
  simp only [q2b,q25,q8x,qcx,Option.bind_some,qc0]
  all_goals repeat' first | with_reducible rfl | (refine funext fun (m : Sum _ _)=>?_;cases m <;> (first | with_reducible rfl | rfl)) | (congr 1) | funext _
  done
theorem qfg : (fun p2 b670=>q1o p2 b670) = (fun p2 b670=>q26 p2 qO b670):=by
  funext p2 b670 a912
  simp only [q1o,q26,q8x,qcx,Option.bind_some,qc0]
  all_goals repeat' first | with_reducible rfl | (refine funext fun (m : Sum _ _)=>?_;cases m <;> (first | with_reducible rfl | rfl)) | (congr 1) | funext _
  done
theorem qew  : ∀ p2 b670,q1o p2 b670 = q26 p2 qO b670:=fun p2 b670=>(congrFun (congrFun qfg p2) b670)
theorem qfd : (fun p2 p1=>q17 p2 p1) = (fun p2 p1=>q15 p2 qO p1):=by
  funext p2 p1 a432
  have mm : @q17.match_1.{1} = @q15.match_1.{1} Int:=by funext motive m f g;cases m <;> rfl
  unfold q17 q15;rw [mm]
  simp only [qev,qff,qew]
  all_goals repeat' first | with_reducible rfl | (congr 1) | funext _
  done
theorem qeu  : ∀ p2 p1,q17 p2 p1 = q15 p2 qO p1:=fun p2 p1=>(congrFun (congrFun qfd p2) p1)
theorem qgb : (fun p0 p1 p2=>q1e p0 p1 p2) = (fun p0 p1 p2=>q2a qO p0 p1 p2):=by
  funext p0 p1 p2
  have mm : @q1e.match_1.{1} = @q2a.match_1.{1} Int:=by funext motive m f g;cases m <;> rfl
  unfold q1e q2a;rw [mm]
  simp only [qeu]
  all_goals repeat' first | with_reducible rfl | (congr 1) | funext _
  done
theorem qg1  : ∀ p0 p1 p2,q1e p0 p1 p2 = q2a qO p0 p1 p2:=fun p0 p1 p2=>(congrFun (congrFun (congrFun qgb p0) p1) p2)
theorem qi7 : (fun a304 p1=>q28 a304 p1) = (fun a304 p1=>q4a a304 p1 qO):=by
  funext a304 p1 a360
  simp only [q28,q4a,q8x,qcx,Option.bind_some,qc0]
  all_goals repeat' first | with_reducible rfl | (refine funext fun (m : Sum _ _)=>?_;cases m <;> (first | with_reducible rfl | rfl)) | (congr 1) | funext _
  done
theorem qhd  : ∀ a304 p1,q28 a304 p1 = q4a a304 p1 qO:=fun a304 p1=>(congrFun (congrFun qi7 a304) p1)
theorem qi8 : (fun b363 a304 p1=>q29 b363 a304 p1) = (fun b363 a304 p1=>q4b b363 a304 p1 qO):=by
  funext b363 a304 p1 a439
  simp only [q29,q4b,q8x,qcx,Option.bind_some,qc0]
  all_goals repeat' first | with_reducible rfl | (refine funext fun (m : Sum _ _)=>?_;cases m <;> (first | with_reducible rfl | rfl)) | (congr 1) | funext _
  done
theorem qhe  : ∀ b363 a304 p1,q29 b363 a304 p1 = q4b b363 a304 p1 qO:=fun b363 a304 p1=>(congrFun (congrFun (congrFun qi8 b363) a304) p1)
theorem qi6 : (fun p1=>q27 p1) = (fun p1=>q4s p1 qO):=by
  funext p1 a304
  simp only [q27,q4s,qhd,qhe]
  all_goals repeat' first | with_reducible rfl | (refine funext fun (m : Sum _ _)=>?_;cases m <;> (first | with_reducible rfl | rfl)) | (congr 1) | funext _
  done
theorem qhc  : ∀ p1,q27 p1 = q4s p1 qO:=fun p1=>(congrFun qi6 p1)
theorem qkg : (fun p0 p1 p2 p3=>q2s p0 p1 p2 p3) = (fun p0 p1 p2 p3=>q5o qO p0 p1 p2 p3):=by
  funext p0 p1 p2 p3
  simp only [q2s,q5o,qhc]
  all_goals repeat' first | with_reducible rfl | (refine funext fun (m : Sum _ _)=>?_;cases m <;> (first | with_reducible rfl | rfl)) | (congr 1) | funext _
  done
theorem qjq  : ∀ p0 p1 p2 p3,q2s p0 p1 p2 p3 = q5o qO p0 p1 p2 p3:=fun p0 p1 p2 p3=>(congrFun (congrFun (congrFun (congrFun qkg p0) p1) p2) p3)
theorem qmz : (fun p2 p0 p1 v101 p3 v103=>q37 p2 p0 p1 v101 p3 v103) = (fun p2 p0 p1 v101 p3 v103=>q6x p2 p0 p1 v101 p3 v103 qO):=by
  funext p2 p0 p1 v101 p3 v103 a159
  simp only [q37,q6x,q8x,qcx,Option.bind_some,qc0]
  all_goals repeat' first | with_reducible rfl | (refine funext fun (m : Sum _ _)=>?_;cases m <;> (first | with_reducible rfl | rfl)) | (congr 1) | funext _
  done
theorem qlt  : ∀ p2 p0 p1 v101 p3 v103,q37 p2 p0 p1 v101 p3 v103 = q6x p2 p0 p1 v101 p3 v103 qO:=fun p2 p0 p1 v101 p3 v103=>(congrFun (congrFun (congrFun (congrFun (congrFun (congrFun qmz p2) p0) p1) v101) p3) v103)
theorem qn0 : (fun b162 p0 p1 v101 p3 v103=>q38 b162 p0 p1 v101 p3 v103) = (fun b162 p0 p1 v101 p3 v103=>q6y b162 p0 p1 v101 p3 v103 qO):=by
  funext b162 p0 p1 v101 p3 v103 a239
  simp only [q38,q6y,q8x,qcx,Option.bind_some,qc0]
  all_goals repeat' first | with_reducible rfl | (refine funext fun (m : Sum _ _)=>?_;cases m <;> (first | with_reducible rfl | rfl)) | (congr 1) | funext _
  done
theorem qlu  : ∀ b162 p0 p1 v101 p3 v103,q38 b162 p0 p1 v101 p3 v103 = q6y b162 p0 p1 v101 p3 v103 qO:=fun b162 p0 p1 v101 p3 v103=>(congrFun (congrFun (congrFun (congrFun (congrFun (congrFun qn0 b162) p0) p1) v101) p3) v103)
theorem qn2 : (fun a488 p1=>q3a a488 p1) = (fun a488 p1=>q4n a488 p1 qO):=by
  funext a488 p1 a542
  simp only [q3a,q4n,q8x,qcx,Option.bind_some,qc0]
  all_goals repeat' first | with_reducible rfl | (refine funext fun (m : Sum _ _)=>?_;cases m <;> (first | with_reducible rfl | rfl)) | (congr 1) | funext _
  done
theorem qlw  : ∀ a488 p1,q3a a488 p1 = q4n a488 p1 qO:=fun a488 p1=>(congrFun (congrFun qn2 a488) p1)
theorem qn3 : (fun b545 a488 p1=>q3b b545 a488 p1) = (fun b545 a488 p1=>q4o b545 a488 p1 qO):=by
  funext b545 a488 p1 a622
  simp only [q3b,q4o,q8x,qcx,Option.bind_some,qc0]
  all_goals repeat' first | with_reducible rfl | (refine funext fun (m : Sum _ _)=>?_;cases m <;> (first | with_reducible rfl | rfl)) | (congr 1) | funext _
  done
theorem qlx  : ∀ b545 a488 p1,q3b b545 a488 p1 = q4o b545 a488 p1 qO:=fun b545 a488 p1=>(congrFun (congrFun (congrFun qn3 b545) a488) p1)
theorem qn1 : (fun p1=>q39 p1) = (fun p1=>q6a p1 qO):=by
  funext p1 a488
  simp only [q39,q6a,qlw,qlx]
  all_goals repeat' first | with_reducible rfl | (refine funext fun (m : Sum _ _)=>?_;cases m <;> (first | with_reducible rfl | rfl)) | (congr 1) | funext _
  done
theorem qlv  : ∀ p1,q39 p1 = q6a p1 qO:=fun p1=>(congrFun qn1 p1)
theorem qqp : (fun p0 p1 p2 p3=>q49 p0 p1 p2 p3) = (fun p0 p1 p2 p3=>q7v qO p0 p1 p2 p3):=by
  funext p0 p1 p2 p3
  simp only [q49,q7v,qlt,qlu,qlv]
  all_goals repeat' first | with_reducible rfl | (refine funext fun (m : Sum _ _)=>?_;cases m <;> (first | with_reducible rfl | rfl)) | (congr 1) | funext _
  done
theorem qpq  : ∀ p0 p1 p2 p3,q49 p0 p1 p2 p3 = q7v qO p0 p1 p2 p3:=fun p0 p1 p2 p3=>(congrFun (congrFun (congrFun (congrFun qqp p0) p1) p2) p3)
theorem qpr : (fun rec=>q2q rec) = (fun rec=>q4e qO rec):=by
  funext rec a305
  have mm : @q2q.match_1.{1} = @q4e.match_1.{1} Int:=by funext motive m f g;cases m <;> rfl
  unfold q2q q4e;rw [mm]
  simp only [qkd,qqo,qkc,qmw,qly,qg1,qjq,qpq,q8x,qcx,Option.bind_some,qc0]
  all_goals repeat' first | with_reducible rfl | (congr 1) | funext _
  done
theorem qok  : ∀ rec,q2q rec = q4e qO rec:=fun rec=>(congrFun qpr rec)
theorem qqq : (fun rec p0 p1 p2 p3=>q2x rec p0 p1 p2 p3) = (fun rec p0 p1 p2 p3=>q76 rec qO p0 p1 p2 p3):=by
  funext rec p0 p1 p2 p3
  simp only [q2x,q76,qok]
  all_goals repeat' first | with_reducible rfl | (refine funext fun (m : Sum _ _)=>?_;cases m <;> (first | with_reducible rfl | rfl)) | (congr 1) | funext _
  done
theorem qps  : ∀ rec p0 p1 p2 p3,q2x rec p0 p1 p2 p3 = q76 rec qO p0 p1 p2 p3:=fun rec p0 p1 p2 p3=>(congrFun (congrFun (congrFun (congrFun (congrFun qqq rec) p0) p1) p2) p3)
theorem qv4 : ∀ N,q4p N = q5j N qO:=by
  intro N
  induction N with
  | zero=>rfl
  | succ N ih=>
    funext a b c d
    show q2x (q4p N) a b c d = q76 (q5j N qO) qO a b c d
    rw [ih,qps]
theorem qsl : (fun p0=>q2v p0) = (fun p0=>q9o qO p0):=by
  funext p0
  simp only [q2v,q9o,qrz,qv4]
  all_goals repeat' first | with_reducible rfl | (refine funext fun (m : Sum _ _)=>?_;cases m <;> (first | with_reducible rfl | rfl)) | (congr 1) | funext _
  done
theorem qqn  : ∀ p0,q2v p0 = q9o qO p0:=fun p0=>(congrFun qsl p0)
end Go.Sh
namespace Go.Sh
open Go Go.Am
theorem q6u {α β : Type} {f : α→Option (α ⊕ β)} (st : Nat→α) (n : Nat) (b : β) (hs : ∀ k,k < n→f (st k) = some (.inl (st (k + 1)))) (hd : f (st n) = some (.inr b)) : ∀ {k : Nat},k≤n→loop f (st k) = some b:=by
  have key : ∀ m k,n - k = m→k≤n→loop f (st k) = some b:=by
    intro m
    induction m with
    | zero => intro k hm hk; obtain rfl : k = n := by omega
              exact q1q hd
    | succ m ih=>intro k hm hk;rw [q31 (hs k (by omega))];exact ih (k + 1) (by omega) (by omega)
  intro k hk
  exact key _ k rfl hk
theorem w64s {k : Nat} {n : Nat} (h : k < n) (hn : n≤1000000) : w64 ((k : Int) + 1) = ((k + 1 : Nat) : Int):=by rw [qr (by omega)];omega
theorem dlt {k n : Nat} (h : k < n) : decide ((k : Int) < (n : Int)) = true:=decide_eq_true (by omega)
theorem dnl {n : Nat} : decide ((n : Int) < (n : Int)) = false:=decide_eq_false (by omega)
theorem qae {α β γ : Type} (src : List α) (hl : src.length≤1000000) (h : α→List γ) (out : List γ) (fin : List γ→β) (f : Int × List γ→Option ((Int × List γ) ⊕ β))
    (hs : ∀ (k : Nat) (hk : k < src.length) (o : List γ),o = out ++ (src.take k).flatMap h→f ((k : Int),o) = some (.inl (((k + 1 : Nat) : Int),o ++ h src[k])))
    (hd : ∀ o,f ((src.length : Int),o) = some (.inr (fin o))) : loop f (0,out) = some (fin (out ++ src.flatMap h)):=by
  have e : ∀ k (hk : k < src.length),(src.take (k + 1)).flatMap h = (src.take k).flatMap h ++ h src[k]:=fun k hk=>by
    rw [List.take_succ_eq_append_getElem hk,List.flatMap_append,List.flatMap_cons,List.flatMap_nil,List.append_nil]
  have:=q6u (f:=f) (fun k=>((k : Int),out ++ (src.take k).flatMap h)) src.length (fin (out ++ src.flatMap h)) (fun k hk=>by
    rw [hs k hk _ rfl,e k hk,List.append_assoc]) (by simp only [List.take_length];exact hd _) (Nat.zero_le _)
  simpa using this
theorem qig {α β γ : Type} (src : List α) (h : α→γ) (out : List γ) (fin : List γ→β) (f : Int × List γ→Option ((Int × List γ) ⊕ β))
    (hs : ∀ (k : Nat) (hk : k < src.length) (o : List γ),o.length = out.length + k→f ((k : Int),o) = some (.inl (((k + 1 : Nat) : Int),o ++ [h src[k]])))
    (hd : ∀ o,f ((src.length : Int),o) = some (.inr (fin o))) : loop f (0,out) = some (fin (out ++ src.map h)):=by
  have e : ∀ k (hk : k < src.length),(src.take (k + 1)).map h = (src.take k).map h ++ [h src[k]]:=fun k hk=>by
    rw [List.take_succ_eq_append_getElem hk,List.map_append,List.map_cons,List.map_nil]
  have:=q6u (f:=f) (fun k=>((k : Int),out ++ (src.take k).map h)) src.length (fin (out ++ src.map h)) (fun k hk=>by
    rw [hs k hk _ (by simp;omega),e k hk,List.append_assoc]) (by simp only [List.take_length];exact hd _) (Nat.zero_le _)
  simpa using this
theorem qmb {γ : Type} (g : γ→γ) (a b : List γ) (hl : (a ++ b).length≤1000000) (f : Int × List γ→Option ((Int × List γ) ⊕ (List γ)))
    (hs : ∀ (k : Nat) (o : List γ) (hk : k < o.length),o.length = (a ++ b).length→f ((k : Int),o) = some (.inl (((k + 1 : Nat) : Int),o.set k (g o[k]))))
    (hd : ∀ o : List γ,f ((o.length : Int),o) = some (.inr o)) : loop f ((a.length : Int),a ++ b) = some (a ++ b.map g):=by
  have hl' : a.length + b.length≤1000000:=by simpa using hl
  have key:=q6u (f:=f) (fun k=>(((a.length + k : Nat) : Int),a ++ ((b.take k).map g ++ b.drop k))) b.length (a ++ b.map g) (fun k hk=>by
    have hlen : (a ++ ((b.take k).map g ++ b.drop k)).length = (a ++ b).length:=by simp;omega
    have hk' : a.length + k < (a ++ ((b.take k).map g ++ b.drop k)).length:=by rw [hlen];simp;omega
    rw [hs (a.length + k) _ hk' hlen]
    have hm : ((b.take k).map g).length = k:=by simp;omega
    have e : (a ++ ((b.take k).map g ++ b.drop k))[a.length + k]'hk' = b[k]:=by
      rw [List.getElem_append_right (by omega)]
      rw [List.getElem_append_right (by rw [hm];omega)]
      simp [List.length_take,Nat.min_eq_left (Nat.le_of_lt hk)]
    rw [e]
    congr 4
    rw [List.set_append,if_neg (by omega),List.set_append,if_neg (by rw [hm];omega),hm]
    have z : a.length + k - a.length - k = 0:=by omega
    rw [z,List.take_succ_eq_append_getElem hk,List.drop_eq_getElem_cons hk,List.set_cons_zero,List.map_append,List.map_cons,List.map_nil,List.append_assoc]
    rfl) (by
    simp only [List.take_length,List.drop_length,List.append_nil]
    have:=hd (a ++ b.map g)
    simpa using this) (Nat.zero_le _)
  simpa using key
theorem q9z {α γ υ : Type} (l : List α) (c : α→Bool) (res : (k : Nat)→k < l.length→γ) (u : υ) (f : Int→Option (Int ⊕ (υ ⊕ γ)))
    (hs : ∀ (k : Nat) (h : k < l.length),f (k : Int) = some (if c l[k] = true then .inr (.inr (res k h)) else .inl ((k + 1 : Nat) : Int))) (hd : f (l.length : Int) = some (.inr (.inl u))) :
    ((∀ v∈l,c v = false)∧loop f 0 = some (.inl u))∨∃ k,∃ h : k < l.length,c l[k] = true∧(∀ j (hj : j < k),c (l[j]'(by omega)) = false)∧loop f 0 = some (.inr (res k h)):=by
  by_cases hh : ∀ v∈l,c v = false
  · refine .inl ⟨hh,?_⟩
    exact q6u (f:=f) (fun k=>(k : Int)) l.length _ (fun k hk=>by rw [hs k hk,hh _ (List.getElem_mem hk)];rfl) hd (Nat.zero_le _)
  · refine .inr ?_
    have : ∃ k,∃ h : k < l.length,c l[k] = true:=by
      refine Classical.byContradiction fun hn=>hh fun v hv=>?_
      obtain ⟨k,hk,rfl⟩:=List.getElem_of_mem hv
      cases hc : c l[k]
      · rfl
      · exact absurd ⟨k,hk,hc⟩ hn
    have h2 : ∃ k,(∃ h : k < l.length,c l[k] = true)∧∀ j,j < k→¬ ∃ h : j < l.length,c l[j] = true:=by
      obtain ⟨k,hk⟩:=this
      induction k using Nat.strongRecOn with
      | _ k ih=>
        by_cases hj : ∃ j,j < k∧∃ h : j < l.length,c l[j] = true
        · obtain ⟨j,h1,h2⟩:=hj;exact ih j h1 h2
        · exact ⟨k,hk,fun j h1 h2=>hj ⟨j,h1,h2⟩⟩
    obtain ⟨k,⟨hk,hc⟩,hmin⟩:=h2
    have hmin' : ∀ j (hj : j < k),c (l[j]'(by omega)) = false:=fun j hj=>by
      cases h : c (l[j]'(by omega))
      · rfl
      · exact absurd ⟨by omega,h⟩ (hmin j hj)
    refine ⟨k,hk,hc,hmin',?_⟩
    exact q6u (f:=f) (fun k=>(k : Int)) k _ (fun j hj=>by rw [hs j (by omega),hmin' j hj];rfl) (by rw [hs k hk,if_pos hc]) (Nat.zero_le _)
theorem qk7 : ∀ {l a b : List Int},q78 l a→q78 l b→a = b:=by
  have key : ∀ (a b : List Int),a.Pairwise (· < ·)→b.Pairwise (· < ·)→(∀ x,x∈a↔x∈b)→a = b:=by
    intro a
    induction a with
    | nil=>intro b _ _ h;cases b with
      | nil=>rfl
      | cons y b=>exact absurd ((h y).2 (by simp)) (by simp)
    | cons x a ih=>
      intro b ha hb h
      cases b with
      | nil=>exact absurd ((h x).1 (by simp)) (by simp)
      | cons y b=>
        rw [List.pairwise_cons] at ha hb
        have hxy : x = y:=by
          rcases List.mem_cons.1 ((h x).1 (by simp)) with h1 | h1
          · exact h1
          · rcases List.mem_cons.1 ((h y).2 (by simp)) with h2 | h2
            · exact h2.symm
            · have:=hb.1 _ h1;have:=ha.1 _ h2;omega
        subst hxy
        rw [ih b ha.2 hb.2 fun z=>?_]
        constructor
        · intro hz
          rcases List.mem_cons.1 ((h z).1 (by simp [hz])) with h1 | h1
          · have:=ha.1 _ hz;omega
          · exact h1
        · intro hz
          rcases List.mem_cons.1 ((h z).2 (by simp [hz])) with h1 | h1
          · have:=hb.1 _ hz;omega
          · exact h1
  intro l a b ha hb
  exact key a b ha.1 hb.1 fun x=>(ha.2 x).trans (hb.2 x).symm
def ltI (a b : Int) : Bool:=decide (a < b)
theorem swoI : Sort.SWO ltI where
  irrefl:=by intro x;simp [ltI]
  trans:=by intro x y z;simp only [ltI,decide_eq_true_eq];omega
  ntrans:=by intro x y z;simp only [ltI,decide_eq_false_iff_not];omega
theorem cmpI : q5y qO ltI (fun _=>True):=by
  intro x y _ _
  refine ⟨sg x y,rfl,?_⟩
  rw [qc0];rfl
theorem qv6 (l : List Int) (hl : l.length≤1000000) : ∃ ys,q2v l = some ys∧ys.Perm l∧ys.Pairwise (·≤·):=by
  obtain ⟨ys,h1,h2,h3⟩:=qnn cmpI swoI l hl (fun _ _=>trivial)
  refine ⟨ys,by rw [qqn];exact h1,h2,h3.imp ?_⟩
  intro a b h
  simp only [ltI,decide_eq_false_iff_not] at h
  omega
end Go.Sh
namespace Go.Sh
open Go Go.Am
structure CInv (p : List Int) (k k2 i : Nat) (a : List Int) : Prop where
  len : a.length = p.length
  hi : i≤k + k2 - 1
  same : ∀ j (h : j < p.length),k + k2 - 1≤j→a[j]? = some p[j]
  so : q78 (p.take (k + k2)) (a.take i)
theorem qtf {p : List Int} (hp : p.Pairwise (·≤·)) (hl : p.length≤1000000) {k k2 i : Nat} {a : List Int} (hk : 0 < k) (h2 : 0 < k2) (hn : k + k2 < p.length) (h : CInv p k k2 i a) :
    ∃ (i' : Nat) (a' : List Int),q21 ((i : Int),(k,p.length - k),(k2 : Int),a) = some (.inl ((i' : Int),(k,p.length - k),((k2 + 1 : Nat) : Int),a'))∧CInv p k (k2 + 1) i' a':=by
  obtain ⟨h1,h3,h4,h5,h6⟩:=h
  have hb : decide ((k2 : Int) < ((p.length - k : Nat) : Int)) = true:=dlt (by omega)
  have r1 : idxW a (k,p.length - k) (k2 : Int) = some (p[k + k2]):=by
    unfold idxW;rw [if_pos ⟨by omega,by omega⟩]
    simp only [Int.toNat_natCast]
    exact h4 (k + k2) hn (by omega)
  have r2 : idxW a (k,p.length - k) (w64 ((k2 : Int) - 1)) = some (p[k + k2 - 1]):=by
    rw [qr (by omega)]
    have e : (k2 : Int) - 1 = ((k2 - 1 : Nat) : Int):=by omega
    rw [e];unfold idxW;rw [if_pos ⟨by omega,by omega⟩]
    simp only [Int.toNat_natCast]
    have:=h4 (k + k2 - 1) (by omega) (by omega)
    rw [show k + (k2 - 1) = k + k2 - 1 by omega];exact this
  have hle : p[k + k2 - 1]≤p[k + k2]:=List.pairwise_iff_getElem.1 hp _ _ (by omega) hn (by omega)
  have hmem : p[k + k2 - 1]∈p.take (k + k2):=by
    rw [List.mem_take_iff_getElem];exact ⟨k + k2 - 1,by omega,rfl⟩
  have htk : p.take (k + (k2 + 1)) = p.take (k + k2) ++ [p[k + k2]]:=by rw [← Nat.add_assoc,List.take_succ_eq_append_getElem hn]
  have hw : w64 ((k2 : Int) + 1) = ((k2 + 1 : Nat) : Int):=w64s (n:=p.length) (by omega) hl
  by_cases he : p[k + k2] = p[k + k2 - 1]
  · refine ⟨i,a,?_,h1,by omega,fun j hj hge=>h4 j hj (by omega),?_⟩
    · have hne : (p[k + k2] != p[k + k2 - 1]) = false:=by rw [he];simp
      simp only [q21,hb,cond_true,r1,r2,Option.bind_some,hne,cond_false,hw]
    · rw [htk]
      refine ⟨h5,fun x=>?_⟩
      rw [h6 x]
      constructor
      · intro hx;exact List.mem_append.2 (.inl hx)
      · intro hx
        rcases List.mem_append.1 hx with h | h
        · exact h
        · simp only [List.mem_singleton] at h;rw [h,he];exact hmem
  · have hne : (p[k + k2] != p[k + k2 - 1]) = true:=by simpa using he
    have hia : i < a.length:=by omega
    have r3 : idx a (i : Int) = some a[i]:=q10 hia
    have hw' : w64 ((i : Int) + 1) = ((i + 1 : Nat) : Int):=w64s (n:=p.length) (by omega) hl
    refine ⟨i + 1,a.set i p[k + k2],?_,by simpa using h1,by omega,fun j hj hge=>?_,?_⟩
    · simp only [q21,hb,cond_true,r1,r2,Option.bind_some,hne,r3,hw,hw',Int.toNat_natCast]
    · rw [List.getElem?_set_ne (by omega)];exact h4 j hj (by omega)
    · have e : (a.set i p[k + k2]).take (i + 1) = a.take i ++ [p[k + k2]]:=by
        rw [List.take_succ_eq_append_getElem (by simpa using hia)]
        simp [List.take_set_of_le]
      rw [e,htk]
      refine ⟨?_,fun x=>?_⟩
      · rw [List.pairwise_append]
        refine ⟨h5,by simp,fun x hx y hy=>?_⟩
        simp only [List.mem_singleton] at hy;subst hy
        have hx':=(h6 x).1 hx
        rw [List.mem_take_iff_getElem] at hx'
        obtain ⟨j,hj,rfl⟩:=hx'
        have : p[j]≤p[k + k2 - 1]:=by
          by_cases hjj : j = k + k2 - 1
          · subst hjj;exact Int.le_refl _
          · exact List.pairwise_iff_getElem.1 hp _ _ (by omega) (by omega) (by omega)
        omega
      · rw [List.mem_append,List.mem_append,h6 x]
theorem qte {p : List Int} (hp : p.Pairwise (·≤·)) (hl : p.length≤1000000) {k : Nat} (hk : 0 < k) (hkn : k < p.length) (h0 : q78 (p.take (k + 1)) (p.take k)) :
    ∃ i : Nat,∃ a : List Int,loop q21 ((k : Int),(k,p.length - k),1,p) = some ((i : Int),a)∧a.length = p.length∧i≤p.length∧q78 p (a.take i):=by
  have h:=q88 (f:=q21) (mk:=fun k2 (c : Nat × List Int)=>((c.1 : Int),(k,p.length - k),((k2 : Nat) : Int),c.2)) (p.length - k) (fun k2 c=>0 < k2∧CInv p k k2 c.1 c.2)
    (fun b=>∃ i : Nat,∃ a : List Int,b = ((i : Int),a)∧a.length = p.length∧i≤p.length∧q78 p (a.take i))
    (fun k2 c hk2 hI=>by
      obtain ⟨i',a',e1,e2⟩:=qtf hp hl hk hI.1 (by omega) hI.2
      exact .inl ⟨(i',a'),e1,by omega,e2⟩)
    (fun c hI=>by
      obtain ⟨hpos,h1,h3,h4,h5⟩:=hI
      refine ⟨((c.1 : Int),c.2),?_,c.1,c.2,rfl,h1,by omega,?_⟩
      · simp only [q21,dnl,cond_false]
      · rwa [List.take_of_length_le (by omega)] at h5)
    (k0:=1) (c0:=(k,p)) (by omega) ⟨by omega,rfl,by simp,fun j hj _=>by simp [hj],h0⟩
  obtain ⟨b,hb,i,a,rfl,h2⟩:=h
  exact ⟨i,a,hb,h2⟩
theorem qoz {p : List Int} (hp : p.Pairwise (·≤·)) (hl : p.length≤1000000) :
    ∃ w a,q3o p = some ((0,w),a)∧a.length = p.length∧w≤p.length∧q78 p (a.take w):=by
  unfold q3o
  by_cases hs : p.length < 2
  · rw [decide_eq_true (by omega : (p.length : Int) < 2),cond_true]
    refine ⟨p.length,p,rfl,rfl,Nat.le_refl _,?_⟩
    rw [List.take_length]
    refine ⟨?_,fun x=>Iff.rfl⟩
    match p,hs with
    | [],_=>simp
    | [x],_=>simp
  rw [decide_eq_false (by omega : ¬ (p.length : Int) < 2),cond_false]
  have hsort : ∀ k,k≤p.length→(∀ j (hj : j < k),0 < j→∀ h : j < p.length,p[j]≠p[j - 1])→q78 (p.take k) (p.take k):=by
    intro k hk hne
    refine ⟨?_,fun x=>Iff.rfl⟩
    rw [List.pairwise_iff_getElem]
    intro i j hi hj hij
    simp only [List.length_take] at hi hj
    simp only [List.getElem_take]
    have h1 : p[j - 1]≤p[j]:=List.pairwise_iff_getElem.1 hp _ _ (by omega) (by omega) (by omega)
    have h2:=hne j (by omega) (by omega) (by omega)
    have h3 : p[i]≤p[j - 1]:=by
      by_cases e : i = j - 1
      · subst e;exact Int.le_refl _
      · exact List.pairwise_iff_getElem.1 hp _ _ (by omega) (by omega) (by omega)
    omega
  have hstep : ∀ k,0 < k→∀ h : k < p.length,p[k]≠p[k - 1]→q14 p (k : Int) = some (.inl ((k + 1 : Nat) : Int)):=by
    intro k h0 h hne
    have r2 : idx p (w64 ((k : Int) - 1)) = some (p[k - 1]):=by rw [qr (by omega)];exact qeg (by omega) (by omega)
    have hb : (p[k] == p[k - 1]) = false:=by simpa using hne
    simp only [q14,dlt h,cond_true,q10 h,r2,Option.bind_some,hb,cond_false,w64s h hl]
  by_cases hh : ∀ j,0 < j→∀ h : j < p.length,p[j]≠p[j - 1]
  · have h1 : loop (q14 p) 1 = some (.inl ()):=by
      exact q6u (f:=q14 p) (fun k=>((k + 1 : Nat) : Int)) (p.length - 1) _ (fun k hk=>by
        exact hstep (k + 1) (by omega) (by omega) (hh (k + 1) (by omega) (by omega))) (by
        show q14 p (((p.length - 1) + 1 : Nat) : Int) = _
        rw [show p.length - 1 + 1 = p.length by omega]
        simp only [q14,dnl,cond_false]) (Nat.zero_le _)
    rw [h1]
    refine ⟨p.length,p,rfl,rfl,Nat.le_refl _,?_⟩
    have:=hsort p.length (Nat.le_refl _) fun j _ h0 h=>hh j h0 h
    rw [List.take_length] at this ⊢;exact this
  · have h2 : ∃ k,(0 < k∧∃ h : k < p.length,p[k] = p[k - 1])∧∀ j,j < k→¬ (0 < j∧∃ h : j < p.length,p[j] = p[j - 1]):=by
      have : ∃ k,0 < k∧∃ h : k < p.length,p[k] = p[k - 1]:=by
        refine Classical.byContradiction fun hn=>hh fun j h0 h he=>hn ⟨j,h0,h,he⟩
      obtain ⟨k,hk⟩:=this
      induction k using Nat.strongRecOn with
      | _ k ih=>
        by_cases hj : ∃ j,j < k∧(0 < j∧∃ h : j < p.length,p[j] = p[j - 1])
        · obtain ⟨j,h1,h2⟩:=hj;exact ih j h1 h2
        · exact ⟨k,hk,fun j h1 h2=>hj ⟨j,h1,h2⟩⟩
    obtain ⟨k,⟨h0,hk,he⟩,hmin⟩:=h2
    have hso : q78 (p.take k) (p.take k):=hsort k (by omega) fun j hj h0 h he=>hmin j hj ⟨h0,h,he⟩
    have hso' : q78 (p.take (k + 1)) (p.take k):=by
      refine ⟨hso.1,fun x=>?_⟩
      rw [List.take_succ_eq_append_getElem hk,List.mem_append]
      refine ⟨.inl,fun h=>h.elim id fun h=>?_⟩
      simp only [List.mem_singleton] at h
      rw [h,he,List.mem_take_iff_getElem]
      exact ⟨k - 1,by omega,rfl⟩
    obtain ⟨i,a,e1,e2,e3,e4⟩:=qte hp hl h0 hk hso'
    have s1 : sub2 p.length (k : Int) (p.length : Int) = some (k,p.length - k):=by unfold sub2;rw [if_pos ⟨by omega,by omega,by omega⟩];simp
    have s2 : sub2 a.length (i : Int) (a.length : Int) = some (i,a.length - i):=by unfold sub2;rw [if_pos ⟨by omega,by omega,by omega⟩];simp
    have s3 : sub2 a.length 0 (i : Int) = some (0,i):=by unfold sub2;rw [if_pos ⟨by omega,by omega,by omega⟩];simp
    have r2 : idx p (w64 ((k : Int) - 1)) = some (p[k - 1]):=by rw [qr (by omega)];exact qeg (by omega) (by omega)
    have h1 : loop (q14 p) 1 = some (.inr ((0,i),clrw a (i,a.length - i) 0)):=by
      exact q6u (f:=q14 p) (fun k=>((k + 1 : Nat) : Int)) (k - 1) _ (fun j hj=>by
        exact hstep (j + 1) (by omega) (by omega) fun he=>hmin (j + 1) (by omega) ⟨by omega,by omega,he⟩) (by
        show q14 p (((k - 1) + 1 : Nat) : Int) = _
        rw [show k - 1 + 1 = k by omega]
        have hb : (p[k] == p[k - 1]) = true:=by simpa using he
        simp only [q14,dlt hk,cond_true,q10 hk,r2,Option.bind_some,hb,s1,e1,s2,s3]) (Nat.zero_le _)
    rw [h1]
    refine ⟨i,clrw a (i,a.length - i) 0,rfl,by rw [qta (by simp;omega)];exact e2,e3,?_⟩
    have : (clrw a (i,a.length - i) 0).take i = a.take i:=by
      unfold clrw splice
      rw [List.append_assoc,List.take_append_of_le_length (by simp;omega)]
      simp [List.take_take]
    rw [this];exact e4
end Go.Sh
namespace Go.Sh
open Go Go.Am
theorem qkr {α : Type} [DecidableEq α] (e : α→α→Bool) (he : ∀ v w,e v w = decide (v = w)) (p q : List α) (hl : p.length≤1000000) (f : Int→Option (Int ⊕ (Unit ⊕ Bool)))
    (hf : ∀ k,f k = cond (decide (k < (p.length : Int))) ((idx p k).bind fun v=>(idx q k).bind fun w=>cond (!(e v w)) (some (.inr (.inr false))) (some (.inl (w64 (k + 1))))) (some (.inr (.inl ())))) :
    cond ((p.length : Int) != (q.length : Int)) (some false) ((loop f 0).bind fun m=>(match m with | .inl _=>some true | .inr x=>some x)) = some (decide (p = q)):=by
  by_cases hn : p.length = q.length
  · have : ((p.length : Int) != (q.length : Int)) = false:=by rw [hn];simp
    rw [this,cond_false]
    let c : Nat→Bool:=fun k=>if h : k < p.length then !(e p[k] (q[k]'(by omega))) else false
    have hs : ∀ (k : Nat) (h : k < (List.range p.length).length),f (k : Int) = some (if c (List.range p.length)[k] = true then .inr (.inr false) else .inl ((k + 1 : Nat) : Int)):=by
      intro k h
      have h : k < p.length:=by simpa using h
      rw [hf]
      simp only [dlt h,cond_true,q10 h,q10 (xs:=q) (k:=k) (by omega),Option.bind_some,List.getElem_range,c,dif_pos h,w64s h hl]
      cases e p[k] (q[k]'(by omega)) <;> simp
    have hd : f ((List.range p.length).length : Int) = some (.inr (.inl ())):=by rw [hf];simp []
    rcases q9z (List.range p.length) c (fun _ _=>false) () f hs hd with ⟨h1,h2⟩ | ⟨k,hk,hc,_,h2⟩
    · rw [h2]
      have : p = q:=by
        refine List.ext_getElem hn fun k h3 h4=>?_
        have:=h1 k (by simpa using h3)
        simp only [c,dif_pos h3,he,Bool.not_eq_false',decide_eq_true_eq] at this
        exact this
      simp [this]
    · rw [h2]
      have hk' : k < p.length:=by simpa using hk
      have : p≠q:=by
        intro h
        simp only [List.getElem_range,c,he,h] at hc
        simp at hc
      simp [this]
  · have : ((p.length : Int) != (q.length : Int)) = true:=by simpa using (fun h : (p.length : Int) = q.length=>hn (by omega))
    rw [this,cond_true]
    have : p≠q:=fun h=>hn (by rw [h])
    simp [this]
theorem qz8 (p q : List qe) (hl : p.length≤1000000) : q52 p q = some (decide (p = q)):=
  qkr (fun v w=>((v.Lo == w.Lo) && ((v.Hi == w.Hi) && true))) (fun v w=>by cases v;cases w;rw [Bool.eq_iff_iff];simp) p q hl (q5h p q) (fun _=>rfl)
theorem quy (p q : List qe) (hl : p.length≤1000000) : qf6 p q = some (decide (p = q)):=
  qkr (fun v w=>((v.Lo == w.Lo) && ((v.Hi == w.Hi) && true))) (fun v w=>by cases v;cases w;rw [Bool.eq_iff_iff];simp) p q hl (qfj p q) (fun _=>rfl)
theorem qti (p q : List qb) (hl : p.length≤1000000) : q3r p q = some (decide (p = q)):=
  qkr (fun v w=>((v.X0 == w.X0) && ((v.Y0 == w.Y0) && ((v.X1 == w.X1) && ((v.Y1 == w.Y1) && true))))) (fun v w=>by cases v;cases w;rw [Bool.eq_iff_iff];simp) p q hl (q57 p q) (fun _=>rfl)
theorem qoa (p q : List qb) (hl : p.length≤1000000) : q8e p q = some (decide (p = q)):=
  qkr (fun v w=>((v.X0 == w.X0) && ((v.Y0 == w.Y0) && ((v.X1 == w.X1) && ((v.Y1 == w.Y1) && true))))) (fun v w=>by cases v;cases w;rw [Bool.eq_iff_iff];simp) p q hl (qaw p q) (fun _=>rfl)
theorem sameBox (p q : List q8) (hl : p.length≤1000000) : q6r p q = some (decide (p = q)):=
  qkr (fun v w=>((v.Lo.X == w.Lo.X) && ((v.Lo.Y == w.Lo.Y) && ((v.Lo.Z == w.Lo.Z) && ((v.Hi.X == w.Hi.X) && ((v.Hi.Y == w.Hi.Y) && ((v.Hi.Z == w.Hi.Z) && true))))))) (fun v w=>by rcases v with ⟨⟨_,_,_⟩,⟨_,_,_⟩⟩;rcases w with ⟨⟨_,_,_⟩,⟨_,_,_⟩⟩;rw [Bool.eq_iff_iff];simp [and_assoc]) p q hl (qax p q) (fun _=>rfl)
structure Mg (σ β : Type) where
  done : List β
  sec : List σ
  lo : Int
  hi : Int
section
variable {σ β : Type} [DecidableEq σ] (put : Int→Int→σ→β)
def Mg.flat (s : Mg σ β) : List β:=s.done ++ s.sec.map (put s.lo s.hi)
def addM (s : Mg σ β) (a b : Int) (c : List σ) : Mg σ β:=if c≠[]∧c = s.sec∧s.hi = a then ⟨s.done,s.sec,s.lo,b⟩ else ⟨s.flat put,c,a,b⟩
def q1z : Mg σ β:=⟨[],[],0,0⟩
def q23 (s0 : Mg σ β) (steps : List (Int × Int × List σ)) : Mg σ β:=steps.foldl (fun s t=>addM put s t.1 t.2.1 t.2.2) s0
theorem qcp {s0 : Mg σ β} {steps : List (Int × Int × List σ)} {i : Nat} (h : i < steps.length) : q23 put s0 (steps.take (i + 1)) = addM put (q23 put s0 (steps.take i)) steps[i].1 steps[i].2.1 steps[i].2.2:=by
  unfold q23
  rw [List.take_succ_eq_append_getElem h,List.foldl_append];rfl
theorem qwn (s : Mg σ β) (a b : Int) (c : List σ) : (addM put s a b c).hi = b:=by unfold addM;split <;> rfl
theorem q10m (s : Mg σ β) (a b : Int) (c : List σ) : ((addM put s a b c).flat put).length≤(s.flat put).length + c.length:=by
  unfold addM;split
  · simp [Mg.flat]
  · simp [Mg.flat];omega
theorem qks {s0 : Mg σ β} {M : Nat} : ∀ {steps : List (Int × Int × List σ)},(∀ t∈steps,t.2.2.length≤M)→((q23 put s0 steps).flat put).length≤(s0.flat put).length + steps.length * M:=by
  intro steps
  induction steps generalizing s0 with
  | nil=>intro _;simp [q23]
  | cons t r ih=>
    intro h
    have h1:=ih (s0:=addM put s0 t.1 t.2.1 t.2.2) fun u hu=>h u (by simp [hu])
    have h2:=q10m put s0 t.1 t.2.1 t.2.2
    have h3:=h t (by simp)
    have h4 : q23 put s0 (t::r) = q23 put (addM put s0 t.1 t.2.1 t.2.2) r:=rfl
    rw [h4]
    simp only [List.length_cons,Nat.succ_mul]
    omega
end
section
variable {σ : Type}
def q60 (cuts : List Int) (sec : Int→List σ) : List (Int × Int × List σ):=(cuts.zip cuts.tail).map fun c=>(c.1,c.2,sec c.1)
theorem qdi (cuts : List Int) (sec : Int→List σ) : (q60 cuts sec).length = cuts.length - 1:=by simp [q60]
theorem qdh {cuts : List Int} {sec : Int→List σ} {i : Nat} (h : i < (q60 cuts sec).length) (h1 : i + 1 < cuts.length) : (q60 cuts sec)[i] = (cuts[i],cuts[i + 1],sec cuts[i]):=by
  simp [q60]
theorem qwk {cuts : List Int} {sec : Int→List σ} {M : Nat} (h : ∀ x,(sec x).length≤M) : ∀ t∈q60 cuts sec,t.2.2.length≤M:=by
  intro t ht
  simp only [q60,List.mem_map] at ht
  obtain ⟨c,_,rfl⟩:=ht
  exact h _
end
theorem q9l {σ β : Type} [DecidableEq σ] (put : Int→Int→σ→β) (s : Mg σ β) (a b : Int) (c : List σ) : (c≠[]∧c = s.sec∧s.hi = a∧addM put s a b c = ⟨s.done,s.sec,s.lo,b⟩)∨(¬ (c≠[]∧c = s.sec∧s.hi = a)∧addM put s a b c = ⟨s.flat put,c,a,b⟩):=by
  unfold addM
  split
  · rename_i h;exact .inl ⟨h.1,h.2.1,h.2.2,rfl⟩
  · rename_i h;exact .inr ⟨h,rfl⟩
def putR (a b : Int) (t : qe) : qb:={X0:=a,Y0:=t.Lo,X1:=b,Y1:=t.Hi}
theorem q12v (s : Mg qe qb) (a b : Int) (c : List qe) (hl : (s.flat putR).length + c.length≤1000000) :
    q71 (s.flat putR) s.sec (s.done.length : Int) s.hi a b c = some ((addM putR s a b c).sec,((addM putR s a b c).done.length : Int),(addM putR s a b c).hi,(addM putR s a b c).flat putR):=by
  have hsec : s.sec.length≤1000000:=by have : (s.flat putR).length = s.done.length + s.sec.length:=(by simp [Mg.flat]);omega
  unfold q71
  rcases q9l putR s a b c with ⟨h1,h2,h3,h4⟩ | ⟨h1,h4⟩
  · have hb : decide ((c.length : Int) > 0) = true:=decide_eq_true (by have:=List.length_pos_iff.2 h1;omega)
    have he : (s.hi == a) = true:=by simpa using h3
    rw [h2] at hb
    rw [h4,h2]
    simp only [hb,cond_true,he,Option.bind_some,qz8 _ _ hsec,decide_true]
    have:=qmb (fun v : qb=>({X0:=v.X0,Y0:=v.Y0,X1:=b,Y1:=v.Y1} : qb)) s.done (s.sec.map (putR s.lo s.hi)) (by have : (s.done ++ s.sec.map (putR s.lo s.hi)).length = (s.flat putR).length:=rfl;omega) (q5f b) (fun k o hk ho=>by
      have h5 : (s.done ++ s.sec.map (putR s.lo s.hi)).length = (s.flat putR).length:=rfl
      simp only [q5f,dlt hk,cond_true,q10 hk,Option.bind_some,w64s hk (by omega),Int.toNat_natCast]) (fun o=>by simp only [q5f,dnl,cond_false])
    rw [show s.flat putR = s.done ++ s.sec.map (putR s.lo s.hi) from rfl,this]
    simp only [Option.bind_some,Mg.flat,List.map_map]
    rfl
  · rw [h4]
    have hc : ((cond (decide ((c.length : Int) > 0)) (some (s.hi == a)) (some false)).bind fun c101=>(cond c101 ((q52 s.sec c).bind fun r121=>some r121) (some false))) = some false:=by
      by_cases h5 : c = []
      · subst h5;simp
      · have hb : decide ((c.length : Int) > 0) = true:=decide_eq_true (by have:=List.length_pos_iff.2 h5;omega)
        simp only [hb,cond_true,Option.bind_some,qz8 _ _ hsec]
        by_cases h6 : s.hi = a
        · have h7 : s.sec≠c:=fun h=>h1 ⟨h5,h.symm,h6⟩
          simp [h6,h7]
        · have : (s.hi == a) = false:=by simpa using h6
          simp [this]
    have hap:=qig c (putR a b) (s.flat putR) (fun o=>(c,((s.flat putR).length : Int),b,o)) (q5g c a b (s.flat putR)) (fun k hk o ho=>by
      simp only [q5g,dlt hk,cond_true,q10 hk,Option.bind_some,w64s hk (by omega)]
      rw [q62 (by simp;omega)]
      rfl) (fun o=>by simp only [q5g,dnl,cond_false])
    rw [← Option.bind_assoc,hc]
    simp only [Option.bind_some,cond_false,hap]
    simp [Mg.flat]
end Go.Sh
namespace Go.Sh
open Go Go.Am
def vR (r : qb) : Prop:=r.X0 < r.X1∧r.Y0 < r.Y1∧-1000000≤r.X0∧r.X0≤1000000∧-1000000≤r.X1∧r.X1≤1000000∧-1000000≤r.Y0∧r.Y0≤1000000∧-1000000≤r.Y1∧r.Y1≤1000000
instance (r : qb) : Decidable (vR r):=by unfold vR;infer_instance
theorem q138 (x : Int) : q8q x = some (decide (-1000000≤x∧x≤1000000)):=by
  unfold q8q
  by_cases h : x ≥ -1000000 <;> by_cases h' : x≤1000000 <;> simp [h,h'] <;> omega
theorem qm5 (r : qb) : qal r = some (decide (vR r)):=by
  unfold qal
  simp only [q138,qz2,Option.bind_some,vR]
  by_cases h1 : r.X0 < r.X1 <;> by_cases h2 : r.Y0 < r.Y1 <;> by_cases h3 : -1000000≤r.X0∧r.X0≤1000000 <;> by_cases h4 : -1000000≤r.X1∧r.X1≤1000000 <;> by_cases h5 : -1000000≤r.Y0∧r.Y0≤1000000 <;> by_cases h6 : -1000000≤r.Y1∧r.Y1≤1000000 <;> simp [h1,h2,h3,h4,h5,h6] <;> omega
theorem qup (r : qb) : qhn r = some (decide (vR r)):=qm5 r
def covR (x : Int) (r : qb) : Bool:=decide (r.X0≤x) && decide (x < r.X1)
def ysp (r : qb) : qe:={Lo:=r.Y0,Hi:=r.Y1}
def covS (l : List qb) (x : Int) : List qe:=l.flatMap fun r=>if covR x r = true then [ysp r] else []
def hasR (l : List qb) (x y : Int) : Prop:=∃ r∈l,r.X0≤x∧x < r.X1∧r.Y0≤y∧y < r.Y1
theorem qjd {l : List qb} {x : Int} {t : qe} : t∈covS l x↔∃ r∈l,covR x r = true∧t = ysp r:=by
  unfold covS
  rw [List.mem_flatMap]
  constructor
  · rintro ⟨r,hr,h⟩
    split at h
    · rename_i hc;simp only [List.mem_singleton] at h;exact ⟨r,hr,hc,h⟩
    · cases h
  · rintro ⟨r,hr,hc,rfl⟩;exact ⟨r,hr,by simp [hc]⟩
theorem qa2 {l : List qb} {x y : Int} : has (covS l x) y↔hasR l x y:=by
  unfold has hasR
  constructor
  · rintro ⟨t,ht,h1,h2⟩
    obtain ⟨r,hr,hc,rfl⟩:=qjd.1 ht
    simp only [covR,Bool.and_eq_true,decide_eq_true_eq] at hc
    exact ⟨r,hr,hc.1,hc.2,h1,h2⟩
  · rintro ⟨r,hr,h1,h2,h3,h4⟩
    exact ⟨ysp r,qjd.2 ⟨r,hr,by simp [covR,h1,h2],rfl⟩,h3,h4⟩
theorem qc9 (l : List qb) (x : Int) : (covS l x).length≤l.length:=by
  unfold covS
  induction l with
  | nil=>simp
  | cons r l ih=>
    simp only [List.flatMap_cons,List.length_append,List.length_cons]
    have : (if covR x r = true then [ysp r] else []).length≤1:=by split <;> simp
    omega
theorem q118 {l : List qb} (h : ∀ r∈l,vR r) (x : Int) : ∀ t∈covS l x,vld t:=by
  intro t ht
  obtain ⟨r,hr,_,rfl⟩:=qjd.1 ht
  obtain ⟨_,h2,_,_,_,_,h3,_,_,h4⟩:=h r hr
  exact ⟨h2,h3,h4⟩
def xsOf (l : List qb) : List Int:=l.flatMap fun r=>[r.X0,r.X1]
def ysOf (l : List qb) : List Int:=l.flatMap fun r=>[r.Y0,r.Y1]
theorem qb3 (l : List qb) : (xsOf l).length = 2 * l.length:=by
  unfold xsOf;induction l with
  | nil=>rfl
  | cons r l ih=>simp only [List.flatMap_cons,List.length_append,List.length_cons,List.length_nil];omega
theorem qhb (l : List qb) : (ysOf l).length = 2 * l.length:=by
  unfold ysOf;induction l with
  | nil=>rfl
  | cons r l ih=>simp only [List.flatMap_cons,List.length_append,List.length_cons,List.length_nil];omega
theorem qrd {l : List qb} {x y : Int} (h : y∈ends (covS l x)) : y∈ysOf l:=by
  obtain ⟨t,ht,h⟩:=qgt.1 h
  obtain ⟨r,hr,_,rfl⟩:=qjd.1 ht
  unfold ysOf
  rw [List.mem_flatMap]
  exact ⟨r,hr,by rcases h with h | h <;> simp [h,ysp]⟩
noncomputable def q11 (l : List Int) : List Int:=(q6p l).getD []
theorem q8o {l : List Int} (hl : l.length≤1000000) : q6p l = some (q11 l)∧q78 l (q11 l)∧(q11 l).length≤l.length:=by
  obtain ⟨t,h1,h2,h3⟩:=qs0 l hl
  unfold q11;rw [h1];exact ⟨rfl,h2,h3⟩
noncomputable def secJ (kind : Int) (p q : List qb) (x : Int) : List qe:=qf3 kind (covS p x) (covS q x)
theorem qog (kind : Int) {p q : List qb} (h : p.length + q.length≤100000) (x : Int) : (secJ kind p q x).length≤2 * (p.length + q.length):=by
  have h1:=qc9 p x
  have h2:=qc9 q x
  have:=(qeh kind (covS p x) (covS q x) (by omega) (by omega)).2.len
  unfold secJ;omega
noncomputable def mrg (kind : Int) (p q : List qb) : Mg qe qb:=q23 putR q1z (q60 (q11 (xsOf p ++ xsOf q)) (secJ kind p q))
noncomputable def mrgR (kind : Int) (p q : List qb) : List qb:=(mrg kind p q).flat putR
theorem qsw {p q : List qb} (h : p.length + q.length≤400) : q6p (xsOf p ++ xsOf q) = some (q11 (xsOf p ++ xsOf q))∧q78 (xsOf p ++ xsOf q) (q11 (xsOf p ++ xsOf q))∧(q11 (xsOf p ++ xsOf q)).length≤2 * (p.length + q.length):=by
  have h1:=qb3 p
  have h2:=qb3 q
  obtain ⟨a,b,c⟩:=q8o (l:=xsOf p ++ xsOf q) (by simp;omega)
  exact ⟨a,b,by simp at c;omega⟩
theorem qxp {p q : List qb} (h : p.length + q.length≤400) : q6p (ysOf p ++ ysOf q) = some (q11 (ysOf p ++ ysOf q))∧q78 (ysOf p ++ ysOf q) (q11 (ysOf p ++ ysOf q))∧(q11 (ysOf p ++ ysOf q)).length≤2 * (p.length + q.length):=by
  have h1:=qhb p
  have h2:=qhb q
  obtain ⟨a,b,c⟩:=q8o (l:=ysOf p ++ ysOf q) (by simp;omega)
  exact ⟨a,b,by simp at c;omega⟩
theorem qgu (kind : Int) {p q : List qb} (h : p.length + q.length≤400) (i : Nat) :
    ((q23 putR q1z ((q60 (q11 (xsOf p ++ xsOf q)) (secJ kind p q)).take i)).flat putR).length≤800 * 800:=by
  have h1:=qks putR (s0:=q1z) (M:=800) (steps:=(q60 (q11 (xsOf p ++ xsOf q)) (secJ kind p q)).take i) (fun t ht=>by
    have:=qwk (M:=2 * (p.length + q.length)) (fun x=>qog kind (by omega) x) t (List.mem_of_mem_take ht)
    omega)
  have h2 : ((q60 (q11 (xsOf p ++ xsOf q)) (secJ kind p q)).take i).length≤800:=by
    have:=(qsw h).2.2
    rw [List.length_take,qdi];omega
  have h3 : (q1z.flat putR : List qb).length = 0:=rfl
  have h4 : ((q60 (q11 (xsOf p ++ xsOf q)) (secJ kind p q)).take i).length * 800≤800 * 800:=Nat.mul_le_mul_right _ h2
  omega
theorem qzh (l : List qb) (hl : l.length≤400) :
    (((idx [l] 0).bind fun v95=>(loop (q72 v95) (0,[])).bind fun x0=>some x0).bind fun b94=>(q2v b94).bind fun e127=>(q1d e127.length b94.length).bind fun u129=>(q3o e127).bind fun e132=>(q1d e132.2.length e127.length).bind fun u134=>(qht e132.2.length e132.1).bind fun u137=>some ((e132.2.drop e132.1.1).take e132.1.2)) = some (q11 (xsOf l)):=by
  have e0 : idx [l] 0 = some l:=rfl
  have e1 : loop (q72 l) (0,[]) = some (xsOf l):=by
    have:=qae l (by omega) (fun r=>[r.X0,r.X1]) [] (fun o=>o) (q72 l) (fun k hk o ho=>by
      have h8 : o.length = 2 * k:=by rw [ho,List.nil_append];have:=qb3 (l.take k);rw [List.length_take,Nat.min_eq_left (by omega)] at this;exact this
      simp only [q72,dlt hk,cond_true,q10 hk,Option.bind_some,w64s hk (by omega)]
      rw [q62 (by simp;omega)]
      rfl) (fun o=>by simp only [q72,dnl,cond_false])
    rw [List.nil_append] at this
    exact this
  have hx:=qb3 l
  obtain ⟨ys,s1,s2,s3⟩:=qv6 (xsOf l) (by omega)
  have hys : ys.length = (xsOf l).length:=s2.length_eq
  obtain ⟨w,a,c1,c2,c3,c4⟩:=qoz s3 (by omega)
  obtain ⟨_,d2,_⟩:=q8o (l:=xsOf l) (by omega)
  have huniq : a.take w = q11 (xsOf l):=by
    refine qk7 (l:=xsOf l) ⟨c4.1,fun x=>?_⟩ d2
    rw [c4.2 x];exact s2.mem_iff
  simp only [e0,Option.bind_some,e1,s1,q1d,hys,if_true,c1,c2,qht]
  rw [if_pos (by omega)]
  simp only [Option.bind_some,List.drop_zero,huniq]
theorem q11p (l : List qb) (hl : l.length≤400) (x : Int) : loop (q7s l x) (0,[]) = some (covS l x):=by
  have:=qae l (by omega) (fun r=>if covR x r = true then [ysp r] else []) [] (fun o=>o) (q7s l x) (fun k hk o ho=>by
    have h8 : o.length≤k:=by rw [ho,List.nil_append];have:=qc9 (l.take k) x;rw [List.length_take,Nat.min_eq_left (by omega)] at this;exact this
    simp only [q7s,dlt hk,cond_true,q10 hk,Option.bind_some,w64s hk (by omega)]
    by_cases h1 : l[k].X0≤x
    · by_cases h2 : x < l[k].X1
      · simp only [h1,h2,decide_true,cond_true,Option.bind_some,covR,Bool.and_self,if_true]
        rw [q62 (by simp;omega)]
        rfl
      · simp only [h1,h2,decide_true,decide_false,cond_true,cond_false,Option.bind_some,covR,Bool.and_false,if_false,Bool.false_eq_true,List.append_nil]
    · simp only [h1,decide_false,cond_false,Option.bind_some,covR,Bool.false_and,if_false,Bool.false_eq_true,List.append_nil]) (fun o=>by simp only [q7s,dnl,cond_false])
  rw [List.nil_append] at this
  exact this
theorem qwz (l : List qb) (hl : l.length≤400) (hv : ∀ r∈l,vR r) : qbl l = some (if 400 < (mrgR 2 l []).length then ([],4) else (mrgR 2 l [],0)):=by
  unfold qbl
  rw [qzh l hl]
  simp only [Option.bind_some]
  have hcut : q11 (xsOf l ++ xsOf []) = q11 (xsOf l):=by simp [xsOf]
  obtain ⟨_,hso,hlen⟩:=qsw (p:=l) (q:=[]) (by simpa using hl)
  have hml:=fun i=>qgu 2 (p:=l) (q:=[]) (by simpa using hl) i
  rw [hcut] at hso hlen
  have hlen : (q11 (xsOf l)).length≤2 * l.length:=by simpa using hlen
  have hmain : loop (q73 (q11 (xsOf l)) l) (1,[],0,0,[]) = some ((mrg 2 l []).sec,((mrg 2 l []).done.length : Int),(mrg 2 l []).hi,mrgR 2 l []):=by
    unfold mrgR mrg
    rw [hcut] at hml ⊢
    generalize hst : q60 (q11 (xsOf l)) (secJ 2 l []) = steps at hml ⊢
    have hsl : steps.length = (q11 (xsOf l)).length - 1:=by rw [← hst];exact qdi _ _
    have hfin : q23 putR q1z (steps.take steps.length) = q23 putR q1z steps:=by rw [List.take_length]
    have key:=q6u (f:=q73 (q11 (xsOf l)) l) (fun k=>(((k + 1 : Nat) : Int),(q23 putR q1z (steps.take k)).sec,((q23 putR q1z (steps.take k)).done.length : Int),(q23 putR q1z (steps.take k)).hi,(q23 putR q1z (steps.take k)).flat putR))
      steps.length ((q23 putR q1z steps).sec,((q23 putR q1z steps).done.length : Int),(q23 putR q1z steps).hi,(q23 putR q1z steps).flat putR) (fun k hk=>by
        have hk1 : k + 1 < (q11 (xsOf l)).length:=by omega
        have hg : steps[k] = ((q11 (xsOf l))[k],(q11 (xsOf l))[k + 1],secJ 2 l [] (q11 (xsOf l))[k]):=by
          subst hst;exact qdh hk hk1
        have i1 : idx (q11 (xsOf l)) (w64 (((k + 1 : Nat) : Int) - 1)) = some (q11 (xsOf l))[k]:=by rw [qr (by omega)];exact qeg (by omega) (by omega)
        have hcl:=qc9 l (q11 (xsOf l))[k]
        have hmk : qe3 (covS l (q11 (xsOf l))[k]) = some (secJ 2 l [] (q11 (xsOf l))[k],0):=by
          rw [q13d]
          unfold qxz
          rw [if_neg (by omega),if_pos (q118 hv _)]
          rfl
        have hbl:=qog 2 (p:=l) (q:=[]) (by simp;omega) (q11 (xsOf l))[k]
        have hml':=hml k
        have hb:=q12v (q23 putR q1z (steps.take k)) (q11 (xsOf l))[k] (q11 (xsOf l))[k + 1] (secJ 2 l [] (q11 (xsOf l))[k]) (by simp at hbl;omega)
        rw [qcp putR hk,hg]
        simp only [q73,dlt hk1,cond_true,i1,q10 hk1,Option.bind_some,show idx [l] 0 = some l from rfl,q11p l hl,hmk,hb,Bool.not_true,cond_false]
        rw [w64s hk1 (by omega)]) (by
        rw [hfin]
        by_cases h0 : (q11 (xsOf l)).length = 0
        · have : decide (((steps.length + 1 : Nat) : Int) < ((q11 (xsOf l)).length : Int)) = false:=decide_eq_false (by omega)
          simp only [q73,this,cond_false]
        · have : decide (((steps.length + 1 : Nat) : Int) < ((q11 (xsOf l)).length : Int)) = false:=decide_eq_false (by omega)
          simp only [q73,this,cond_false]) (Nat.zero_le _)
    exact key
  rw [hmain]
  simp only [Option.bind_some]
  by_cases h4 : 400 < (mrgR 2 l []).length
  · rw [decide_eq_true (by omega : ((mrgR 2 l []).length : Int) > 400),if_pos h4];rfl
  · rw [decide_eq_false (by omega : ¬ ((mrgR 2 l []).length : Int) > 400),if_neg h4];rfl
end Go.Sh
namespace Go.Sh
open Go Go.Am
theorem qzx {p q : List qb} (h : p.length + q.length≤400) : qla p q = some (q11 (xsOf p ++ xsOf q)):=by
  have e1 : loop (qcg p) (0,[]) = some (xsOf p):=by
    have:=qae p (by omega) (fun r=>[r.X0,r.X1]) [] (fun o=>o) (qcg p) (fun k hk o ho=>by
      have h8 : o.length = 2 * k:=by rw [ho,List.nil_append];have:=qb3 (p.take k);rw [List.length_take,Nat.min_eq_left (by omega)] at this;exact this
      simp only [qcg,dlt hk,cond_true,q10 hk,Option.bind_some,w64s hk (by omega)]
      rw [q62 (by simp;omega)]
      rfl) (fun o=>by simp only [qcg,dnl,cond_false])
    rw [List.nil_append] at this
    exact this
  have e2 : loop (qch q) (0,xsOf p) = some (xsOf p ++ xsOf q):=by
    have hp:=qb3 p
    exact qae q (by omega) (fun r=>[r.X0,r.X1]) (xsOf p) (fun o=>o) (qch q) (fun k hk o ho=>by
      have h8 : o.length = 2 * p.length + 2 * k:=by
        rw [ho,List.length_append,hp];have:=qb3 (q.take k);rw [List.length_take,Nat.min_eq_left (by omega)] at this
        unfold xsOf at this;omega
      simp only [qch,dlt hk,cond_true,q10 hk,Option.bind_some,w64s hk (by omega)]
      rw [q62 (by simp;omega)]
      rfl) (fun o=>by simp only [qch,dnl,cond_false])
  unfold qla
  simp only [e1,e2,Option.bind_some,(qsw h).1]
theorem qzz {p q : List qb} (h : p.length + q.length≤400) : qlb p q = some (q11 (ysOf p ++ ysOf q)):=by
  have e1 : loop (qci p) (0,[]) = some (ysOf p):=by
    have:=qae p (by omega) (fun r=>[r.Y0,r.Y1]) [] (fun o=>o) (qci p) (fun k hk o ho=>by
      have h8 : o.length = 2 * k:=by rw [ho,List.nil_append];have:=qhb (p.take k);rw [List.length_take,Nat.min_eq_left (by omega)] at this;exact this
      simp only [qci,dlt hk,cond_true,q10 hk,Option.bind_some,w64s hk (by omega)]
      rw [q62 (by simp;omega)]
      rfl) (fun o=>by simp only [qci,dnl,cond_false])
    rw [List.nil_append] at this
    exact this
  have e2 : loop (qcj q) (0,ysOf p) = some (ysOf p ++ ysOf q):=by
    have hp:=qhb p
    exact qae q (by omega) (fun r=>[r.Y0,r.Y1]) (ysOf p) (fun o=>o) (qcj q) (fun k hk o ho=>by
      have h8 : o.length = 2 * p.length + 2 * k:=by
        rw [ho,List.length_append,hp];have:=qhb (q.take k);rw [List.length_take,Nat.min_eq_left (by omega)] at this
        unfold ysOf at this;omega
      simp only [qcj,dlt hk,cond_true,q10 hk,Option.bind_some,w64s hk (by omega)]
      rw [q62 (by simp;omega)]
      rfl) (fun o=>by simp only [qcj,dnl,cond_false])
  unfold qlb
  simp only [e1,e2,Option.bind_some,(qxp h).1]
open Classical in
theorem qjj (l : List qb) (x y : Int) (hl : l.length≤1000000) : qf7 l x y = some (decide (hasR l x y)):=by
  let c : qb→Bool:=fun r=>decide (r.X0≤x) && (decide (x < r.X1) && (decide (r.Y0≤y) && decide (y < r.Y1)))
  have hs : ∀ (k : Nat) (h : k < l.length),q9t l x y (k : Int) = some (if c l[k] = true then .inr (.inr true) else .inl ((k + 1 : Nat) : Int)):=by
    intro k h
    simp only [q9t,dlt h,cond_true,q10 h,Option.bind_some,w64s h hl,c]
    by_cases h1 : l[k].X0≤x <;> by_cases h2 : x < l[k].X1 <;> by_cases h3 : l[k].Y0≤y <;> by_cases h4 : y < l[k].Y1 <;> simp [h1,h2,h3,h4]
  have hd : q9t l x y (l.length : Int) = some (.inr (.inl ())):=by simp only [q9t,dnl,cond_false]
  unfold qf7
  rcases q9z l c (fun _ _=>true) () (q9t l x y) hs hd with ⟨h1,h2⟩ | ⟨k,hk,hc,_,h2⟩
  · rw [h2]
    have : ¬ hasR l x y:=by
      rintro ⟨r,hr,a1,a2,a3,a4⟩
      have:=h1 r hr
      simp [c,a1,a2,a3,a4] at this
    simp [this]
  · rw [h2]
    have : hasR l x y:=by
      simp only [c,Bool.and_eq_true,decide_eq_true_eq] at hc
      exact ⟨l[k],List.getElem_mem hk,hc.1,hc.2.1,hc.2.2.1,hc.2.2.2⟩
    simp [this]
theorem qkw {kind : Int} {a b : Prop} (h : q5v kind a b) : a∨b:=by
  rcases h with ⟨_,h,_⟩ | ⟨_,h⟩ | ⟨_,_,h,_⟩
  · exact .inl h
  · exact h
  · exact .inl h
theorem qkv {kind : Int} {a b a' b' : Prop} (h1 : a↔a') (h2 : b↔b') : q5v kind a b↔q5v kind a' b':=by
  unfold q5v;rw [h1,h2]
open Classical in
theorem qyt (kind : Int) {p q : List qb} (h : p.length + q.length≤400) (x : Int) :
    qcf (q11 (ysOf p ++ ysOf q)) ((q11 (ysOf p ++ ysOf q)).map fun y=>decide (q5v kind (hasR p x y) (hasR q x y))) = some (secJ kind p q x):=by
  obtain ⟨_,hso,hlen⟩:=qxp h
  generalize q11 (ysOf p ++ ysOf q) = ys at hso hlen ⊢
  obtain ⟨c,h1,h2⟩:=qt7 ys (ys.map fun y=>decide (q5v kind (hasR p x y) (hasR q x y))) hso.1 (by omega) (by simp)
  rw [h1]
  have cp:=qc9 p x
  have cq:=qc9 q x
  have hj:=(qeh kind (covS p x) (covS q x) (by omega) (by omega)).2
  have mp : ∀ z∈ends (covS p x),z∈ys:=fun z hz=>(hso.2 z).2 (List.mem_append.2 (.inl (qrd hz)))
  have mq : ∀ z∈ends (covS q x),z∈ys:=fun z hz=>(hso.2 z).2 (List.mem_append.2 (.inr (qrd hz)))
  congr 1
  refine qe9 h2.can hj.can fun z=>?_
  unfold secJ
  rw [h2.pts z,hj.pts z]
  constructor
  · rintro ⟨i,hi,hi',_,hin,a1,a2⟩
    simp only [List.getElem_map,decide_eq_true_eq] at hin
    refine (qkv ?_ ?_).2 hin
    · rw [qe2 hso.1 mp hi a1 a2,qa2]
    · rw [qe2 hso.1 mq hi a1 a2,qa2]
  · intro hh
    have : ∃ i,∃ (h : i + 1 < ys.length),ys[i]≤z∧z < ys[i + 1]:=by
      rcases qkw hh with h | h
      · exact qme hso.1 mp h
      · exact qme hso.1 mq h
    obtain ⟨i,hi,a1,a2⟩:=this
    refine ⟨i,hi,by simp;omega,by omega,?_,a1,a2⟩
    simp only [List.getElem_map,decide_eq_true_eq]
    refine (qkv ?_ ?_).1 hh
    · rw [qe2 hso.1 mp hi a1 a2,qa2]
    · rw [qe2 hso.1 mq hi a1 a2,qa2]
open Classical in
theorem qvv (kind : Int) {p q : List qb} (h : p.length + q.length≤400) (ys xs : List Int) (hy : ys.length≤1000000) (i : Nat) (hi : i < xs.length) (a : List qe × Int × Int × List qb) (ha : a.2.2.1 = i) :
    loop (q8b ys xs a p q kind) (0,[]) = some (ys.map fun y=>decide (q5v kind (hasR p xs[i] y) (hasR q xs[i] y))):=by
  have:=qig ys (fun y=>decide (q5v kind (hasR p xs[i] y) (hasR q xs[i] y))) [] (fun o=>o) (q8b ys xs a p q kind) (fun k hk o ho=>by
    simp only [q8b,dlt hk,cond_true,ha,q10 hk,q10 hi,Option.bind_some,qjj p _ _ (by omega),qjj q _ _ (by omega),qtw,w64s hk hy]
    rw [q62 (by simp at ho ⊢;omega)]
    rfl) (fun o=>by simp only [q8b,dnl,cond_false])
  rw [List.nil_append] at this
  exact this
theorem qu0 (kind : Int) {p q : List qb} (h : p.length + q.length≤400) {xs : List Int} (hx : xs.length≤1000000) {i : Nat} (hi : i + 1 < xs.length) (s : Mg qe qb) (hl : (s.flat putR).length + (secJ kind p q xs[i]).length≤1000000)
    (h0 : i = 0→s.sec = []) (h1 : 0 < i→s.hi = xs[i]) :
    q7l xs (q11 (ysOf p ++ ysOf q)) p q kind (s.sec,(s.done.length : Int),(i : Int),s.flat putR) =
      some (.inl ((addM putR s xs[i] xs[i + 1] (secJ kind p q xs[i])).sec,((addM putR s xs[i] xs[i + 1] (secJ kind p q xs[i])).done.length : Int),((i + 1 : Nat) : Int),(addM putR s xs[i] xs[i + 1] (secJ kind p q xs[i])).flat putR)):=by
  have hi0 : i < xs.length:=by omega
  have hw : w64 ((i : Int) + 1) = ((i + 1 : Nat) : Int):=w64s hi0 hx
  have hy:=(qxp h).2.2
  have hfl : (s.flat putR).length = s.done.length + s.sec.length:=by simp [Mg.flat]
  have hins:=qvv kind h (q11 (ysOf p ++ ysOf q)) xs (by omega) i hi0 (s.sec,(s.done.length : Int),(i : Int),s.flat putR) rfl
  unfold q7l
  simp only [hw,dlt hi,cond_true,hins,Option.bind_some,qyt kind h]
  generalize hc : secJ kind p q xs[i] = c at hl ⊢
  by_cases hsame : 0 < i∧c = s.sec
  · obtain ⟨hpos,hcs⟩:=hsame
    have hb : decide ((i : Int) > 0) = true:=decide_eq_true (by omega)
    have hext:=qmb (fun v : qb=>({X0:=v.X0,Y0:=v.Y0,X1:=xs[i + 1],Y1:=v.Y1} : qb)) s.done (s.sec.map (putR s.lo s.hi)) (by simp;omega) (q8c xs (s.sec,(s.done.length : Int),(i : Int),s.flat putR)) (fun k o hk ho=>by
      have h5 : (s.done ++ s.sec.map (putR s.lo s.hi)).length = (s.flat putR).length:=rfl
      simp only [q8c,dlt hk,cond_true,q10 hk,q10 hi,hw,Option.bind_some,w64s hk (by omega),Int.toNat_natCast]) (fun o=>by simp only [q8c,dnl,cond_false])
    have hsp : qf6 c s.sec = some true:=by rw [quy _ _ (by omega)];simp [hcs]
    have hext : loop (q8c xs (s.sec,(s.done.length : Int),(i : Int),s.flat putR)) ((s.done.length : Int),s.flat putR) = _:=hext
    simp only [hb,cond_true,hsp,Option.bind_some,hext]
    rcases q9l putR s xs[i] xs[i + 1] c with ⟨_,_,_,h4⟩ | ⟨h3,h4⟩
    · rw [h4]
      simp only [Mg.flat,List.map_map]
      rfl
    · have hnil : c = []:=Classical.byContradiction fun hn=>h3 ⟨hn,hcs,h1 hpos⟩
      rw [h4]
      simp [Mg.flat,← hcs,hnil]
  · have hcnd : (cond (decide ((i : Int) > 0)) ((qf6 c s.sec).bind fun r721=>some r721) (some false)) = some false:=by
      by_cases hpos : 0 < i
      · have hb : decide ((i : Int) > 0) = true:=decide_eq_true (by omega)
        have hne : c≠s.sec:=fun h=>hsame ⟨hpos,h⟩
        rw [hb,cond_true,quy _ _ (by omega)]
        simp [hne]
      · have hb : decide ((i : Int) > 0) = false:=decide_eq_false (by omega)
        rw [hb,cond_false]
    have hap:=qig c (putR xs[i] xs[i + 1]) (s.flat putR) (fun o=>(c,((s.flat putR).length : Int),o)) (q9h c xs (s.sec,(s.done.length : Int),(i : Int),s.flat putR)) (fun k hk o ho=>by
      simp only [q9h,dlt hk,cond_true,q10 hk,q10 hi0,q10 hi,hw,Option.bind_some,w64s hk (by omega)]
      rw [q62 (by simp;omega)]
      rfl) (fun o=>by simp only [q9h,dnl,cond_false])
    have h4 : addM putR s xs[i] xs[i + 1] c = ⟨s.flat putR,c,xs[i],xs[i + 1]⟩:=by
      rcases q9l putR s xs[i] xs[i + 1] c with ⟨g1,g2,_,_⟩ | ⟨_,h4⟩
      · refine absurd ?_ hsame
        refine ⟨Nat.pos_of_ne_zero fun h=>g1 ?_,g2⟩
        rw [g2,h0 h]
      · exact h4
    rw [h4]
    simp only [hcnd,Option.bind_some,cond_false,hap]
    simp [Mg.flat]
theorem q8d (kind : Int) {p q : List qb} (h : p.length + q.length≤400) : q64 kind p q = some (mrgR kind p q):=by
  unfold q64
  rw [qzx h,qzz h]
  simp only [Option.bind_some]
  obtain ⟨_,hso,hlen⟩:=qsw h
  have hml:=fun i=>qgu kind h i
  unfold mrgR mrg
  generalize q11 (xsOf p ++ xsOf q) = xs at hso hlen hml ⊢
  generalize hst : q60 xs (secJ kind p q) = steps at hml ⊢
  have hsl : steps.length = xs.length - 1:=by rw [← hst];exact qdi _ _
  have key:=q6u (f:=q7l xs (q11 (ysOf p ++ ysOf q)) p q kind) (fun k=>((q23 putR q1z (steps.take k)).sec,((q23 putR q1z (steps.take k)).done.length : Int),(k : Int),(q23 putR q1z (steps.take k)).flat putR))
    steps.length ((q23 putR q1z steps).flat putR) (fun k hk=>by
      have hk1 : k + 1 < xs.length:=by omega
      have hg : steps[k] = (xs[k],xs[k + 1],secJ kind p q xs[k]):=by subst hst;exact qdh hk hk1
      have hbl:=qog kind (p:=p) (q:=q) (by omega) xs[k]
      have hml':=hml k
      have:=qu0 kind h (xs:=xs) (by omega) hk1 (q23 putR q1z (steps.take k)) (by omega) (fun h0=>by subst h0;rfl) (fun hpos=>by
        obtain ⟨m,rfl⟩ : ∃ m,k = m + 1:=⟨k - 1,by omega⟩
        rw [qcp putR (by omega),qwn]
        subst hst
        rw [qdh (by omega) (by omega)])
      rw [this,qcp putR hk,hg]) (by
      rw [List.take_length]
      have hb : decide (w64 ((steps.length : Int) + 1) < (xs.length : Int)) = false:=by
        rw [qr (by omega)];exact decide_eq_false (by omega)
      unfold q7l
      simp only [hb,cond_false]) (Nat.zero_le _)
  have key : loop (q7l xs (q11 (ysOf p ++ ysOf q)) p q kind) ([],0,0,[]) = some ((q23 putR q1z steps).flat putR):=key
  rw [key];rfl
end Go.Sh
namespace Go.Sh
open Go Go.Am
noncomputable def q9m (l : List qb) : Int:=if 400 < l.length then 4 else if ∀ r∈l,vR r then (if mrgR 2 l [] = l then 0 else 8) else 8
theorem qyy {l : List qb} (h : q9m l = 0) : l.length≤400∧(∀ r∈l,vR r)∧mrgR 2 l [] = l:=by
  unfold q9m at h
  split at h
  · omega
  · split at h
    · split at h
      · rename_i a b c;exact ⟨by omega,b,c⟩
      · omega
    · omega
theorem qpk (l : List qb) (hl : l.length≤1000000) : q32 l (fun x0=>q70 x0) = some (decide (¬ ∀ r∈l,vR r)):=by
  have hs : ∀ (k : Nat) (h : k < l.length),q1m l (fun x0=>q70 x0) (k : Int) = some (if (fun r=>!decide (vR r)) l[k] = true then .inr (.inr (k : Int)) else .inl ((k + 1 : Nat) : Int)):=by
    intro k h
    simp only [q1m,dlt h,cond_true,q10 h,Option.bind_some,w64s h hl,q70,qm5]
    by_cases hv : vR l[k] <;> simp [hv]
  have hd : q1m l (fun x0=>q70 x0) (l.length : Int) = some (.inr (.inl ())):=by simp only [q1m,dnl,cond_false]
  unfold q32 q53
  rcases q9z l (fun r=>!decide (vR r)) (fun k _=>(k : Int)) () _ hs hd with ⟨h1,h2⟩ | ⟨k,hk,hc,_,h2⟩
  · rw [h2]
    have : ∀ r∈l,vR r:=fun r hr=>by simpa using h1 r hr
    simp []
    omega
  · rw [h2]
    have : ¬ ∀ r∈l,vR r:=fun h=>by simp [h _ (List.getElem_mem hk)] at hc
    simp only [Option.bind_some]
    rw [decide_eq_true this,decide_eq_true (by omega)]
theorem qpi (l : List qb) : qck l = some (q9m l):=by
  unfold qck q9m
  by_cases h4 : 400 < l.length
  · rw [decide_eq_true (by omega : (l.length : Int) > 400),cond_true,if_pos h4]
  rw [decide_eq_false (by omega : ¬ (l.length : Int) > 400),cond_false,if_neg h4,qpk l (by omega),Option.bind_some]
  by_cases hv : ∀ r∈l,vR r
  · rw [decide_eq_false (fun h=>h hv),cond_false,qwz l (by omega) hv,if_pos hv,Option.bind_some]
    by_cases hm : 400 < (mrgR 2 l []).length
    · have hne : mrgR 2 l []≠l:=fun h=>by rw [h] at hm;exact h4 hm
      rw [if_pos hm,if_neg hne];rfl
    · rw [if_neg hm]
      simp only [qti (mrgR 2 l []) l (by omega)]
      by_cases he : mrgR 2 l [] = l <;> simp [he]
  · rw [decide_eq_true hv,cond_true,if_neg hv]
theorem qum (l : List qb) : qfu l = some (q9m l):=by
  unfold qfu q9m
  by_cases h4 : 400 < l.length
  · rw [decide_eq_true (by omega : (l.length : Int) > 400),cond_true,if_pos h4]
  rw [decide_eq_false (by omega : ¬ (l.length : Int) > 400),cond_false,if_neg h4]
  have hl : l.length≤1000000:=by omega
  have hs : ∀ (k : Nat) (h : k < l.length),q96 l (k : Int) = some (if (fun r=>!decide (vR r)) l[k] = true then .inr (.inr (8 : Int)) else .inl ((k + 1 : Nat) : Int)):=by
    intro k h
    simp only [q96,dlt h,cond_true,q10 h,Option.bind_some,w64s h hl,qup]
    by_cases hv : vR l[k] <;> simp [hv]
  have hd : q96 l (l.length : Int) = some (.inr (.inl ())):=by simp only [q96,dnl,cond_false]
  rcases q9z l (fun r=>!decide (vR r)) (fun k _=>(8 : Int)) () _ hs hd with ⟨h1,h2⟩ | ⟨k,hk,hc,_,h2⟩
  · rw [h2]
    have : ∀ r∈l,vR r:=fun r hr=>by simpa using h1 r hr
    rw [if_pos this]
    have hml : (mrgR 2 l []).length≤1000000:=by
      have:=qgu 2 (p:=l) (q:=[]) (by simp;omega) (q60 (q11 (xsOf l ++ xsOf [])) (secJ 2 l [])).length
      rw [List.take_length] at this
      unfold mrgR mrg;omega
    simp only [Option.bind_some,q8d 2 (p:=l) (q:=[]) (by simp;omega),qoa _ l hml]
    by_cases he : mrgR 2 l [] = l <;> simp [he]
  · rw [h2]
    have : ¬ ∀ r∈l,vR r:=fun h=>by simp [h _ (List.getElem_mem hk)] at hc
    rw [if_neg this];rfl
def putB (a b : Int) (r : qb) : q8:={Lo:={X:=r.X0,Y:=r.Y0,Z:=a},Hi:={X:=r.X1,Y:=r.Y1,Z:=b}}
def q12k (z : Int) : Prop:=-1000000≤z∧z≤1000000
instance (z : Int) : Decidable (q12k z):=by unfold q12k;infer_instance
end Go.Sh
namespace Go.Sh
open Go Go.Am
def covB (z : Int) (b : q8) : Bool:=decide (b.Lo.Z≤z) && decide (z < b.Hi.Z)
def q97 (b : q8) : qb:={X0:=b.Lo.X,Y0:=b.Lo.Y,X1:=b.Hi.X,Y1:=b.Hi.Y}
def atB (l : List q8) (z : Int) : List qb:=l.flatMap fun b=>if covB z b = true then [q97 b] else []
theorem q9f (l : List q8) (x : Int) : (atB l x).length≤l.length:=by
  unfold atB
  induction l with
  | nil=>simp
  | cons r l ih=>
    simp only [List.flatMap_cons,List.length_append,List.length_cons]
    have : (if covB x r = true then [q97 r] else []).length≤1:=by split <;> simp
    omega
theorem qho (l : List q8) (hl : l.length≤1000000) (z : Int) : qb9 l z = some (atB l z):=by
  have:=qae l hl (fun b=>if covB z b = true then [q97 b] else []) [] (fun o=>o) (qdw l z) (fun k hk o ho=>by
    have h8 : o.length≤k:=by rw [ho,List.nil_append];have:=q9f (l.take k) z;rw [List.length_take,Nat.min_eq_left (by omega)] at this;exact this
    simp only [qdw,dlt hk,cond_true,q10 hk,Option.bind_some,w64s hk hl]
    by_cases h1 : l[k].Lo.Z≤z
    · by_cases h2 : z < l[k].Hi.Z
      · simp only [h1,h2,decide_true,cond_true,Option.bind_some,covB,Bool.and_self,if_true]
        rw [q62 (by simp;omega)]
        rfl
      · simp only [h1,h2,decide_true,decide_false,cond_true,cond_false,Option.bind_some,covB,Bool.and_false,if_false,Bool.false_eq_true,List.append_nil]
    · simp only [h1,decide_false,cond_false,Option.bind_some,covB,Bool.false_and,if_false,Bool.false_eq_true,List.append_nil]) (fun o=>by simp only [qdw,dnl,cond_false])
  rw [List.nil_append] at this
  unfold qb9
  rw [this];rfl
def zsOf (l : List q8) : List Int:=l.flatMap fun b=>[b.Lo.Z,b.Hi.Z]
theorem q7u (l : List q8) : (zsOf l).length = 2 * l.length:=by
  unfold zsOf;induction l with
  | nil=>rfl
  | cons r l ih=>simp only [List.flatMap_cons,List.length_append,List.length_cons,List.length_nil];omega
theorem qw4 {p q : List q8} (h : p.length + q.length≤100000) : qh0 p q = some (q11 (zsOf p ++ zsOf q)):=by
  have e1 : loop (qa4 p) (0,[]) = some (zsOf p):=by
    have:=qae p (by omega) (fun r=>[r.Lo.Z,r.Hi.Z]) [] (fun o=>o) (qa4 p) (fun k hk o ho=>by
      have h8 : o.length = 2 * k:=by rw [ho,List.nil_append];have:=q7u (p.take k);rw [List.length_take,Nat.min_eq_left (by omega)] at this;exact this
      simp only [qa4,dlt hk,cond_true,q10 hk,Option.bind_some,w64s hk (by omega)]
      rw [q62 (by simp;omega)]
      rfl) (fun o=>by simp only [qa4,dnl,cond_false])
    rw [List.nil_append] at this
    exact this
  have e2 : loop (qa5 q) (0,zsOf p) = some (zsOf p ++ zsOf q):=by
    have hp:=q7u p
    exact qae q (by omega) (fun r=>[r.Lo.Z,r.Hi.Z]) (zsOf p) (fun o=>o) (qa5 q) (fun k hk o ho=>by
      have h8 : o.length = 2 * p.length + 2 * k:=by
        rw [ho,List.length_append,hp];have:=q7u (q.take k);rw [List.length_take,Nat.min_eq_left (by omega)] at this
        unfold zsOf at this;omega
      simp only [qa5,dlt hk,cond_true,q10 hk,Option.bind_some,w64s hk (by omega)]
      rw [q62 (by simp;omega)]
      rfl) (fun o=>by simp only [qa5,dnl,cond_false])
  have h1:=q7u p
  have h2:=q7u q
  unfold qh0
  simp only [e1,e2,Option.bind_some,(q8o (l:=zsOf p ++ zsOf q) (by simp;omega)).1]
structure q12j (kind : Int) (p q : List q8) (z : Int) : Prop where
  n : (atB p z).length + (atB q z).length≤400
  m : (mrgR kind (atB p z) (atB q z)).length≤400
  mp : (mrgR 2 (atB p z) []).length≤400
  mq : (mrgR 2 (atB q z) []).length≤400
noncomputable def secB (kind : Int) (p q : List q8) (z : Int) : List qb:=mrgR kind (atB p z) (atB q z)
theorem qtz (kind : Int) {p q : List q8} (h : p.length + q.length≤100000) {xs : List Int} (hx : xs.length≤1000000) {i : Nat} (hi : i + 1 < xs.length) (hok : q12j kind p q xs[i]) (s : Mg qb q8) (hl : (s.flat putB).length + 400≤1000000)
    (h0 : i = 0→s.sec = []) (h1 : 0 < i→s.hi = xs[i]) :
    q6q xs p q kind (s.sec,(s.done.length : Int),(i : Int),s.flat putB) =
      some (.inl ((addM putB s xs[i] xs[i + 1] (secB kind p q xs[i])).sec,((addM putB s xs[i] xs[i + 1] (secB kind p q xs[i])).done.length : Int),((i + 1 : Nat) : Int),(addM putB s xs[i] xs[i + 1] (secB kind p q xs[i])).flat putB)):=by
  have hi0 : i < xs.length:=by omega
  have hw : w64 ((i : Int) + 1) = ((i + 1 : Nat) : Int):=w64s hi0 hx
  have hfl : (s.flat putB).length = s.done.length + s.sec.length:=by simp [Mg.flat]
  obtain ⟨hn,hm,hmp,hmq⟩:=hok
  have ap : qb9 p xs[i] = some (atB p xs[i]):=qho p (by omega) _
  have aq : qb9 q xs[i] = some (atB q xs[i]):=qho q (by omega) _
  have jj : q64 kind (atB p xs[i]) (atB q xs[i]) = some (secB kind p q xs[i]):=q8d kind hn
  have jp : q64 2 (atB p xs[i]) [] = some (mrgR 2 (atB p xs[i]) []):=q8d 2 (by simp;omega)
  have jq : q64 2 (atB q xs[i]) [] = some (mrgR 2 (atB q xs[i]) []):=q8d 2 (by simp;omega)
  have hm : (secB kind p q xs[i]).length≤400:=hm
  have d1 : decide (((secB kind p q xs[i]).length : Int) > 400) = false:=decide_eq_false (by omega)
  have d2 : decide (((mrgR 2 (atB p xs[i]) []).length : Int) > 400) = false:=decide_eq_false (by omega)
  have d3 : decide (((mrgR 2 (atB q xs[i]) []).length : Int) > 400) = false:=decide_eq_false (by omega)
  unfold q6q
  simp only [hw,dlt hi,cond_true,q10 hi0,ap,aq,jj,jp,jq,d1,d2,d3,cond_false,Option.bind_some]
  generalize hc : secB kind p q xs[i] = c at hm ⊢
  by_cases hsame : 0 < i∧c = s.sec
  · obtain ⟨hpos,hcs⟩:=hsame
    have hb : decide ((i : Int) > 0) = true:=decide_eq_true (by omega)
    have hext:=qmb (fun v : q8=>({Lo:=v.Lo,Hi:=({X:=v.Hi.X,Y:=v.Hi.Y,Z:=xs[i + 1]} : qk)} : q8)) s.done (s.sec.map (putB s.lo s.hi)) (by simp;omega) (q8f xs (s.sec,(s.done.length : Int),(i : Int),s.flat putB)) (fun k o hk ho=>by
      have h5 : (s.done ++ s.sec.map (putB s.lo s.hi)).length = (s.flat putB).length:=rfl
      simp only [q8f,dlt hk,cond_true,q10 hk,q10 hi,hw,Option.bind_some,w64s hk (by omega),Int.toNat_natCast]) (fun o=>by simp only [q8f,dnl,cond_false])
    have hsp : q8e c s.sec = some true:=by rw [qoa _ _ (by omega)];simp [hcs]
    have hext : loop (q8f xs (s.sec,(s.done.length : Int),(i : Int),s.flat putB)) ((s.done.length : Int),s.flat putB) = _:=hext
    simp only [hb,cond_true,hsp,Option.bind_some,hext]
    rcases q9l putB s xs[i] xs[i + 1] c with ⟨_,_,_,h4⟩ | ⟨h3,h4⟩
    · rw [h4]
      simp only [Mg.flat,List.map_map]
      rfl
    · have hnil : c = []:=Classical.byContradiction fun hn=>h3 ⟨hn,hcs,h1 hpos⟩
      rw [h4]
      simp [Mg.flat,← hcs,hnil]
  · have hcnd : (cond (decide ((i : Int) > 0)) ((q8e c s.sec).bind fun r721=>some r721) (some false)) = some false:=by
      by_cases hpos : 0 < i
      · have hb : decide ((i : Int) > 0) = true:=decide_eq_true (by omega)
        have hne : c≠s.sec:=fun h=>hsame ⟨hpos,h⟩
        rw [hb,cond_true,qoa _ _ (by omega)]
        simp [hne]
      · have hb : decide ((i : Int) > 0) = false:=decide_eq_false (by omega)
        rw [hb,cond_false]
    have hap:=qig c (putB xs[i] xs[i + 1]) (s.flat putB) (fun o=>(c,((s.flat putB).length : Int),o)) (q9i c xs (s.sec,(s.done.length : Int),(i : Int),s.flat putB)) (fun k hk o ho=>by
      simp only [q9i,dlt hk,cond_true,q10 hk,q10 hi0,q10 hi,hw,Option.bind_some,w64s hk (by omega)]
      rw [q62 (by simp;omega)]
      rfl) (fun o=>by simp only [q9i,dnl,cond_false])
    have h4 : addM putB s xs[i] xs[i + 1] c = ⟨s.flat putB,c,xs[i],xs[i + 1]⟩:=by
      rcases q9l putB s xs[i] xs[i + 1] c with ⟨g1,g2,_,_⟩ | ⟨_,h4⟩
      · refine absurd ?_ hsame
        refine ⟨Nat.pos_of_ne_zero fun h=>g1 ?_,g2⟩
        rw [g2,h0 h]
      · exact h4
    rw [h4]
    simp only [hcnd,Option.bind_some,cond_false,hap]
    simp [Mg.flat]
noncomputable def mrgB (kind : Int) (p q : List q8) : List q8:=(q23 putB q1z (q60 (q11 (zsOf p ++ zsOf q)) (secB kind p q))).flat putB
section
variable {σ β : Type} (put : Int→Int→σ→β)
def Alike (s t : Mg σ β) : Prop:=s = t∨(s.flat put = t.flat put∧s.sec = []∧t.sec = [])
theorem Alike.flat {s t : Mg σ β} (h : Alike put s t) : s.flat put = t.flat put:=by
  rcases h with rfl | h
  · rfl
  · exact h.1
end
section
variable {σ β : Type} [DecidableEq σ] (put : Int→Int→σ→β)
def runM (sec : Int→List σ) : Mg σ β→List Int→Mg σ β
  | s,a::b::r=>runM sec (addM put s a b (sec a)) (b::r)
  | s,_=>s
theorem qp5 (sec : Int→List σ) : ∀ (cuts : List Int) (s : Mg σ β),q23 put s (q60 cuts sec) = runM put sec s cuts
  | [],s=>rfl
  | [a],s=>rfl
  | a::b::r,s=>by
    have:=qp5 sec (b::r) (addM put s a b (sec a))
    simp only [runM,← this]
    rfl
theorem Alike.add {s t : Mg σ β} (h : Alike put s t) (a b : Int) (c : List σ) : Alike put (addM put s a b c) (addM put t a b c):=by
  rcases h with rfl | ⟨h1,h2,h3⟩
  · exact .inl rfl
  · refine .inl ?_
    rcases q9l put s a b c with ⟨g1,g2,_,_⟩ | ⟨_,g4⟩
    · exact absurd (g2.trans h2) g1
    · rcases q9l put t a b c with ⟨e1,e2,_,_⟩ | ⟨_,e4⟩
      · exact absurd (e2.trans h3) e1
      · rw [g4,e4,h1]
end
end Go.Sh
