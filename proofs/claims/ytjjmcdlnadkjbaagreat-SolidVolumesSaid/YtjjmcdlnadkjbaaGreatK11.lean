/- Po1 Pt1 Pt2 Pt3 Pt4 Pt5 Pt6 Pt7 -/
import Derived.Test.YtjjmcdlnadkjbaaGreatK10
set_option maxHeartbeats 4000000
namespace Go.Sh
open Go Go.Am
def sg (a b : Int) : Int:=if a < b then -1 else 0
theorem Z8 {a b : Int} : decide (sg a b < 0) = decide (a < b):=by
  unfold sg;by_cases h : a < b <;> simp [h]
def qO (a b : Int) : Option Int:=some (sg a b)
theorem Zm (a b : Int) : qO a b = some (sg a b):=rfl
theorem Zi (a b : Int) : Yh a b = some (decide (a < b)):=by
  unfold Yh q78
  have : (a != a) = false:=by simp
  simp []
theorem qxv : qc2 = q4j:=rfl
theorem qvy : (fun p0=>q1u p0) = (fun p0=>q2t p0):=by
  funext p0
  simp only [q1u,q2t,qxv]
  all_goals repeat' first | with_reducible rfl | (refine funext fun (m : Sum _ _)=>?_;cases m <;> (first | with_reducible rfl | rfl)) | (congr 1) | funext _
  done
theorem qvz  : ∀ p0,q1u p0 = q2t p0:=fun p0=>(congrFun qvy p0)
theorem qvx : (fun p0=>U7 p0) = (fun p0=>Ui p0):=by
  funext p0
  simp only [U7,Ui,qvz]
  all_goals repeat' first | with_reducible rfl | (refine funext fun (m : Sum _ _)=>?_;cases m <;> (first | with_reducible rfl | rfl)) | (congr 1) | funext _
  done
theorem ql6  : ∀ p0,U7 p0 = Ui p0:=fun p0=>(congrFun qvx p0)
theorem qwi : (fun p1=>q60 p1) = (fun p1=>Jl p1 qO):=by
  funext p1 a443
  simp only [q60,Jl,Zi,Zm,Option.bind_some,Z8]
  all_goals repeat' first | with_reducible rfl | (refine funext fun (m : Sum _ _)=>?_;cases m <;> (first | with_reducible rfl | rfl)) | (congr 1) | funext _
  done
theorem qwj  : ∀ p1,q60 p1 = Jl p1 qO:=fun p1=>(congrFun qwi p1)
theorem qwg : (fun p2 p1=>q5z p2 p1) = (fun p2 p1=>Um p2 p1 qO):=by
  funext p2 p1 a270
  simp only [q5z,Um,qwj]
  all_goals repeat' first | with_reducible rfl | (refine funext fun (m : Sum _ _)=>?_;cases m <;> (first | with_reducible rfl | rfl)) | (congr 1) | funext _
  done
theorem qwh  : ∀ p2 p1,q5z p2 p1 = Um p2 p1 qO:=fun p2 p1=>(congrFun (congrFun qwg p2) p1)
theorem qwe : (fun p0 p1 p2=>q5y p0 p1 p2) = (fun p0 p1 p2=>q1l qO p0 p1 p2):=by
  funext p0 p1 p2
  simp only [q5y,q1l,qwh]
  all_goals repeat' first | with_reducible rfl | (refine funext fun (m : Sum _ _)=>?_;cases m <;> (first | with_reducible rfl | rfl)) | (congr 1) | funext _
  done
theorem qwf  : ∀ p0 p1 p2,q5y p0 p1 p2 = q1l qO p0 p1 p2:=fun p0 p1 p2=>(congrFun (congrFun (congrFun qwe p0) p1) p2)
theorem qxt : (fun p2 p3=>q6m p2 p3) = (fun p2 p3=>Jo p2 p3 qO):=by
  funext p2 p3 a193
  simp only [q6m,Jo,Zi,Zm,Option.bind_some,Z8]
  all_goals repeat' first | with_reducible rfl | (refine funext fun (m : Sum _ _)=>?_;cases m <;> (first | with_reducible rfl | rfl)) | (congr 1) | funext _
  done
theorem qxu  : ∀ p2 p3,q6m p2 p3 = Jo p2 p3 qO:=fun p2 p3=>(congrFun (congrFun qxt p2) p3)
theorem qxs : (fun p0 p1 p2 p3=>q3s p0 p1 p2 p3) = (fun p0 p1 p2 p3=>U5 qO p0 p1 p2 p3):=by
  funext p0 p1 p2 p3
  simp only [q3s,U5,qxu]
  all_goals repeat' first | with_reducible rfl | (refine funext fun (m : Sum _ _)=>?_;cases m <;> (first | with_reducible rfl | rfl)) | (congr 1) | funext _
  done
theorem ql8  : ∀ p0 p1 p2 p3,q3s p0 p1 p2 p3 = U5 qO p0 p1 p2 p3:=fun p0 p1 p2 p3=>(congrFun (congrFun (congrFun (congrFun qxs p0) p1) p2) p3)
theorem qwa : (fun p2 p1=>q5w p2 p1) = (fun p2 p1=>Uk qO p2 p1):=by
  funext p2 p1 a123
  simp only [q5w,Uk,ql8]
  all_goals repeat' first | with_reducible rfl | (refine funext fun (m : Sum _ _)=>?_;cases m <;> (first | with_reducible rfl | rfl)) | (congr 1) | funext _
  done
theorem qwb  : ∀ p2 p1,q5w p2 p1 = Uk qO p2 p1:=fun p2 p1=>(congrFun (congrFun qwa p2) p1)
theorem qwc : (fun p1=>q5x p1) = (fun p1=>Ul p1 qO):=by
  funext p1 a191
  simp only [q5x,Ul,ql8]
  all_goals repeat' first | with_reducible rfl | (refine funext fun (m : Sum _ _)=>?_;cases m <;> (first | with_reducible rfl | rfl)) | (congr 1) | funext _
  done
theorem qwd  : ∀ p1,q5x p1 = Ul p1 qO:=fun p1=>(congrFun qwc p1)
theorem qw8 : (fun p0 p1 p2=>q5v p0 p1 p2) = (fun p0 p1 p2=>q1k qO p0 p1 p2):=by
  funext p0 p1 p2
  simp only [q5v,q1k,qwb,qwd]
  all_goals repeat' first | with_reducible rfl | (refine funext fun (m : Sum _ _)=>?_;cases m <;> (first | with_reducible rfl | rfl)) | (congr 1) | funext _
  done
theorem qw9  : ∀ p0 p1 p2,q5v p0 p1 p2 = q1k qO p0 p1 p2:=fun p0 p1 p2=>(congrFun (congrFun (congrFun qw8 p0) p1) p2)
theorem qwn : (fun p0=>q12 p0) = (fun p0=>q1m p0):=by
  funext p0
  simp only [q12,q1m,ql6]
  all_goals repeat' first | with_reducible rfl | (refine funext fun (m : Sum _ _)=>?_;cases m <;> (first | with_reducible rfl | rfl)) | (congr 1) | funext _
  done
theorem qwo  : ∀ p0,q12 p0 = q1m p0:=fun p0=>(congrFun qwn p0)
theorem qxw : (fun p0=>q13 p0) = (fun p0=>q1q p0):=by
  funext p0
  simp only [q13,q1q]
  all_goals repeat' first | with_reducible rfl | (refine funext fun (m : Sum _ _)=>?_;cases m <;> (first | with_reducible rfl | rfl)) | (congr 1) | funext _
  done
theorem qxx  : ∀ p0,q13 p0 = q1q p0:=fun p0=>(congrFun qxw p0)
theorem qw4 : (fun p1 p2 r101=>q5t p1 p2 r101) = (fun p1 p2 r101=>Jw p1 p2 r101):=by
  funext p1 p2 r101 a153
  simp only [q5t,Jw,qxx]
  all_goals repeat' first | with_reducible rfl | (refine funext fun (m : Sum _ _)=>?_;cases m <;> (first | with_reducible rfl | rfl)) | (congr 1) | funext _
  done
theorem qw5  : ∀ p1 p2 r101,q5t p1 p2 r101 = Jw p1 p2 r101:=fun p1 p2 r101=>(congrFun (congrFun (congrFun qw4 p1) p2) r101)
theorem qw2 : (fun p0 p1 p2=>q5s p0 p1 p2) = (fun p0 p1 p2=>Uj qO p0 p1 p2):=by
  funext p0 p1 p2
  simp only [q5s,Uj,qwo,qw5]
  all_goals repeat' first | with_reducible rfl | (refine funext fun (m : Sum _ _)=>?_;cases m <;> (first | with_reducible rfl | rfl)) | (congr 1) | funext _
  done
theorem qw3  : ∀ p0 p1 p2,q5s p0 p1 p2 = Uj qO p0 p1 p2:=fun p0 p1 p2=>(congrFun (congrFun (congrFun qw2 p0) p1) p2)
theorem qwp : (fun p0 p1 p2 p3=>q2b p0 p1 p2 p3) = (fun p0 p1 p2 p3=>Jy qO p0 p1 p2 p3):=by
  funext p0 p1 p2 p3
  simp only [q2b,Jy,Zi,Zm,Option.bind_some,Z8]
  all_goals repeat' first | with_reducible rfl | (refine funext fun (m : Sum _ _)=>?_;cases m <;> (first | with_reducible rfl | rfl)) | (congr 1) | funext _
  done
theorem qwq  : ∀ p0 p1 p2 p3,q2b p0 p1 p2 p3 = Jy qO p0 p1 p2 p3:=fun p0 p1 p2 p3=>(congrFun (congrFun (congrFun (congrFun qwp p0) p1) p2) p3)
theorem qwk : (fun p0 p1 p2 p3 p4=>q3m p0 p1 p2 p3 p4) = (fun p0 p1 p2 p3 p4=>Jx qO p0 p1 p2 p3 p4):=by
  funext p0 p1 p2 p3 p4
  simp only [q3m,Jx,qwq]
  all_goals repeat' first | with_reducible rfl | (refine funext fun (m : Sum _ _)=>?_;cases m <;> (first | with_reducible rfl | rfl)) | (congr 1) | funext _
  done
theorem ql7  : ∀ p0 p1 p2 p3 p4,q3m p0 p1 p2 p3 p4 = Jx qO p0 p1 p2 p3 p4:=fun p0 p1 p2 p3 p4=>(congrFun (congrFun (congrFun (congrFun (congrFun qwk p0) p1) p2) p3) p4)
theorem qwl : (fun p0 p1 p2=>q2a p0 p1 p2) = (fun p0 p1 p2=>Jm qO p0 p1 p2):=by
  funext p0 p1 p2
  simp only [q2a,Jm,ql7]
  all_goals repeat' first | with_reducible rfl | (refine funext fun (m : Sum _ _)=>?_;cases m <;> (first | with_reducible rfl | rfl)) | (congr 1) | funext _
  done
theorem qwm  : ∀ p0 p1 p2,q2a p0 p1 p2 = Jm qO p0 p1 p2:=fun p0 p1 p2=>(congrFun (congrFun (congrFun qwl p0) p1) p2)
theorem qw6 : (fun p0 p1 p2=>q5u p0 p1 p2) = (fun p0 p1 p2=>q1j p0 p1 p2 qO):=by
  funext p0 p1 p2
  simp only [q5u,q1j,ql7,qwm]
  all_goals repeat' first | with_reducible rfl | (refine funext fun (m : Sum _ _)=>?_;cases m <;> (first | with_reducible rfl | rfl)) | (congr 1) | funext _
  done
theorem qw7  : ∀ p0 p1 p2,q5u p0 p1 p2 = q1j p0 p1 p2 qO:=fun p0 p1 p2=>(congrFun (congrFun (congrFun qw6 p0) p1) p2)
theorem qxr : q96 = q1p:=by
  funext a119
  simp only [q96,q1p]
  all_goals repeat' first | with_reducible rfl | (refine funext fun (m : Sum _ _)=>?_;cases m <;> (first | with_reducible rfl | rfl)) | (congr 1) | funext _
  done
theorem qxp : (fun p0 p1 p2=>q6k p0 p1 p2) = (fun p0 p1 p2=>Ur qO p0 p1 p2):=by
  funext p0 p1 p2
  simp only [q6k,Ur,qxr]
  all_goals repeat' first | with_reducible rfl | (refine funext fun (m : Sum _ _)=>?_;cases m <;> (first | with_reducible rfl | rfl)) | (congr 1) | funext _
  done
theorem qxq  : ∀ p0 p1 p2,q6k p0 p1 p2 = Ur qO p0 p1 p2:=fun p0 p1 p2=>(congrFun (congrFun (congrFun qxp p0) p1) p2)
theorem qwv : (fun p2 a432=>q64 p2 a432) = (fun p2 a432=>Jz p2 a432 qO):=by
  funext p2 a432 a667
  simp only [q64,Jz,Zi,Zm,Option.bind_some,Z8]
  all_goals repeat' first | with_reducible rfl | (refine funext fun (m : Sum _ _)=>?_;cases m <;> (first | with_reducible rfl | rfl)) | (congr 1) | funext _
  done
theorem qww  : ∀ p2 a432,q64 p2 a432 = Jz p2 a432 qO:=fun p2 a432=>(congrFun (congrFun qwv p2) a432)
theorem qwx : q8t = U0 qO:=by
  funext a822
  simp only [q8t,U0,Zi,Zm,Option.bind_some,Z8]
  all_goals repeat' first | with_reducible rfl | (refine funext fun (m : Sum _ _)=>?_;cases m <;> (first | with_reducible rfl | rfl)) | (congr 1) | funext _
  done
theorem qwy : (fun p2 b670=>q65 p2 b670) = (fun p2 b670=>U1 p2 qO b670):=by
  funext p2 b670 a912
  simp only [q65,U1,Zi,Zm,Option.bind_some,Z8]
  all_goals repeat' first | with_reducible rfl | (refine funext fun (m : Sum _ _)=>?_;cases m <;> (first | with_reducible rfl | rfl)) | (congr 1) | funext _
  done
theorem qwz  : ∀ p2 b670,q65 p2 b670 = U1 p2 qO b670:=fun p2 b670=>(congrFun (congrFun qwy p2) b670)
theorem qwt : (fun p2 p1=>q3p p2 p1) = (fun p2 p1=>Z5 p2 qO p1):=by
  funext p2 p1 a432
  have mm : @q3p.match_1.{1} = @Z5.match_1.{1} Int:=by funext motive m f g;cases m <;> rfl
  unfold q3p Z5;rw [mm]
  simp only [qww,qwx,qwz]
  all_goals repeat' first | with_reducible rfl | (congr 1) | funext _
  done
theorem qwu  : ∀ p2 p1,q3p p2 p1 = Z5 p2 qO p1:=fun p2 p1=>(congrFun (congrFun qwt p2) p1)
theorem qwr : (fun p0 p1 p2=>q3o p0 p1 p2) = (fun p0 p1 p2=>Jn qO p0 p1 p2):=by
  funext p0 p1 p2
  have mm : @q3o.match_1.{1} = @Jn.match_1.{1} Int:=by funext motive m f g;cases m <;> rfl
  unfold q3o Jn;rw [mm]
  simp only [qwu]
  all_goals repeat' first | with_reducible rfl | (congr 1) | funext _
  done
theorem qws  : ∀ p0 p1 p2,q3o p0 p1 p2 = Jn qO p0 p1 p2:=fun p0 p1 p2=>(congrFun (congrFun (congrFun qwr p0) p1) p2)
theorem qx5 : (fun a304 p1=>q68 a304 p1) = (fun a304 p1=>U2 a304 p1 qO):=by
  funext a304 p1 a360
  simp only [q68,U2,Zi,Zm,Option.bind_some,Z8]
  all_goals repeat' first | with_reducible rfl | (refine funext fun (m : Sum _ _)=>?_;cases m <;> (first | with_reducible rfl | rfl)) | (congr 1) | funext _
  done
theorem qx6  : ∀ a304 p1,q68 a304 p1 = U2 a304 p1 qO:=fun a304 p1=>(congrFun (congrFun qx5 a304) p1)
theorem qx7 : (fun b363 a304 p1=>q69 b363 a304 p1) = (fun b363 a304 p1=>U3 b363 a304 p1 qO):=by
  funext b363 a304 p1 a439
  simp only [q69,U3,Zi,Zm,Option.bind_some,Z8]
  all_goals repeat' first | with_reducible rfl | (refine funext fun (m : Sum _ _)=>?_;cases m <;> (first | with_reducible rfl | rfl)) | (congr 1) | funext _
  done
theorem qx8  : ∀ b363 a304 p1,q69 b363 a304 p1 = U3 b363 a304 p1 qO:=fun b363 a304 p1=>(congrFun (congrFun (congrFun qx7 b363) a304) p1)
theorem qx3 : (fun p1=>q67 p1) = (fun p1=>Up p1 qO):=by
  funext p1 a304
  simp only [q67,Up,qx6,qx8]
  all_goals repeat' first | with_reducible rfl | (refine funext fun (m : Sum _ _)=>?_;cases m <;> (first | with_reducible rfl | rfl)) | (congr 1) | funext _
  done
theorem qx4  : ∀ p1,q67 p1 = Up p1 qO:=fun p1=>(congrFun qx3 p1)
theorem qx1 : (fun p0 p1 p2 p3=>q66 p0 p1 p2 p3) = (fun p0 p1 p2 p3=>Uo qO p0 p1 p2 p3):=by
  funext p0 p1 p2 p3
  simp only [q66,Uo,qx4]
  all_goals repeat' first | with_reducible rfl | (refine funext fun (m : Sum _ _)=>?_;cases m <;> (first | with_reducible rfl | rfl)) | (congr 1) | funext _
  done
theorem qx2  : ∀ p0 p1 p2 p3,q66 p0 p1 p2 p3 = Uo qO p0 p1 p2 p3:=fun p0 p1 p2 p3=>(congrFun (congrFun (congrFun (congrFun qx1 p0) p1) p2) p3)
theorem qxa : (fun p2 p0 p1 v101 p3 v103=>q6b p2 p0 p1 v101 p3 v103) = (fun p2 p0 p1 v101 p3 v103=>q1n p2 p0 p1 v101 p3 v103 qO):=by
  funext p2 p0 p1 v101 p3 v103 a159
  simp only [q6b,q1n,Zi,Zm,Option.bind_some,Z8]
  all_goals repeat' first | with_reducible rfl | (refine funext fun (m : Sum _ _)=>?_;cases m <;> (first | with_reducible rfl | rfl)) | (congr 1) | funext _
  done
theorem qxb  : ∀ p2 p0 p1 v101 p3 v103,q6b p2 p0 p1 v101 p3 v103 = q1n p2 p0 p1 v101 p3 v103 qO:=fun p2 p0 p1 v101 p3 v103=>(congrFun (congrFun (congrFun (congrFun (congrFun (congrFun qxa p2) p0) p1) v101) p3) v103)
theorem qxc : (fun b162 p0 p1 v101 p3 v103=>q6c b162 p0 p1 v101 p3 v103) = (fun b162 p0 p1 v101 p3 v103=>q1o b162 p0 p1 v101 p3 v103 qO):=by
  funext b162 p0 p1 v101 p3 v103 a239
  simp only [q6c,q1o,Zi,Zm,Option.bind_some,Z8]
  all_goals repeat' first | with_reducible rfl | (refine funext fun (m : Sum _ _)=>?_;cases m <;> (first | with_reducible rfl | rfl)) | (congr 1) | funext _
  done
theorem qxd  : ∀ b162 p0 p1 v101 p3 v103,q6c b162 p0 p1 v101 p3 v103 = q1o b162 p0 p1 v101 p3 v103 qO:=fun b162 p0 p1 v101 p3 v103=>(congrFun (congrFun (congrFun (congrFun (congrFun (congrFun qxc b162) p0) p1) v101) p3) v103)
theorem qxg : (fun a488 p1=>q6e a488 p1) = (fun a488 p1=>Ze a488 p1 qO):=by
  funext a488 p1 a542
  simp only [q6e,Ze,Zi,Zm,Option.bind_some,Z8]
  all_goals repeat' first | with_reducible rfl | (refine funext fun (m : Sum _ _)=>?_;cases m <;> (first | with_reducible rfl | rfl)) | (congr 1) | funext _
  done
theorem qxh  : ∀ a488 p1,q6e a488 p1 = Ze a488 p1 qO:=fun a488 p1=>(congrFun (congrFun qxg a488) p1)
theorem qxi : (fun b545 a488 p1=>q6f b545 a488 p1) = (fun b545 a488 p1=>Zf b545 a488 p1 qO):=by
  funext b545 a488 p1 a622
  simp only [q6f,Zf,Zi,Zm,Option.bind_some,Z8]
  all_goals repeat' first | with_reducible rfl | (refine funext fun (m : Sum _ _)=>?_;cases m <;> (first | with_reducible rfl | rfl)) | (congr 1) | funext _
  done
theorem qxj  : ∀ b545 a488 p1,q6f b545 a488 p1 = Zf b545 a488 p1 qO:=fun b545 a488 p1=>(congrFun (congrFun (congrFun qxi b545) a488) p1)
theorem qxe : (fun p1=>q6d p1) = (fun p1=>Uq p1 qO):=by
  funext p1 a488
  simp only [q6d,Uq,qxh,qxj]
  all_goals repeat' first | with_reducible rfl | (refine funext fun (m : Sum _ _)=>?_;cases m <;> (first | with_reducible rfl | rfl)) | (congr 1) | funext _
  done
theorem qxf  : ∀ p1,q6d p1 = Uq p1 qO:=fun p1=>(congrFun qxe p1)
theorem qx0 : (fun p0 p1 p2 p3=>q6a p0 p1 p2 p3) = (fun p0 p1 p2 p3=>Un qO p0 p1 p2 p3):=by
  funext p0 p1 p2 p3
  simp only [q6a,Un,qxb,qxd,qxf]
  all_goals repeat' first | with_reducible rfl | (refine funext fun (m : Sum _ _)=>?_;cases m <;> (first | with_reducible rfl | rfl)) | (congr 1) | funext _
  done
theorem qx9  : ∀ p0 p1 p2 p3,q6a p0 p1 p2 p3 = Un qO p0 p1 p2 p3:=fun p0 p1 p2 p3=>(congrFun (congrFun (congrFun (congrFun qx0 p0) p1) p2) p3)
theorem qxl : (fun rec=>q3q rec) = (fun rec=>Yr qO rec):=by
  funext rec a305
  have mm : @q3q.match_1.{1} = @Yr.match_1.{1} Int:=by funext motive m f g;cases m <;> rfl
  unfold q3q Yr;rw [mm]
  simp only [qwf,qw9,qw3,qw7,qxq,qws,qx2,qx9,Zi,Zm,Option.bind_some,Z8]
  all_goals repeat' first | with_reducible rfl | (congr 1) | funext _
  done
theorem qxm  : ∀ rec,q3q rec = Yr qO rec:=fun rec=>(congrFun qxl rec)
theorem qxn : (fun rec p0 p1 p2 p3=>q3r rec p0 p1 p2 p3) = (fun rec p0 p1 p2 p3=>U4 rec qO p0 p1 p2 p3):=by
  funext rec p0 p1 p2 p3
  simp only [q3r,U4,qxm]
  all_goals repeat' first | with_reducible rfl | (refine funext fun (m : Sum _ _)=>?_;cases m <;> (first | with_reducible rfl | rfl)) | (congr 1) | funext _
  done
theorem qxo  : ∀ rec p0 p1 p2 p3,q3r rec p0 p1 p2 p3 = U4 rec qO p0 p1 p2 p3:=fun rec p0 p1 p2 p3=>(congrFun (congrFun (congrFun (congrFun (congrFun qxn rec) p0) p1) p2) p3)
theorem qxk : ∀ N,q6j N = Yk N qO:=by
  intro N
  induction N with
  | zero=>rfl
  | succ N ih=>
    funext a b c d
    show q3r (q6j N) a b c d = U4 (Yk N qO) qO a b c d
    rw [ih,qxo]
theorem qw0 : (fun p0=>Ja p0) = (fun p0=>q1i qO p0):=by
  funext p0
  simp only [Ja,q1i,ql6,qxk]
  all_goals repeat' first | with_reducible rfl | (refine funext fun (m : Sum _ _)=>?_;cases m <;> (first | with_reducible rfl | rfl)) | (congr 1) | funext _
  done
theorem qw1  : ∀ p0,Ja p0 = q1i qO p0:=fun p0=>(congrFun qw0 p0)
end Go.Sh
namespace Go.Sh
open Go Go.Am
theorem Zj {α β : Type} {f : α→Option (α ⊕ β)} (st : Nat→α) (n : Nat) (b : β) (hs : ∀ k,k < n→f (st k) = some (.inl (st (k + 1)))) (hd : f (st n) = some (.inr b)) : ∀ {k : Nat},k≤n→loop f (st k) = some b:=by
  have key : ∀ m k,n - k = m→k≤n→loop f (st k) = some b:=by
    intro m
    induction m with
    | zero => intro k hm hk; obtain rfl : k = n := by omega
              exact K2 hd
    | succ m ih=>intro k hm hk;rw [Kj (hs k (by omega))];exact ih (k + 1) (by omega) (by omega)
  intro k hk
  exact key _ k rfl hk
theorem w64s {k : Nat} {n : Nat} (h : k < n) (hn : n≤1000000) : w64 ((k : Int) + 1) = ((k + 1 : Nat) : Int):=by rw [Q0 (by omega)];omega
theorem dlt {k n : Nat} (h : k < n) : decide ((k : Int) < (n : Int)) = true:=decide_eq_true (by omega)
theorem dnl {n : Nat} : decide ((n : Int) < (n : Int)) = false:=decide_eq_false (by omega)
theorem Zy {α β γ : Type} (src : List α) (_ : src.length≤1000000) (h : α→List γ) (out : List γ) (fin : List γ→β) (f : Int × List γ→Option ((Int × List γ) ⊕ β))
    (hs : ∀ (k : Nat) (hk : k < src.length) (o : List γ),o = out ++ (src.take k).flatMap h→f ((k : Int),o) = some (.inl (((k + 1 : Nat) : Int),o ++ h src[k])))
    (hd : ∀ o,f ((src.length : Int),o) = some (.inr (fin o))) : loop f (0,out) = some (fin (out ++ src.flatMap h)):=by
  have e : ∀ k (hk : k < src.length),(src.take (k + 1)).flatMap h = (src.take k).flatMap h ++ h src[k]:=fun k hk=>by
    rw [List.take_succ_eq_append_getElem hk,List.flatMap_append,List.flatMap_cons,List.flatMap_nil,List.append_nil]
  have:=Zj (f:=f) (fun k=>((k : Int),out ++ (src.take k).flatMap h)) src.length (fin (out ++ src.flatMap h)) (fun k hk=>by
    rw [hs k hk _ rfl,e k hk,List.append_assoc]) (by simp only [List.take_length];exact hd _) (Nat.zero_le _)
  simpa using this
theorem q7p {α β γ : Type} (src : List α) (h : α→γ) (out : List γ) (fin : List γ→β) (f : Int × List γ→Option ((Int × List γ) ⊕ β))
    (hs : ∀ (k : Nat) (hk : k < src.length) (o : List γ),o.length = out.length + k→f ((k : Int),o) = some (.inl (((k + 1 : Nat) : Int),o ++ [h src[k]])))
    (hd : ∀ o,f ((src.length : Int),o) = some (.inr (fin o))) : loop f (0,out) = some (fin (out ++ src.map h)):=by
  have e : ∀ k (hk : k < src.length),(src.take (k + 1)).map h = (src.take k).map h ++ [h src[k]]:=fun k hk=>by
    rw [List.take_succ_eq_append_getElem hk,List.map_append,List.map_cons,List.map_nil]
  have:=Zj (f:=f) (fun k=>((k : Int),out ++ (src.take k).map h)) src.length (fin (out ++ src.map h)) (fun k hk=>by
    rw [hs k hk _ (by simp;omega),e k hk,List.append_assoc]) (by simp only [List.take_length];exact hd _) (Nat.zero_le _)
  simpa using this
theorem qac {γ : Type} (g : γ→γ) (a b : List γ) (hl : (a ++ b).length≤1000000) (f : Int × List γ→Option ((Int × List γ) ⊕ (List γ)))
    (hs : ∀ (k : Nat) (o : List γ) (hk : k < o.length),o.length = (a ++ b).length→f ((k : Int),o) = some (.inl (((k + 1 : Nat) : Int),o.set k (g o[k]))))
    (hd : ∀ o : List γ,f ((o.length : Int),o) = some (.inr o)) : loop f ((a.length : Int),a ++ b) = some (a ++ b.map g):=by
  have hl' : a.length + b.length≤1000000:=by simpa using hl
  have key:=Zj (f:=f) (fun k=>(((a.length + k : Nat) : Int),a ++ ((b.take k).map g ++ b.drop k))) b.length (a ++ b.map g) (fun k hk=>by
    have hlen : (a ++ ((b.take k).map g ++ b.drop k)).length = (a ++ b).length:=by simp;omega
    have hk' : a.length + k < (a ++ ((b.take k).map g ++ b.drop k)).length:=by rw [hlen];simp;omega
    rw [hs (a.length + k) _ hk' hlen]
    have hm : ((b.take k).map g).length = k:=by simp;omega
    have e : (a ++ ((b.take k).map g ++ b.drop k))[a.length + k]'hk' = b[k]:=by
      rw [List.getElem_append_right (by omega)]
      rw [List.getElem_append_right (by rw [hm];omega)]
      simp [List.length_take,Nat.min_eq_left (Nat.le_of_lt hk)]
    rw [e]
    congr 4
    rw [List.set_append,if_neg (by omega),List.set_append,if_neg (by rw [hm];omega),hm]
    have z : a.length + k - a.length - k = 0:=by omega
    rw [z,List.take_succ_eq_append_getElem hk,List.drop_eq_getElem_cons hk,List.set_cons_zero,List.map_append,List.map_cons,List.map_nil,List.append_assoc]
    rfl) (by
    simp only [List.take_length,List.drop_length,List.append_nil]
    have:=hd (a ++ b.map g)
    simpa using this) (Nat.zero_le _)
  simpa using key
theorem q1g {α γ υ : Type} (l : List α) (c : α→Bool) (res : (k : Nat)→k < l.length→γ) (u : υ) (f : Int→Option (Int ⊕ (υ ⊕ γ)))
    (hs : ∀ (k : Nat) (h : k < l.length),f (k : Int) = some (if c l[k] = true then .inr (.inr (res k h)) else .inl ((k + 1 : Nat) : Int))) (hd : f (l.length : Int) = some (.inr (.inl u))) :
    ((∀ v∈l,c v = false)∧loop f 0 = some (.inl u))∨∃ k,∃ h : k < l.length,c l[k] = true∧(∀ j (hj : j < k),c (l[j]'(by omega)) = false)∧loop f 0 = some (.inr (res k h)):=by
  by_cases hh : ∀ v∈l,c v = false
  · refine .inl ⟨hh,?_⟩
    exact Zj (f:=f) (fun k=>(k : Int)) l.length _ (fun k hk=>by rw [hs k hk,hh _ (List.getElem_mem hk)];rfl) hd (Nat.zero_le _)
  · refine .inr ?_
    have : ∃ k,∃ h : k < l.length,c l[k] = true:=by
      refine Classical.byContradiction fun hn=>hh fun v hv=>?_
      obtain ⟨k,hk,rfl⟩:=List.getElem_of_mem hv
      cases hc : c l[k]
      · rfl
      · exact absurd ⟨k,hk,hc⟩ hn
    have h2 : ∃ k,(∃ h : k < l.length,c l[k] = true)∧∀ j,j < k→¬ ∃ h : j < l.length,c l[j] = true:=by
      obtain ⟨k,hk⟩:=this
      induction k using Nat.strongRecOn with
      | _ k ih=>
        by_cases hj : ∃ j,j < k∧∃ h : j < l.length,c l[j] = true
        · obtain ⟨j,h1,h2⟩:=hj;exact ih j h1 h2
        · exact ⟨k,hk,fun j h1 h2=>hj ⟨j,h1,h2⟩⟩
    obtain ⟨k,⟨hk,hc⟩,hmin⟩:=h2
    have hmin' : ∀ j (hj : j < k),c (l[j]'(by omega)) = false:=fun j hj=>by
      cases h : c (l[j]'(by omega))
      · rfl
      · exact absurd ⟨by omega,h⟩ (hmin j hj)
    refine ⟨k,hk,hc,hmin',?_⟩
    exact Zj (f:=f) (fun k=>(k : Int)) k _ (fun j hj=>by rw [hs j (by omega),hmin' j hj];rfl) (by rw [hs k hk,if_pos hc]) (Nat.zero_le _)
theorem qll : ∀ {l a b : List Int},Y9 l a→Y9 l b→a = b:=by
  have key : ∀ (a b : List Int),a.Pairwise (· < ·)→b.Pairwise (· < ·)→(∀ x,x∈a↔x∈b)→a = b:=by
    intro a
    induction a with
    | nil=>intro b _ _ h;cases b with
      | nil=>rfl
      | cons y b=>exact absurd ((h y).2 (by simp)) (by simp)
    | cons x a ih=>
      intro b ha hb h
      cases b with
      | nil=>exact absurd ((h x).1 (by simp)) (by simp)
      | cons y b=>
        rw [List.pairwise_cons] at ha hb
        have hxy : x = y:=by
          rcases List.mem_cons.1 ((h x).1 (by simp)) with h1 | h1
          · exact h1
          · rcases List.mem_cons.1 ((h y).2 (by simp)) with h2 | h2
            · exact h2.symm
            · have:=hb.1 _ h1;have:=ha.1 _ h2;omega
        subst hxy
        rw [ih b ha.2 hb.2 fun z=>?_]
        constructor
        · intro hz
          rcases List.mem_cons.1 ((h z).1 (by simp [hz])) with h1 | h1
          · have:=ha.1 _ hz;omega
          · exact h1
        · intro hz
          rcases List.mem_cons.1 ((h z).2 (by simp [hz])) with h1 | h1
          · have:=hb.1 _ hz;omega
          · exact h1
  intro l a b ha hb
  exact key a b ha.1 hb.1 fun x=>(ha.2 x).trans (hb.2 x).symm
def ltI (a b : Int) : Bool:=decide (a < b)
theorem swoI : Sort.SWO ltI where
  irrefl:=by intro x;simp [ltI]
  trans:=by intro x y z;simp only [ltI,decide_eq_true_eq];omega
  ntrans:=by intro x y z;simp only [ltI,decide_eq_false_iff_not];omega
theorem cmpI : K5 qO ltI (fun _=>True):=by
  intro x y _ _
  refine ⟨sg x y,rfl,?_⟩
  rw [Z8];rfl
theorem qlk (l : List Int) (hl : l.length≤1000000) : ∃ ys,Ja l = some ys∧ys.Perm l∧ys.Pairwise (·≤·):=by
  obtain ⟨ys,h1,h2,h3⟩:=qlj cmpI swoI l hl (fun _ _=>trivial)
  refine ⟨ys,by rw [qw1];exact h1,h2,h3.imp ?_⟩
  intro a b h
  simp only [ltI,decide_eq_false_iff_not] at h
  omega
end Go.Sh
namespace Go.Sh
open Go Go.Am
structure CInv (p : List Int) (k k2 i : Nat) (a : List Int) : Prop where
  len : a.length = p.length
  hi : i≤k + k2 - 1
  same : ∀ j (h : j < p.length),k + k2 - 1≤j→a[j]? = some p[j]
  so : Y9 (p.take (k + k2)) (a.take i)
theorem qoc {p : List Int} (hp : p.Pairwise (·≤·)) (hl : p.length≤1000000) {k k2 i : Nat} {a : List Int} (hk : 0 < k) (h2 : 0 < k2) (hn : k + k2 < p.length) (h : CInv p k k2 i a) :
    ∃ (i' : Nat) (a' : List Int),q11 ((i : Int),(k,p.length - k),(k2 : Int),a) = some (.inl ((i' : Int),(k,p.length - k),((k2 + 1 : Nat) : Int),a'))∧CInv p k (k2 + 1) i' a':=by
  obtain ⟨h1,h3,h4,h5,h6⟩:=h
  have hb : decide ((k2 : Int) < ((p.length - k : Nat) : Int)) = true:=dlt (by omega)
  have r1 : idxW a (k,p.length - k) (k2 : Int) = some (p[k + k2]):=by
    unfold idxW;rw [if_pos ⟨by omega,by omega⟩]
    simp only [Int.toNat_natCast]
    exact h4 (k + k2) hn (by omega)
  have r2 : idxW a (k,p.length - k) (w64 ((k2 : Int) - 1)) = some (p[k + k2 - 1]):=by
    rw [Q0 (by omega)]
    have e : (k2 : Int) - 1 = ((k2 - 1 : Nat) : Int):=by omega
    rw [e];unfold idxW;rw [if_pos ⟨by omega,by omega⟩]
    simp only [Int.toNat_natCast]
    have:=h4 (k + k2 - 1) (by omega) (by omega)
    rw [show k + (k2 - 1) = k + k2 - 1 by omega];exact this
  have hle : p[k + k2 - 1]≤p[k + k2]:=List.pairwise_iff_getElem.1 hp _ _ (by omega) hn (by omega)
  have hmem : p[k + k2 - 1]∈p.take (k + k2):=by
    rw [List.mem_take_iff_getElem];exact ⟨k + k2 - 1,by omega,rfl⟩
  have htk : p.take (k + (k2 + 1)) = p.take (k + k2) ++ [p[k + k2]]:=by rw [← Nat.add_assoc,List.take_succ_eq_append_getElem hn]
  have hw : w64 ((k2 : Int) + 1) = ((k2 + 1 : Nat) : Int):=w64s (n:=p.length) (by omega) hl
  by_cases he : p[k + k2] = p[k + k2 - 1]
  · refine ⟨i,a,?_,h1,by omega,fun j hj hge=>h4 j hj (by omega),?_⟩
    · have hne : (p[k + k2] != p[k + k2 - 1]) = false:=by rw [he];simp
      simp only [q11,hb,cond_true,r1,r2,Option.bind_some,hne,cond_false,hw]
    · rw [htk]
      refine ⟨h5,fun x=>?_⟩
      rw [h6 x]
      constructor
      · intro hx;exact List.mem_append.2 (.inl hx)
      · intro hx
        rcases List.mem_append.1 hx with h | h
        · exact h
        · simp only [List.mem_singleton] at h;rw [h,he];exact hmem
  · have hne : (p[k + k2] != p[k + k2 - 1]) = true:=by simpa using he
    have hia : i < a.length:=by omega
    have r3 : idx a (i : Int) = some a[i]:=Qk hia
    have hw' : w64 ((i : Int) + 1) = ((i + 1 : Nat) : Int):=w64s (n:=p.length) (by omega) hl
    refine ⟨i + 1,a.set i p[k + k2],?_,by simpa using h1,by omega,fun j hj hge=>?_,?_⟩
    · simp only [q11,hb,cond_true,r1,r2,Option.bind_some,hne,r3,hw,hw',Int.toNat_natCast]
    · rw [List.getElem?_set_ne (by omega)];exact h4 j hj (by omega)
    · have e : (a.set i p[k + k2]).take (i + 1) = a.take i ++ [p[k + k2]]:=by
        rw [List.take_succ_eq_append_getElem (by simpa using hia)]
        simp [List.take_set_of_le]
      rw [e,htk]
      refine ⟨?_,fun x=>?_⟩
      · rw [List.pairwise_append]
        refine ⟨h5,by simp,fun x hx y hy=>?_⟩
        simp only [List.mem_singleton] at hy;subst hy
        have hx':=(h6 x).1 hx
        rw [List.mem_take_iff_getElem] at hx'
        obtain ⟨j,hj,rfl⟩:=hx'
        have : p[j]≤p[k + k2 - 1]:=by
          by_cases hjj : j = k + k2 - 1
          · subst hjj;exact Int.le_refl _
          · exact List.pairwise_iff_getElem.1 hp _ _ (by omega) (by omega) (by omega)
        omega
      · rw [List.mem_append,List.mem_append,h6 x]
theorem qob {p : List Int} (hp : p.Pairwise (·≤·)) (hl : p.length≤1000000) {k : Nat} (hk : 0 < k) (hkn : k < p.length) (h0 : Y9 (p.take (k + 1)) (p.take k)) :
    ∃ i : Nat,∃ a : List Int,loop q11 ((k : Int),(k,p.length - k),1,p) = some ((i : Int),a)∧a.length = p.length∧i≤p.length∧Y9 p (a.take i):=by
  have h:=J6 (f:=q11) (mk:=fun k2 (c : Nat × List Int)=>((c.1 : Int),(k,p.length - k),((k2 : Nat) : Int),c.2)) (p.length - k) (fun k2 c=>0 < k2∧CInv p k k2 c.1 c.2)
    (fun b=>∃ i : Nat,∃ a : List Int,b = ((i : Int),a)∧a.length = p.length∧i≤p.length∧Y9 p (a.take i))
    (fun k2 c hk2 hI=>by
      obtain ⟨i',a',e1,e2⟩:=qoc hp hl hk hI.1 (by omega) hI.2
      exact .inl ⟨(i',a'),e1,by omega,e2⟩)
    (fun c hI=>by
      obtain ⟨hpos,h1,h3,h4,h5⟩:=hI
      refine ⟨((c.1 : Int),c.2),?_,c.1,c.2,rfl,h1,by omega,?_⟩
      · simp only [q11,dnl,cond_false]
      · rwa [List.take_of_length_le (by omega)] at h5)
    (k0:=1) (c0:=(k,p)) (by omega) ⟨by omega,rfl,by simp,fun j hj _=>by simp [hj],h0⟩
  obtain ⟨b,hb,i,a,rfl,h2⟩:=h
  exact ⟨i,a,hb,h2⟩
theorem qgo {p : List Int} (hp : p.Pairwise (·≤·)) (hl : p.length≤1000000) :
    ∃ w a,U9 p = some ((0,w),a)∧a.length = p.length∧w≤p.length∧Y9 p (a.take w):=by
  unfold U9
  by_cases hs : p.length < 2
  · rw [decide_eq_true (by omega : (p.length : Int) < 2),cond_true]
    refine ⟨p.length,p,rfl,rfl,Nat.le_refl _,?_⟩
    rw [List.take_length]
    refine ⟨?_,fun x=>Iff.rfl⟩
    match p,hs with
    | [],_=>simp
    | [x],_=>simp
  rw [decide_eq_false (by omega : ¬ (p.length : Int) < 2),cond_false]
  have hsort : ∀ k,k≤p.length→(∀ j (hj : j < k),0 < j→∀ h : j < p.length,p[j]≠p[j - 1])→Y9 (p.take k) (p.take k):=by
    intro k hk hne
    refine ⟨?_,fun x=>Iff.rfl⟩
    rw [List.pairwise_iff_getElem]
    intro i j hi hj hij
    simp only [List.length_take] at hi hj
    simp only [List.getElem_take]
    have h1 : p[j - 1]≤p[j]:=List.pairwise_iff_getElem.1 hp _ _ (by omega) (by omega) (by omega)
    have h2:=hne j (by omega) (by omega) (by omega)
    have h3 : p[i]≤p[j - 1]:=by
      by_cases e : i = j - 1
      · subst e;exact Int.le_refl _
      · exact List.pairwise_iff_getElem.1 hp _ _ (by omega) (by omega) (by omega)
    omega
  have hstep : ∀ k,0 < k→∀ h : k < p.length,p[k]≠p[k - 1]→Zp p (k : Int) = some (.inl ((k + 1 : Nat) : Int)):=by
    intro k h0 h hne
    have r2 : idx p (w64 ((k : Int) - 1)) = some (p[k - 1]):=by rw [Q0 (by omega)];exact Zg (by omega) (by omega)
    have hb : (p[k] == p[k - 1]) = false:=by simpa using hne
    simp only [Zp,dlt h,cond_true,Qk h,r2,Option.bind_some,hb,cond_false,w64s h hl]
  by_cases hh : ∀ j,0 < j→∀ h : j < p.length,p[j]≠p[j - 1]
  · have h1 : loop (Zp p) 1 = some (.inl ()):=by
      exact Zj (f:=Zp p) (fun k=>((k + 1 : Nat) : Int)) (p.length - 1) _ (fun k hk=>by
        exact hstep (k + 1) (by omega) (by omega) (hh (k + 1) (by omega) (by omega))) (by
        show Zp p (((p.length - 1) + 1 : Nat) : Int) = _
        rw [show p.length - 1 + 1 = p.length by omega]
        simp only [Zp,dnl,cond_false]) (Nat.zero_le _)
    rw [h1]
    refine ⟨p.length,p,rfl,rfl,Nat.le_refl _,?_⟩
    have:=hsort p.length (Nat.le_refl _) fun j _ h0 h=>hh j h0 h
    rw [List.take_length] at this ⊢;exact this
  · have h2 : ∃ k,(0 < k∧∃ h : k < p.length,p[k] = p[k - 1])∧∀ j,j < k→¬ (0 < j∧∃ h : j < p.length,p[j] = p[j - 1]):=by
      have : ∃ k,0 < k∧∃ h : k < p.length,p[k] = p[k - 1]:=by
        refine Classical.byContradiction fun hn=>hh fun j h0 h he=>hn ⟨j,h0,h,he⟩
      obtain ⟨k,hk⟩:=this
      induction k using Nat.strongRecOn with
      | _ k ih=>
        by_cases hj : ∃ j,j < k∧(0 < j∧∃ h : j < p.length,p[j] = p[j - 1])
        · obtain ⟨j,h1,h2⟩:=hj;exact ih j h1 h2
        · exact ⟨k,hk,fun j h1 h2=>hj ⟨j,h1,h2⟩⟩
    obtain ⟨k,⟨h0,hk,he⟩,hmin⟩:=h2
    have hso : Y9 (p.take k) (p.take k):=hsort k (by omega) fun j hj h0 h he=>hmin j hj ⟨h0,h,he⟩
    have hso' : Y9 (p.take (k + 1)) (p.take k):=by
      refine ⟨hso.1,fun x=>?_⟩
      rw [List.take_succ_eq_append_getElem hk,List.mem_append]
      refine ⟨.inl,fun h=>h.elim id fun h=>?_⟩
      simp only [List.mem_singleton] at h
      rw [h,he,List.mem_take_iff_getElem]
      exact ⟨k - 1,by omega,rfl⟩
    obtain ⟨i,a,e1,e2,e3,e4⟩:=qob hp hl h0 hk hso'
    have s1 : sub2 p.length (k : Int) (p.length : Int) = some (k,p.length - k):=by unfold sub2;rw [if_pos ⟨by omega,by omega,by omega⟩];simp
    have s2 : sub2 a.length (i : Int) (a.length : Int) = some (i,a.length - i):=by unfold sub2;rw [if_pos ⟨by omega,by omega,by omega⟩];simp
    have s3 : sub2 a.length 0 (i : Int) = some (0,i):=by unfold sub2;rw [if_pos ⟨by omega,by omega,by omega⟩];simp
    have r2 : idx p (w64 ((k : Int) - 1)) = some (p[k - 1]):=by rw [Q0 (by omega)];exact Zg (by omega) (by omega)
    have h1 : loop (Zp p) 1 = some (.inr ((0,i),clrw a (i,a.length - i) 0)):=by
      exact Zj (f:=Zp p) (fun k=>((k + 1 : Nat) : Int)) (k - 1) _ (fun j hj=>by
        exact hstep (j + 1) (by omega) (by omega) fun he=>hmin (j + 1) (by omega) ⟨by omega,by omega,he⟩) (by
        show Zp p (((k - 1) + 1 : Nat) : Int) = _
        rw [show k - 1 + 1 = k by omega]
        have hb : (p[k] == p[k - 1]) = true:=by simpa using he
        simp only [Zp,dlt hk,cond_true,Qk hk,r2,Option.bind_some,hb,s1,e1,s2,s3]) (Nat.zero_le _)
    rw [h1]
    refine ⟨i,clrw a (i,a.length - i) 0,rfl,by rw [qgd (by simp;omega)];exact e2,e3,?_⟩
    have : (clrw a (i,a.length - i) 0).take i = a.take i:=by
      unfold clrw splice
      rw [List.append_assoc,List.take_append_of_le_length (by simp;omega)]
      simp [List.take_take]
    rw [this];exact e4
end Go.Sh
namespace Go.Sh
open Go Go.Am
theorem q7g {α : Type} [DecidableEq α] (e : α→α→Bool) (he : ∀ v w,e v w = decide (v = w)) (p q : List α) (hl : p.length≤1000000) (f : Int→Option (Int ⊕ (Unit ⊕ Bool)))
    (hf : ∀ k,f k = cond (decide (k < (p.length : Int))) ((idx p k).bind fun v=>(idx q k).bind fun w=>cond (!(e v w)) (some (.inr (.inr false))) (some (.inl (w64 (k + 1))))) (some (.inr (.inl ())))) :
    cond ((p.length : Int) != (q.length : Int)) (some false) ((loop f 0).bind fun m=>(match m with | .inl _=>some true | .inr x=>some x)) = some (decide (p = q)):=by
  by_cases hn : p.length = q.length
  · have : ((p.length : Int) != (q.length : Int)) = false:=by rw [hn];simp
    rw [this,cond_false]
    let c : Nat→Bool:=fun k=>if h : k < p.length then !(e p[k] (q[k]'(by omega))) else false
    have hs : ∀ (k : Nat) (h : k < (List.range p.length).length),f (k : Int) = some (if c (List.range p.length)[k] = true then .inr (.inr false) else .inl ((k + 1 : Nat) : Int)):=by
      intro k h
      have h : k < p.length:=by simpa using h
      rw [hf]
      simp only [dlt h,cond_true,Qk h,Qk (xs:=q) (k:=k) (by omega),Option.bind_some,List.getElem_range,c,dif_pos h,w64s h hl]
      cases e p[k] (q[k]'(by omega)) <;> simp
    have hd : f ((List.range p.length).length : Int) = some (.inr (.inl ())):=by rw [hf];simp []
    rcases q1g (List.range p.length) c (fun _ _=>false) () f hs hd with ⟨h1,h2⟩ | ⟨k,hk,hc,_,h2⟩
    · rw [h2]
      have : p = q:=by
        refine List.ext_getElem hn fun k h3 h4=>?_
        have:=h1 k (by simpa using h3)
        simp only [c,dif_pos h3,he,Bool.not_eq_false',decide_eq_true_eq] at this
        exact this
      simp [this]
    · rw [h2]
      have hk' : k < p.length:=by simpa using hk
      have : p≠q:=by
        intro h
        simp only [List.getElem_range,c,he,h] at hc
        simp at hc
      simp [this]
  · have : ((p.length : Int) != (q.length : Int)) = true:=by simpa using (fun h : (p.length : Int) = q.length=>hn (by omega))
    rw [this,cond_true]
    have : p≠q:=fun h=>hn (by rw [h])
    simp [this]
theorem qh3 (p q : List qh) (hl : p.length≤1000000) : q8e p q = some (decide (p = q)):=
  q7g (fun v w=>((v.Lo == w.Lo) && ((v.Hi == w.Hi) && true))) (fun v w=>by cases v;cases w;rw [Bool.eq_iff_iff];simp) p q hl (qbk p q) (fun _=>rfl)
theorem qko (p q : List qh) (hl : p.length≤1000000) : q53 p q = some (decide (p = q)):=
  q7g (fun v w=>((v.Lo == w.Lo) && ((v.Hi == w.Hi) && true))) (fun v w=>by cases v;cases w;rw [Bool.eq_iff_iff];simp) p q hl (qb4 p q) (fun _=>rfl)
theorem qd7 (p q : List qg) (hl : p.length≤1000000) : q5q p q = some (decide (p = q)):=
  q7g (fun v w=>((v.X0 == w.X0) && ((v.Y0 == w.Y0) && ((v.X1 == w.X1) && ((v.Y1 == w.Y1) && true))))) (fun v w=>by cases v;cases w;rw [Bool.eq_iff_iff];simp) p q hl (qbi p q) (fun _=>rfl)
theorem qkn (p q : List qg) (hl : p.length≤1000000) : q57 p q = some (decide (p = q)):=
  q7g (fun v w=>((v.X0 == w.X0) && ((v.Y0 == w.Y0) && ((v.X1 == w.X1) && ((v.Y1 == w.Y1) && true))))) (fun v w=>by cases v;cases w;rw [Bool.eq_iff_iff];simp) p q hl (qb5 p q) (fun _=>rfl)
theorem sameBox (p q : List qf) (hl : p.length≤1000000) : U8 p q = some (decide (p = q)):=
  q7g (fun v w=>((v.Lo.X == w.Lo.X) && ((v.Lo.Y == w.Lo.Y) && ((v.Lo.Z == w.Lo.Z) && ((v.Hi.X == w.Hi.X) && ((v.Hi.Y == w.Hi.Y) && ((v.Hi.Z == w.Hi.Z) && true))))))) (fun v w=>by rcases v with ⟨⟨_,_,_⟩,⟨_,_,_⟩⟩;rcases w with ⟨⟨_,_,_⟩,⟨_,_,_⟩⟩;rw [Bool.eq_iff_iff];simp [and_assoc]) p q hl (qb8 p q) (fun _=>rfl)
structure Mg (σ β : Type) where
  done : List β
  sec : List σ
  lo : Int
  hi : Int
section
variable {σ β : Type} [DecidableEq σ] (put : Int→Int→σ→β)
def Mg.flat (s : Mg σ β) : List β:=s.done ++ s.sec.map (put s.lo s.hi)
def addM (s : Mg σ β) (a b : Int) (c : List σ) : Mg σ β:=if c≠[]∧c = s.sec∧s.hi = a then ⟨s.done,s.sec,s.lo,b⟩ else ⟨s.flat put,c,a,b⟩
def Qh : Mg σ β:=⟨[],[],0,0⟩
def Qj (s0 : Mg σ β) (steps : List (Int × Int × List σ)) : Mg σ β:=steps.foldl (fun s t=>addM put s t.1 t.2.1 t.2.2) s0
theorem q2r {s0 : Mg σ β} {steps : List (Int × Int × List σ)} {i : Nat} (h : i < steps.length) : Qj put s0 (steps.take (i + 1)) = addM put (Qj put s0 (steps.take i)) steps[i].1 steps[i].2.1 steps[i].2.2:=by
  unfold Qj
  rw [List.take_succ_eq_append_getElem h,List.foldl_append];rfl
theorem qfp (s : Mg σ β) (a b : Int) (c : List σ) : (addM put s a b c).hi = b:=by unfold addM;split <;> rfl
theorem qmt (s : Mg σ β) (a b : Int) (c : List σ) : ((addM put s a b c).flat put).length≤(s.flat put).length + c.length:=by
  unfold addM;split
  · simp [Mg.flat]
  · simp [Mg.flat];omega
theorem qaf {s0 : Mg σ β} {M : Nat} : ∀ {steps : List (Int × Int × List σ)},(∀ t∈steps,t.2.2.length≤M)→((Qj put s0 steps).flat put).length≤(s0.flat put).length + steps.length * M:=by
  intro steps
  induction steps generalizing s0 with
  | nil=>intro _;simp [Qj]
  | cons t r ih=>
    intro h
    have h1:=ih (s0:=addM put s0 t.1 t.2.1 t.2.2) fun u hu=>h u (by simp [hu])
    have h2:=qmt put s0 t.1 t.2.1 t.2.2
    have h3:=h t (by simp)
    have h4 : Qj put s0 (t::r) = Qj put (addM put s0 t.1 t.2.1 t.2.2) r:=rfl
    rw [h4]
    simp only [List.length_cons,Nat.succ_mul]
    omega
end
section
variable {σ : Type}
def Y2 (cuts : List Int) (sec : Int→List σ) : List (Int × Int × List σ):=(cuts.zip cuts.tail).map fun c=>(c.1,c.2,sec c.1)
theorem q72 (cuts : List Int) (sec : Int→List σ) : (Y2 cuts sec).length = cuts.length - 1:=by simp [Y2]
theorem q71 {cuts : List Int} {sec : Int→List σ} {i : Nat} (h : i < (Y2 cuts sec).length) (h1 : i + 1 < cuts.length) : (Y2 cuts sec)[i] = (cuts[i],cuts[i + 1],sec cuts[i]):=by
  simp [Y2]
theorem qyz {cuts : List Int} {sec : Int→List σ} {M : Nat} (h : ∀ x,(sec x).length≤M) : ∀ t∈Y2 cuts sec,t.2.2.length≤M:=by
  intro t ht
  simp only [Y2,List.mem_map] at ht
  obtain ⟨c,_,rfl⟩:=ht
  exact h _
end
theorem Uf {σ β : Type} [DecidableEq σ] (put : Int→Int→σ→β) (s : Mg σ β) (a b : Int) (c : List σ) : (c≠[]∧c = s.sec∧s.hi = a∧addM put s a b c = ⟨s.done,s.sec,s.lo,b⟩)∨(¬ (c≠[]∧c = s.sec∧s.hi = a)∧addM put s a b c = ⟨s.flat put,c,a,b⟩):=by
  unfold addM
  split
  · rename_i h;exact .inl ⟨h.1,h.2.1,h.2.2,rfl⟩
  · rename_i h;exact .inr ⟨h,rfl⟩
def putR (a b : Int) (t : qh) : qg:={X0:=a,Y0:=t.Lo,X1:=b,Y1:=t.Hi}
theorem qg4 (s : Mg qh qg) (a b : Int) (c : List qh) (hl : (s.flat putR).length + c.length≤1000000) :
    q5i (s.flat putR) s.sec (s.done.length : Int) s.hi a b c = some ((addM putR s a b c).sec,((addM putR s a b c).done.length : Int),(addM putR s a b c).hi,(addM putR s a b c).flat putR):=by
  have hsec : s.sec.length≤1000000:=by have : (s.flat putR).length = s.done.length + s.sec.length:=(by simp [Mg.flat]);omega
  unfold q5i
  rcases Uf putR s a b c with ⟨h1,h2,h3,h4⟩ | ⟨h1,h4⟩
  · have hb : decide ((c.length : Int) > 0) = true:=decide_eq_true (by have:=List.length_pos_iff.2 h1;omega)
    have he : (s.hi == a) = true:=by simpa using h3
    rw [h2] at hb
    rw [h4,h2]
    simp only [hb,cond_true,he,Option.bind_some,qh3 _ _ hsec,decide_true]
    have:=qac (fun v : qg=>({X0:=v.X0,Y0:=v.Y0,X1:=b,Y1:=v.Y1} : qg)) s.done (s.sec.map (putR s.lo s.hi)) (by have : (s.done ++ s.sec.map (putR s.lo s.hi)).length = (s.flat putR).length:=rfl;omega) (q5j b) (fun k o hk ho=>by
      have h5 : (s.done ++ s.sec.map (putR s.lo s.hi)).length = (s.flat putR).length:=rfl
      simp only [q5j,dlt hk,cond_true,Qk hk,Option.bind_some,w64s hk (by omega),Int.toNat_natCast]) (fun o=>by simp only [q5j,dnl,cond_false])
    rw [show s.flat putR = s.done ++ s.sec.map (putR s.lo s.hi) from rfl,this]
    simp only [Option.bind_some,Mg.flat,List.map_map]
    rfl
  · rw [h4]
    have hc : ((cond (decide ((c.length : Int) > 0)) (some (s.hi == a)) (some false)).bind fun c101=>(cond c101 ((q8e s.sec c).bind fun r121=>some r121) (some false))) = some false:=by
      by_cases h5 : c = []
      · subst h5;simp
      · have hb : decide ((c.length : Int) > 0) = true:=decide_eq_true (by have:=List.length_pos_iff.2 h5;omega)
        simp only [hb,cond_true,Option.bind_some,qh3 _ _ hsec]
        by_cases h6 : s.hi = a
        · have h7 : s.sec≠c:=fun h=>h1 ⟨h5,h.symm,h6⟩
          simp [h6,h7]
        · have : (s.hi == a) = false:=by simpa using h6
          simp [this]
    have hap:=q7p c (putR a b) (s.flat putR) (fun o=>(c,((s.flat putR).length : Int),b,o)) (q5k c a b (s.flat putR)) (fun k hk o ho=>by
      simp only [q5k,dlt hk,cond_true,Qk hk,Option.bind_some,w64s hk (by omega)]
      rw [Kl (by simp;omega)]
      rfl) (fun o=>by simp only [q5k,dnl,cond_false])
    rw [← Option.bind_assoc,hc]
    simp only [Option.bind_some,cond_false,hap]
    simp [Mg.flat]
end Go.Sh
namespace Go.Sh
open Go Go.Am
def vR (r : qg) : Prop:=r.X0 < r.X1∧r.Y0 < r.Y1∧-1000000≤r.X0∧r.X0≤1000000∧-1000000≤r.X1∧r.X1≤1000000∧-1000000≤r.Y0∧r.Y0≤1000000∧-1000000≤r.Y1∧r.Y1≤1000000
instance (r : qg) : Decidable (vR r):=by unfold vR;infer_instance
theorem qp3 (x : Int) : q24 x = some (decide (-1000000≤x∧x≤1000000)):=by
  unfold q24
  by_cases h : x ≥ -1000000 <;> by_cases h' : x≤1000000 <;> simp [h,h'] <;> omega
theorem qmf (r : qg) : q5m r = some (decide (vR r)):=by
  unfold q5m
  simp only [qp3,qod,Option.bind_some,vR]
  by_cases h1 : r.X0 < r.X1 <;> by_cases h2 : r.Y0 < r.Y1 <;> by_cases h3 : -1000000≤r.X0∧r.X0≤1000000 <;> by_cases h4 : -1000000≤r.X1∧r.X1≤1000000 <;> by_cases h5 : -1000000≤r.Y0∧r.Y0≤1000000 <;> by_cases h6 : -1000000≤r.Y1∧r.Y1≤1000000 <;> simp [h1,h2,h3,h4,h5,h6] <;> omega
def covR (x : Int) (r : qg) : Bool:=decide (r.X0≤x) && decide (x < r.X1)
def ysp (r : qg) : qh:={Lo:=r.Y0,Hi:=r.Y1}
def covS (l : List qg) (x : Int) : List qh:=l.flatMap fun r=>if covR x r = true then [ysp r] else []
def hasR (l : List qg) (x y : Int) : Prop:=∃ r∈l,r.X0≤x∧x < r.X1∧r.Y0≤y∧y < r.Y1
theorem qap {l : List qg} {x : Int} {t : qh} : t∈covS l x↔∃ r∈l,covR x r = true∧t = ysp r:=by
  unfold covS
  rw [List.mem_flatMap]
  constructor
  · rintro ⟨r,hr,h⟩
    split at h
    · rename_i hc;simp only [List.mem_singleton] at h;exact ⟨r,hr,hc,h⟩
    · cases h
  · rintro ⟨r,hr,hc,rfl⟩;exact ⟨r,hr,by simp [hc]⟩
theorem U6 {l : List qg} {x y : Int} : has (covS l x) y↔hasR l x y:=by
  unfold has hasR
  constructor
  · rintro ⟨t,ht,h1,h2⟩
    obtain ⟨r,hr,hc,rfl⟩:=qap.1 ht
    simp only [covR,Bool.and_eq_true,decide_eq_true_eq] at hc
    exact ⟨r,hr,hc.1,hc.2,h1,h2⟩
  · rintro ⟨r,hr,h1,h2,h3,h4⟩
    exact ⟨ysp r,qap.2 ⟨r,hr,by simp [covR,h1,h2],rfl⟩,h3,h4⟩
theorem Ju (l : List qg) (x : Int) : (covS l x).length≤l.length:=by
  unfold covS
  induction l with
  | nil=>simp
  | cons r l ih=>
    simp only [List.flatMap_cons,List.length_append,List.length_cons]
    have : (if covR x r = true then [ysp r] else []).length≤1:=by split <;> simp
    omega
theorem qgt {l : List qg} (h : ∀ r∈l,vR r) (x : Int) : ∀ t∈covS l x,vld t:=by
  intro t ht
  obtain ⟨r,hr,_,rfl⟩:=qap.1 ht
  obtain ⟨_,h2,_,_,_,_,h3,_,_,h4⟩:=h r hr
  exact ⟨h2,h3,h4⟩
def xsOf (l : List qg) : List Int:=l.flatMap fun r=>[r.X0,r.X1]
def ysOf (l : List qg) : List Int:=l.flatMap fun r=>[r.Y0,r.Y1]
theorem Je (l : List qg) : (xsOf l).length = 2 * l.length:=by
  unfold xsOf;induction l with
  | nil=>rfl
  | cons r l ih=>simp only [List.flatMap_cons,List.length_append,List.length_cons,List.length_nil];omega
theorem q9u (l : List qg) : (ysOf l).length = 2 * l.length:=by
  unfold ysOf;induction l with
  | nil=>rfl
  | cons r l ih=>simp only [List.flatMap_cons,List.length_append,List.length_cons,List.length_nil];omega
theorem qh1 {l : List qg} {x y : Int} (h : y∈ends (covS l x)) : y∈ysOf l:=by
  obtain ⟨t,ht,h⟩:=q7r.1 h
  obtain ⟨r,hr,_,rfl⟩:=qap.1 ht
  unfold ysOf
  rw [List.mem_flatMap]
  exact ⟨r,hr,by rcases h with h | h <;> simp [h,ysp]⟩
noncomputable def Qf (l : List Int) : List Int:=(J8 l).getD []
theorem J2 {l : List Int} (hl : l.length≤1000000) : J8 l = some (Qf l)∧Y9 l (Qf l)∧(Qf l).length≤l.length:=by
  obtain ⟨t,h1,h2,h3⟩:=qlm l hl
  unfold Qf;rw [h1];exact ⟨rfl,h2,h3⟩
noncomputable def secJ (kind : Int) (p q : List qg) (x : Int) : List qh:=Zh kind (covS p x) (covS q x)
theorem qew (kind : Int) {p q : List qg} (h : p.length + q.length≤100000) (x : Int) : (secJ kind p q x).length≤2 * (p.length + q.length):=by
  have h1:=Ju p x
  have h2:=Ju q x
  have:=(q4q kind (covS p x) (covS q x) (by omega) (by omega)).2.len
  unfold secJ;omega
noncomputable def mrg (kind : Int) (p q : List qg) : Mg qh qg:=Qj putR Qh (Y2 (Qf (xsOf p ++ xsOf q)) (secJ kind p q))
noncomputable def mrgR (kind : Int) (p q : List qg) : List qg:=(mrg kind p q).flat putR
theorem qa9 {p q : List qg} (h : p.length + q.length≤400) : J8 (xsOf p ++ xsOf q) = some (Qf (xsOf p ++ xsOf q))∧Y9 (xsOf p ++ xsOf q) (Qf (xsOf p ++ xsOf q))∧(Qf (xsOf p ++ xsOf q)).length≤2 * (p.length + q.length):=by
  have h1:=Je p
  have h2:=Je q
  obtain ⟨a,b,c⟩:=J2 (l:=xsOf p ++ xsOf q) (by simp;omega)
  exact ⟨a,b,by simp at c;omega⟩
theorem qd5 {p q : List qg} (h : p.length + q.length≤400) : J8 (ysOf p ++ ysOf q) = some (Qf (ysOf p ++ ysOf q))∧Y9 (ysOf p ++ ysOf q) (Qf (ysOf p ++ ysOf q))∧(Qf (ysOf p ++ ysOf q)).length≤2 * (p.length + q.length):=by
  have h1:=q9u p
  have h2:=q9u q
  obtain ⟨a,b,c⟩:=J2 (l:=ysOf p ++ ysOf q) (by simp;omega)
  exact ⟨a,b,by simp at c;omega⟩
theorem qj9 (kind : Int) {p q : List qg} (h : p.length + q.length≤400) (i : Nat) :
    ((Qj putR Qh ((Y2 (Qf (xsOf p ++ xsOf q)) (secJ kind p q)).take i)).flat putR).length≤800 * 800:=by
  have h1:=qaf putR (s0:=Qh) (M:=800) (steps:=(Y2 (Qf (xsOf p ++ xsOf q)) (secJ kind p q)).take i) (fun t ht=>by
    have:=qyz (M:=2 * (p.length + q.length)) (fun x=>qew kind (by omega) x) t (List.mem_of_mem_take ht)
    omega)
  have h2 : ((Y2 (Qf (xsOf p ++ xsOf q)) (secJ kind p q)).take i).length≤800:=by
    have:=(qa9 h).2.2
    rw [List.length_take,q72];omega
  have h3 : (Qh.flat putR : List qg).length = 0:=rfl
  have h4 : ((Y2 (Qf (xsOf p ++ xsOf q)) (secJ kind p q)).take i).length * 800≤800 * 800:=Nat.mul_le_mul_right _ h2
  omega
theorem qqe (l : List qg) (hl : l.length≤400) :
    (((idx [l] 0).bind fun v95=>(loop (Z7 v95) (0,[])).bind fun x0=>some x0).bind fun b94=>(Ja b94).bind fun e127=>(Qm e127.length b94.length).bind fun _=>(U9 e127).bind fun e132=>(Qm e132.2.length e127.length).bind fun _=>(Ud e132.2.length e132.1).bind fun _=>some ((e132.2.drop e132.1.1).take e132.1.2)) = some (Qf (xsOf l)):=by
  have e0 : idx [l] 0 = some l:=rfl
  have e1 : loop (Z7 l) (0,[]) = some (xsOf l):=by
    have:=Zy l (by omega) (fun r=>[r.X0,r.X1]) [] (fun o=>o) (Z7 l) (fun k hk o ho=>by
      have h8 : o.length = 2 * k:=by rw [ho,List.nil_append];have:=Je (l.take k);rw [List.length_take,Nat.min_eq_left (by omega)] at this;exact this
      simp only [Z7,dlt hk,cond_true,Qk hk,Option.bind_some,w64s hk (by omega)]
      rw [Kl (by simp;omega)]
      rfl) (fun o=>by simp only [Z7,dnl,cond_false])
    rw [List.nil_append] at this
    exact this
  have hx:=Je l
  obtain ⟨ys,s1,s2,s3⟩:=qlk (xsOf l) (by omega)
  have hys : ys.length = (xsOf l).length:=s2.length_eq
  obtain ⟨w,a,c1,c2,c3,c4⟩:=qgo s3 (by omega)
  obtain ⟨_,d2,_⟩:=J2 (l:=xsOf l) (by omega)
  have huniq : a.take w = Qf (xsOf l):=by
    refine qll (l:=xsOf l) ⟨c4.1,fun x=>?_⟩ d2
    rw [c4.2 x];exact s2.mem_iff
  simp only [e0,Option.bind_some,e1,s1,Qm,hys,if_true,c1,c2,Ud]
  rw [if_pos (by omega)]
  simp only [Option.bind_some,List.drop_zero,huniq]
theorem qdv (l : List qg) (hl : l.length≤400) (x : Int) : loop (Jr l x) (0,[]) = some (covS l x):=by
  have:=Zy l (by omega) (fun r=>if covR x r = true then [ysp r] else []) [] (fun o=>o) (Jr l x) (fun k hk o ho=>by
    have h8 : o.length≤k:=by rw [ho,List.nil_append];have:=Ju (l.take k) x;rw [List.length_take,Nat.min_eq_left (by omega)] at this;exact this
    simp only [Jr,dlt hk,cond_true,Qk hk,Option.bind_some,w64s hk (by omega)]
    by_cases h1 : l[k].X0≤x
    · by_cases h2 : x < l[k].X1
      · simp only [h1,h2,decide_true,cond_true,Option.bind_some,covR,Bool.and_self,if_true]
        rw [Kl (by simp;omega)]
        rfl
      · simp only [h1,h2,decide_true,decide_false,cond_true,cond_false,Option.bind_some,covR,Bool.and_false,if_false,Bool.false_eq_true,List.append_nil]
    · simp only [h1,decide_false,cond_false,Option.bind_some,covR,Bool.false_and,if_false,Bool.false_eq_true,List.append_nil]) (fun o=>by simp only [Jr,dnl,cond_false])
  rw [List.nil_append] at this
  exact this
theorem qiu (l : List qg) (hl : l.length≤400) (hv : ∀ r∈l,vR r) : q5l l = some (if 400 < (mrgR 2 l []).length then ([],4) else (mrgR 2 l [],0)):=by
  unfold q5l
  rw [qqe l hl]
  simp only [Option.bind_some]
  have hcut : Qf (xsOf l ++ xsOf []) = Qf (xsOf l):=by simp [xsOf]
  obtain ⟨_,hso,hlen⟩:=qa9 (p:=l) (q:=[]) (by simpa using hl)
  have hml:=fun i=>qj9 2 (p:=l) (q:=[]) (by simpa using hl) i
  rw [hcut] at hso hlen
  have hlen : (Qf (xsOf l)).length≤2 * l.length:=by simpa using hlen
  have hmain : loop (q25 (Qf (xsOf l)) l) (1,[],0,0,[]) = some ((mrg 2 l []).sec,((mrg 2 l []).done.length : Int),(mrg 2 l []).hi,mrgR 2 l []):=by
    unfold mrgR mrg
    rw [hcut] at hml ⊢
    generalize hst : Y2 (Qf (xsOf l)) (secJ 2 l []) = steps at hml ⊢
    have hsl : steps.length = (Qf (xsOf l)).length - 1:=by rw [← hst];exact q72 _ _
    have hfin : Qj putR Qh (steps.take steps.length) = Qj putR Qh steps:=by rw [List.take_length]
    have key:=Zj (f:=q25 (Qf (xsOf l)) l) (fun k=>(((k + 1 : Nat) : Int),(Qj putR Qh (steps.take k)).sec,((Qj putR Qh (steps.take k)).done.length : Int),(Qj putR Qh (steps.take k)).hi,(Qj putR Qh (steps.take k)).flat putR))
      steps.length ((Qj putR Qh steps).sec,((Qj putR Qh steps).done.length : Int),(Qj putR Qh steps).hi,(Qj putR Qh steps).flat putR) (fun k hk=>by
        have hk1 : k + 1 < (Qf (xsOf l)).length:=by omega
        have hg : steps[k] = ((Qf (xsOf l))[k],(Qf (xsOf l))[k + 1],secJ 2 l [] (Qf (xsOf l))[k]):=by
          subst hst;exact q71 hk hk1
        have i1 : idx (Qf (xsOf l)) (w64 (((k + 1 : Nat) : Int) - 1)) = some (Qf (xsOf l))[k]:=by rw [Q0 (by omega)];exact Zg (by omega) (by omega)
        have hcl:=Ju l (Qf (xsOf l))[k]
        have hmk : q6x (covS l (Qf (xsOf l))[k]) = some (secJ 2 l [] (Qf (xsOf l))[k],0):=by
          rw [qqf]
          unfold qdw
          rw [if_neg (by omega),if_pos (qgt hv _)]
          rfl
        have hbl:=qew 2 (p:=l) (q:=[]) (by simp;omega) (Qf (xsOf l))[k]
        have hml':=hml k
        have hb:=qg4 (Qj putR Qh (steps.take k)) (Qf (xsOf l))[k] (Qf (xsOf l))[k + 1] (secJ 2 l [] (Qf (xsOf l))[k]) (by simp at hbl;omega)
        rw [q2r putR hk,hg]
        simp only [q25,dlt hk1,cond_true,i1,Qk hk1,Option.bind_some,show idx [l] 0 = some l from rfl,qdv l hl,hmk,hb]
        rw [w64s hk1 (by omega)]) (by
        rw [hfin]
        by_cases h0 : (Qf (xsOf l)).length = 0
        · have : decide (((steps.length + 1 : Nat) : Int) < ((Qf (xsOf l)).length : Int)) = false:=decide_eq_false (by omega)
          simp only [q25,this,cond_false]
        · have : decide (((steps.length + 1 : Nat) : Int) < ((Qf (xsOf l)).length : Int)) = false:=decide_eq_false (by omega)
          simp only [q25,this,cond_false]) (Nat.zero_le _)
    exact key
  rw [hmain]
  simp only [Option.bind_some]
  by_cases h4 : 400 < (mrgR 2 l []).length
  · rw [decide_eq_true (by omega : ((mrgR 2 l []).length : Int) > 400),if_pos h4];rfl
  · rw [decide_eq_false (by omega : ¬ ((mrgR 2 l []).length : Int) > 400),if_neg h4];rfl
end Go.Sh
namespace Go.Sh
open Go Go.Am
theorem qsi {p q : List qg} (h : p.length + q.length≤400) : q7z p q = some (Qf (xsOf p ++ xsOf q)):=by
  have e1 : loop (q34 p) (0,[]) = some (xsOf p):=by
    have:=Zy p (by omega) (fun r=>[r.X0,r.X1]) [] (fun o=>o) (q34 p) (fun k hk o ho=>by
      have h8 : o.length = 2 * k:=by rw [ho,List.nil_append];have:=Je (p.take k);rw [List.length_take,Nat.min_eq_left (by omega)] at this;exact this
      simp only [q34,dlt hk,cond_true,Qk hk,Option.bind_some,w64s hk (by omega)]
      rw [Kl (by simp;omega)]
      rfl) (fun o=>by simp only [q34,dnl,cond_false])
    rw [List.nil_append] at this
    exact this
  have e2 : loop (q35 q) (0,xsOf p) = some (xsOf p ++ xsOf q):=by
    have hp:=Je p
    exact Zy q (by omega) (fun r=>[r.X0,r.X1]) (xsOf p) (fun o=>o) (q35 q) (fun k hk o ho=>by
      have h8 : o.length = 2 * p.length + 2 * k:=by
        rw [ho,List.length_append,hp];have:=Je (q.take k);rw [List.length_take,Nat.min_eq_left (by omega)] at this
        unfold xsOf at this;omega
      simp only [q35,dlt hk,cond_true,Qk hk,Option.bind_some,w64s hk (by omega)]
      rw [Kl (by simp;omega)]
      rfl) (fun o=>by simp only [q35,dnl,cond_false])
  unfold q7z
  simp only [e1,e2,Option.bind_some,(qa9 h).1]
theorem qsk {p q : List qg} (h : p.length + q.length≤400) : q80 p q = some (Qf (ysOf p ++ ysOf q)):=by
  have e1 : loop (q36 p) (0,[]) = some (ysOf p):=by
    have:=Zy p (by omega) (fun r=>[r.Y0,r.Y1]) [] (fun o=>o) (q36 p) (fun k hk o ho=>by
      have h8 : o.length = 2 * k:=by rw [ho,List.nil_append];have:=q9u (p.take k);rw [List.length_take,Nat.min_eq_left (by omega)] at this;exact this
      simp only [q36,dlt hk,cond_true,Qk hk,Option.bind_some,w64s hk (by omega)]
      rw [Kl (by simp;omega)]
      rfl) (fun o=>by simp only [q36,dnl,cond_false])
    rw [List.nil_append] at this
    exact this
  have e2 : loop (q37 q) (0,ysOf p) = some (ysOf p ++ ysOf q):=by
    have hp:=q9u p
    exact Zy q (by omega) (fun r=>[r.Y0,r.Y1]) (ysOf p) (fun o=>o) (q37 q) (fun k hk o ho=>by
      have h8 : o.length = 2 * p.length + 2 * k:=by
        rw [ho,List.length_append,hp];have:=q9u (q.take k);rw [List.length_take,Nat.min_eq_left (by omega)] at this
        unfold ysOf at this;omega
      simp only [q37,dlt hk,cond_true,Qk hk,Option.bind_some,w64s hk (by omega)]
      rw [Kl (by simp;omega)]
      rfl) (fun o=>by simp only [q37,dnl,cond_false])
  unfold q80
  simp only [e1,e2,Option.bind_some,(qd5 h).1]
open Classical in
theorem qk0 (l : List qg) (x y : Int) (hl : l.length≤1000000) : q54 l x y = some (decide (hasR l x y)):=by
  let c : qg→Bool:=fun r=>decide (r.X0≤x) && (decide (x < r.X1) && (decide (r.Y0≤y) && decide (y < r.Y1)))
  have hs : ∀ (k : Nat) (h : k < l.length),q1z l x y (k : Int) = some (if c l[k] = true then .inr (.inr true) else .inl ((k + 1 : Nat) : Int)):=by
    intro k h
    simp only [q1z,dlt h,cond_true,Qk h,Option.bind_some,w64s h hl,c]
    by_cases h1 : l[k].X0≤x <;> by_cases h2 : x < l[k].X1 <;> by_cases h3 : l[k].Y0≤y <;> by_cases h4 : y < l[k].Y1 <;> simp [h1,h2,h3,h4]
  have hd : q1z l x y (l.length : Int) = some (.inr (.inl ())):=by simp only [q1z,dnl,cond_false]
  unfold q54
  rcases q1g l c (fun _ _=>true) () (q1z l x y) hs hd with ⟨h1,h2⟩ | ⟨k,hk,hc,_,h2⟩
  · rw [h2]
    have : ¬ hasR l x y:=by
      rintro ⟨r,hr,a1,a2,a3,a4⟩
      have:=h1 r hr
      simp [c,a1,a2,a3,a4] at this
    simp [this]
  · rw [h2]
    have : hasR l x y:=by
      simp only [c,Bool.and_eq_true,decide_eq_true_eq] at hc
      exact ⟨l[k],List.getElem_mem hk,hc.1,hc.2.1,hc.2.2.1,hc.2.2.2⟩
    simp [this]
theorem qdl {kind : Int} {a b : Prop} (h : Qt kind a b) : a∨b:=by
  rcases h with ⟨_,h,_⟩ | ⟨_,h⟩ | ⟨_,_,h,_⟩
  · exact .inl h
  · exact h
  · exact .inl h
theorem qi8 {kind : Int} {a b a' b' : Prop} (h1 : a↔a') (h2 : b↔b') : Qt kind a b↔Qt kind a' b':=by
  unfold Qt;rw [h1,h2]
open Classical in
theorem qne (kind : Int) {p q : List qg} (h : p.length + q.length≤400) (x : Int) :
    q2y (Qf (ysOf p ++ ysOf q)) ((Qf (ysOf p ++ ysOf q)).map fun y=>decide (Qt kind (hasR p x y) (hasR q x y))) = some (secJ kind p q x):=by
  obtain ⟨_,hso,hlen⟩:=qd5 h
  generalize Qf (ysOf p ++ ysOf q) = ys at hso hlen ⊢
  obtain ⟨c,h1,h2⟩:=qg8 ys (ys.map fun y=>decide (Qt kind (hasR p x y) (hasR q x y))) hso.1 (by omega) (by simp)
  rw [h1]
  have cp:=Ju p x
  have cq:=Ju q x
  have hj:=(q4q kind (covS p x) (covS q x) (by omega) (by omega)).2
  have mp : ∀ z∈ends (covS p x),z∈ys:=fun z hz=>(hso.2 z).2 (List.mem_append.2 (.inl (qh1 hz)))
  have mq : ∀ z∈ends (covS q x),z∈ys:=fun z hz=>(hso.2 z).2 (List.mem_append.2 (.inr (qh1 hz)))
  congr 1
  refine q4c h2.can hj.can fun z=>?_
  unfold secJ
  rw [h2.pts z,hj.pts z]
  constructor
  · rintro ⟨i,hi,hi',_,hin,a1,a2⟩
    simp only [List.getElem_map,decide_eq_true_eq] at hin
    refine (qi8 ?_ ?_).2 hin
    · rw [q28 hso.1 mp hi a1 a2,U6]
    · rw [q28 hso.1 mq hi a1 a2,U6]
  · intro hh
    have : ∃ i,∃ (h : i + 1 < ys.length),ys[i]≤z∧z < ys[i + 1]:=by
      rcases qdl hh with h | h
      · exact qai hso.1 mp h
      · exact qai hso.1 mq h
    obtain ⟨i,hi,a1,a2⟩:=this
    refine ⟨i,hi,by simp;omega,by omega,?_,a1,a2⟩
    simp only [List.getElem_map,decide_eq_true_eq]
    refine (qi8 ?_ ?_).1 hh
    · rw [q28 hso.1 mp hi a1 a2,U6]
    · rw [q28 hso.1 mq hi a1 a2,U6]
open Classical in
theorem qq2 (kind : Int) {p q : List qg} (h : p.length + q.length≤400) (ys xs : List Int) (hy : ys.length≤1000000) (i : Nat) (hi : i < xs.length) (a : List qh × Int × Int × List qg) (ha : a.2.2.1 = i) :
    loop (q32 ys xs a p q kind) (0,[]) = some (ys.map fun y=>decide (Qt kind (hasR p xs[i] y) (hasR q xs[i] y))):=by
  have:=q7p ys (fun y=>decide (Qt kind (hasR p xs[i] y) (hasR q xs[i] y))) [] (fun o=>o) (q32 ys xs a p q kind) (fun k hk o ho=>by
    simp only [q32,dlt hk,cond_true,ha,Qk hk,Qk hi,Option.bind_some,qk0 p _ _ (by omega),qk0 q _ _ (by omega),qia,w64s hk hy]
    rw [Kl (by simp at ho ⊢;omega)]
    rfl) (fun o=>by simp only [q32,dnl,cond_false])
  rw [List.nil_append] at this
  exact this
theorem qq3 (kind : Int) {p q : List qg} (h : p.length + q.length≤400) {xs : List Int} (hx : xs.length≤1000000) {i : Nat} (hi : i + 1 < xs.length) (s : Mg qh qg) (hl : (s.flat putR).length + (secJ kind p q xs[i]).length≤1000000)
    (h0 : i = 0→s.sec = []) (h1 : 0 < i→s.hi = xs[i]) :
    q20 xs (Qf (ysOf p ++ ysOf q)) p q kind (s.sec,(s.done.length : Int),(i : Int),s.flat putR) =
      some (.inl ((addM putR s xs[i] xs[i + 1] (secJ kind p q xs[i])).sec,((addM putR s xs[i] xs[i + 1] (secJ kind p q xs[i])).done.length : Int),((i + 1 : Nat) : Int),(addM putR s xs[i] xs[i + 1] (secJ kind p q xs[i])).flat putR)):=by
  have hi0 : i < xs.length:=by omega
  have hw : w64 ((i : Int) + 1) = ((i + 1 : Nat) : Int):=w64s hi0 hx
  have hy:=(qd5 h).2.2
  have hfl : (s.flat putR).length = s.done.length + s.sec.length:=by simp [Mg.flat]
  have hins:=qq2 kind h (Qf (ysOf p ++ ysOf q)) xs (by omega) i hi0 (s.sec,(s.done.length : Int),(i : Int),s.flat putR) rfl
  unfold q20
  simp only [hw,dlt hi,cond_true,hins,Option.bind_some,qne kind h]
  generalize hc : secJ kind p q xs[i] = c at hl ⊢
  by_cases hsame : 0 < i∧c = s.sec
  · obtain ⟨hpos,hcs⟩:=hsame
    have hb : decide ((i : Int) > 0) = true:=decide_eq_true (by omega)
    have hext:=qac (fun v : qg=>({X0:=v.X0,Y0:=v.Y0,X1:=xs[i + 1],Y1:=v.Y1} : qg)) s.done (s.sec.map (putR s.lo s.hi)) (by simp;omega) (q33 xs (s.sec,(s.done.length : Int),(i : Int),s.flat putR)) (fun k o hk ho=>by
      have h5 : (s.done ++ s.sec.map (putR s.lo s.hi)).length = (s.flat putR).length:=rfl
      simp only [q33,dlt hk,cond_true,Qk hk,Qk hi,hw,Option.bind_some,w64s hk (by omega),Int.toNat_natCast]) (fun o=>by simp only [q33,dnl,cond_false])
    have hsp : q53 c s.sec = some true:=by rw [qko _ _ (by omega)];simp [hcs]
    have hext : loop (q33 xs (s.sec,(s.done.length : Int),(i : Int),s.flat putR)) ((s.done.length : Int),s.flat putR) = _:=hext
    simp only [hb,cond_true,hsp,Option.bind_some,hext]
    rcases Uf putR s xs[i] xs[i + 1] c with ⟨_,_,_,h4⟩ | ⟨h3,h4⟩
    · rw [h4]
      simp only [Mg.flat,List.map_map]
      rfl
    · have hnil : c = []:=Classical.byContradiction fun hn=>h3 ⟨hn,hcs,h1 hpos⟩
      rw [h4]
      simp [Mg.flat,← hcs,hnil]
  · have hcnd : (cond (decide ((i : Int) > 0)) ((q53 c s.sec).bind fun r721=>some r721) (some false)) = some false:=by
      by_cases hpos : 0 < i
      · have hb : decide ((i : Int) > 0) = true:=decide_eq_true (by omega)
        have hne : c≠s.sec:=fun h=>hsame ⟨hpos,h⟩
        rw [hb,cond_true,qko _ _ (by omega)]
        simp [hne]
      · have hb : decide ((i : Int) > 0) = false:=decide_eq_false (by omega)
        rw [hb,cond_false]
    have hap:=q7p c (putR xs[i] xs[i + 1]) (s.flat putR) (fun o=>(c,((s.flat putR).length : Int),o)) (q55 c xs (s.sec,(s.done.length : Int),(i : Int),s.flat putR)) (fun k hk o ho=>by
      simp only [q55,dlt hk,cond_true,Qk hk,Qk hi0,Qk hi,hw,Option.bind_some,w64s hk (by omega)]
      rw [Kl (by simp;omega)]
      rfl) (fun o=>by simp only [q55,dnl,cond_false])
    have h4 : addM putR s xs[i] xs[i + 1] c = ⟨s.flat putR,c,xs[i],xs[i + 1]⟩:=by
      rcases Uf putR s xs[i] xs[i + 1] c with ⟨g1,g2,_,_⟩ | ⟨_,h4⟩
      · refine absurd ?_ hsame
        refine ⟨Nat.pos_of_ne_zero fun h=>g1 ?_,g2⟩
        rw [g2,h0 h]
      · exact h4
    rw [h4]
    simp only [hcnd,Option.bind_some,cond_false,hap]
    simp [Mg.flat]
theorem q56 (kind : Int) {p q : List qg} (h : p.length + q.length≤400) : Zn kind p q = some (mrgR kind p q):=by
  unfold Zn
  rw [qsi h,qsk h]
  simp only [Option.bind_some]
  obtain ⟨_,hso,hlen⟩:=qa9 h
  have hml:=fun i=>qj9 kind h i
  unfold mrgR mrg
  generalize Qf (xsOf p ++ xsOf q) = xs at hso hlen hml ⊢
  generalize hst : Y2 xs (secJ kind p q) = steps at hml ⊢
  have hsl : steps.length = xs.length - 1:=by rw [← hst];exact q72 _ _
  have key:=Zj (f:=q20 xs (Qf (ysOf p ++ ysOf q)) p q kind) (fun k=>((Qj putR Qh (steps.take k)).sec,((Qj putR Qh (steps.take k)).done.length : Int),(k : Int),(Qj putR Qh (steps.take k)).flat putR))
    steps.length ((Qj putR Qh steps).flat putR) (fun k hk=>by
      have hk1 : k + 1 < xs.length:=by omega
      have hg : steps[k] = (xs[k],xs[k + 1],secJ kind p q xs[k]):=by subst hst;exact q71 hk hk1
      have hbl:=qew kind (p:=p) (q:=q) (by omega) xs[k]
      have hml':=hml k
      have:=qq3 kind h (xs:=xs) (by omega) hk1 (Qj putR Qh (steps.take k)) (by omega) (fun h0=>by subst h0;rfl) (fun hpos=>by
        obtain ⟨m,rfl⟩ : ∃ m,k = m + 1:=⟨k - 1,by omega⟩
        rw [q2r putR (by omega),qfp]
        subst hst
        rw [q71 (by omega) (by omega)])
      rw [this,q2r putR hk,hg]) (by
      rw [List.take_length]
      have hb : decide (w64 ((steps.length : Int) + 1) < (xs.length : Int)) = false:=by
        rw [Q0 (by omega)];exact decide_eq_false (by omega)
      unfold q20
      simp only [hb,cond_false]) (Nat.zero_le _)
  have key : loop (q20 xs (Qf (ysOf p ++ ysOf q)) p q kind) ([],0,0,[]) = some ((Qj putR Qh steps).flat putR):=key
  rw [key];rfl
end Go.Sh
namespace Go.Sh
open Go Go.Am
noncomputable def Kq (l : List qg) : Int:=if 400 < l.length then 4 else if ∀ r∈l,vR r then (if mrgR 2 l [] = l then 0 else 8) else 8
theorem qo1 {l : List qg} (h : Kq l = 0) : l.length≤400∧(∀ r∈l,vR r)∧mrgR 2 l [] = l:=by
  unfold Kq at h
  split at h
  · omega
  · split at h
    · split at h
      · rename_i a b c;exact ⟨by omega,b,c⟩
      · omega
    · omega
theorem qt9 (l : List qg) (hl : l.length≤1000000) : q8c l (fun x0=>q22 x0) = some (decide (¬ ∀ r∈l,vR r)):=by
  have hs : ∀ (k : Nat) (h : k < l.length),q3k l (fun x0=>q22 x0) (k : Int) = some (if (fun r=>!decide (vR r)) l[k] = true then .inr (.inr (k : Int)) else .inl ((k + 1 : Nat) : Int)):=by
    intro k h
    simp only [q3k,dlt h,cond_true,Qk h,Option.bind_some,w64s h hl,q22,qmf]
    by_cases hv : vR l[k] <;> simp [hv]
  have hd : q3k l (fun x0=>q22 x0) (l.length : Int) = some (.inr (.inl ())):=by simp only [q3k,dnl,cond_false]
  unfold q8c qbn
  rcases q1g l (fun r=>!decide (vR r)) (fun k _=>(k : Int)) () _ hs hd with ⟨h1,h2⟩ | ⟨k,hk,hc,_,h2⟩
  · rw [h2]
    have : ∀ r∈l,vR r:=fun r hr=>by simpa using h1 r hr
    simp []
    omega
  · rw [h2]
    have : ¬ ∀ r∈l,vR r:=fun h=>by simp [h _ (List.getElem_mem hk)] at hc
    simp only [Option.bind_some]
    rw [decide_eq_true this,decide_eq_true (by omega)]
theorem qsz (l : List qg) : q5e l = some (Kq l):=by
  unfold q5e Kq
  by_cases h4 : 400 < l.length
  · rw [decide_eq_true (by omega : (l.length : Int) > 400),cond_true,if_pos h4]
  rw [decide_eq_false (by omega : ¬ (l.length : Int) > 400),cond_false,if_neg h4,qt9 l (by omega),Option.bind_some]
  by_cases hv : ∀ r∈l,vR r
  · rw [decide_eq_false (fun h=>h hv),cond_false,qiu l (by omega) hv,if_pos hv,Option.bind_some]
    by_cases hm : 400 < (mrgR 2 l []).length
    · have hne : mrgR 2 l []≠l:=fun h=>by rw [h] at hm;exact h4 hm
      rw [if_pos hm,if_neg hne];rfl
    · rw [if_neg hm]
      simp only [qd7 (mrgR 2 l []) l (by omega)]
      by_cases he : mrgR 2 l [] = l <;> simp [he]
  · rw [decide_eq_true hv,cond_true,if_neg hv]
def putB (a b : Int) (r : qg) : qf:={Lo:={X:=r.X0,Y:=r.Y0,Z:=a},Hi:={X:=r.X1,Y:=r.Y1,Z:=b}}
def qhd (z : Int) : Prop:=-1000000≤z∧z≤1000000
instance (z : Int) : Decidable (qhd z):=by unfold qhd;infer_instance
end Go.Sh
namespace Go.Sh
open Go Go.Am
def covB (z : Int) (b : qf) : Bool:=decide (b.Lo.Z≤z) && decide (z < b.Hi.Z)
def Zo (b : qf) : qg:={X0:=b.Lo.X,Y0:=b.Lo.Y,X1:=b.Hi.X,Y1:=b.Hi.Y}
def atB (l : List qf) (z : Int) : List qg:=l.flatMap fun b=>if covB z b = true then [Zo b] else []
theorem Ji (l : List qf) (x : Int) : (atB l x).length≤l.length:=by
  unfold atB
  induction l with
  | nil=>simp
  | cons r l ih=>
    simp only [List.flatMap_cons,List.length_append,List.length_cons]
    have : (if covB x r = true then [Zo r] else []).length≤1:=by split <;> simp
    omega
theorem qb6 (l : List qf) (hl : l.length≤1000000) (z : Int) : J9 l z = some (atB l z):=by
  have:=Zy l hl (fun b=>if covB z b = true then [Zo b] else []) [] (fun o=>o) (q59 l z) (fun k hk o ho=>by
    have h8 : o.length≤k:=by rw [ho,List.nil_append];have:=Ji (l.take k) z;rw [List.length_take,Nat.min_eq_left (by omega)] at this;exact this
    simp only [q59,dlt hk,cond_true,Qk hk,Option.bind_some,w64s hk hl]
    by_cases h1 : l[k].Lo.Z≤z
    · by_cases h2 : z < l[k].Hi.Z
      · simp only [h1,h2,decide_true,cond_true,Option.bind_some,covB,Bool.and_self,if_true]
        rw [Kl (by simp;omega)]
        rfl
      · simp only [h1,h2,decide_true,decide_false,cond_true,cond_false,Option.bind_some,covB,Bool.and_false,if_false,Bool.false_eq_true,List.append_nil]
    · simp only [h1,decide_false,cond_false,Option.bind_some,covB,Bool.false_and,if_false,Bool.false_eq_true,List.append_nil]) (fun o=>by simp only [q59,dnl,cond_false])
  rw [List.nil_append] at this
  unfold J9
  rw [this];rfl
def zsOf (l : List qf) : List Int:=l.flatMap fun b=>[b.Lo.Z,b.Hi.Z]
theorem Yv (l : List qf) : (zsOf l).length = 2 * l.length:=by
  unfold zsOf;induction l with
  | nil=>rfl
  | cons r l ih=>simp only [List.flatMap_cons,List.length_append,List.length_cons,List.length_nil];omega
theorem qso {p q : List qf} (h : p.length + q.length≤100000) : q81 p q = some (Qf (zsOf p ++ zsOf q)):=by
  have e1 : loop (q3a p) (0,[]) = some (zsOf p):=by
    have:=Zy p (by omega) (fun r=>[r.Lo.Z,r.Hi.Z]) [] (fun o=>o) (q3a p) (fun k hk o ho=>by
      have h8 : o.length = 2 * k:=by rw [ho,List.nil_append];have:=Yv (p.take k);rw [List.length_take,Nat.min_eq_left (by omega)] at this;exact this
      simp only [q3a,dlt hk,cond_true,Qk hk,Option.bind_some,w64s hk (by omega)]
      rw [Kl (by simp;omega)]
      rfl) (fun o=>by simp only [q3a,dnl,cond_false])
    rw [List.nil_append] at this
    exact this
  have e2 : loop (q3b q) (0,zsOf p) = some (zsOf p ++ zsOf q):=by
    have hp:=Yv p
    exact Zy q (by omega) (fun r=>[r.Lo.Z,r.Hi.Z]) (zsOf p) (fun o=>o) (q3b q) (fun k hk o ho=>by
      have h8 : o.length = 2 * p.length + 2 * k:=by
        rw [ho,List.length_append,hp];have:=Yv (q.take k);rw [List.length_take,Nat.min_eq_left (by omega)] at this
        unfold zsOf at this;omega
      simp only [q3b,dlt hk,cond_true,Qk hk,Option.bind_some,w64s hk (by omega)]
      rw [Kl (by simp;omega)]
      rfl) (fun o=>by simp only [q3b,dnl,cond_false])
  have h1:=Yv p
  have h2:=Yv q
  unfold q81
  simp only [e1,e2,Option.bind_some,(J2 (l:=zsOf p ++ zsOf q) (by simp;omega)).1]
structure qfo (kind : Int) (p q : List qf) (z : Int) : Prop where
  n : (atB p z).length + (atB q z).length≤400
  m : (mrgR kind (atB p z) (atB q z)).length≤400
  mp : (mrgR 2 (atB p z) []).length≤400
  mq : (mrgR 2 (atB q z) []).length≤400
noncomputable def secB (kind : Int) (p q : List qf) (z : Int) : List qg:=mrgR kind (atB p z) (atB q z)
theorem qq1 (kind : Int) {p q : List qf} (h : p.length + q.length≤100000) {xs : List Int} (hx : xs.length≤1000000) {i : Nat} (hi : i + 1 < xs.length) (hok : qfo kind p q xs[i]) (s : Mg qg qf) (hl : (s.flat putB).length + 400≤1000000)
    (h0 : i = 0→s.sec = []) (h1 : 0 < i→s.hi = xs[i]) :
    Ux xs p q kind (s.sec,(s.done.length : Int),(i : Int),s.flat putB) =
      some (.inl ((addM putB s xs[i] xs[i + 1] (secB kind p q xs[i])).sec,((addM putB s xs[i] xs[i + 1] (secB kind p q xs[i])).done.length : Int),((i + 1 : Nat) : Int),(addM putB s xs[i] xs[i + 1] (secB kind p q xs[i])).flat putB)):=by
  have hi0 : i < xs.length:=by omega
  have hw : w64 ((i : Int) + 1) = ((i + 1 : Nat) : Int):=w64s hi0 hx
  have hfl : (s.flat putB).length = s.done.length + s.sec.length:=by simp [Mg.flat]
  obtain ⟨hn,hm,hmp,hmq⟩:=hok
  have ap : J9 p xs[i] = some (atB p xs[i]):=qb6 p (by omega) _
  have aq : J9 q xs[i] = some (atB q xs[i]):=qb6 q (by omega) _
  have jj : Zn kind (atB p xs[i]) (atB q xs[i]) = some (secB kind p q xs[i]):=q56 kind hn
  have jp : Zn 2 (atB p xs[i]) [] = some (mrgR 2 (atB p xs[i]) []):=q56 2 (by simp;omega)
  have jq : Zn 2 (atB q xs[i]) [] = some (mrgR 2 (atB q xs[i]) []):=q56 2 (by simp;omega)
  have hm : (secB kind p q xs[i]).length≤400:=hm
  have d1 : decide (((secB kind p q xs[i]).length : Int) > 400) = false:=decide_eq_false (by omega)
  have d2 : decide (((mrgR 2 (atB p xs[i]) []).length : Int) > 400) = false:=decide_eq_false (by omega)
  have d3 : decide (((mrgR 2 (atB q xs[i]) []).length : Int) > 400) = false:=decide_eq_false (by omega)
  unfold Ux
  simp only [hw,dlt hi,cond_true,Qk hi0,ap,aq,jj,jp,jq,d1,d2,d3,cond_false,Option.bind_some]
  generalize hc : secB kind p q xs[i] = c at hm ⊢
  by_cases hsame : 0 < i∧c = s.sec
  · obtain ⟨hpos,hcs⟩:=hsame
    have hb : decide ((i : Int) > 0) = true:=decide_eq_true (by omega)
    have hext:=qac (fun v : qf=>({Lo:=v.Lo,Hi:=({X:=v.Hi.X,Y:=v.Hi.Y,Z:=xs[i + 1]} : qy)} : qf)) s.done (s.sec.map (putB s.lo s.hi)) (by simp;omega) (q3d xs (s.sec,(s.done.length : Int),(i : Int),s.flat putB)) (fun k o hk ho=>by
      have h5 : (s.done ++ s.sec.map (putB s.lo s.hi)).length = (s.flat putB).length:=rfl
      simp only [q3d,dlt hk,cond_true,Qk hk,Qk hi,hw,Option.bind_some,w64s hk (by omega),Int.toNat_natCast]) (fun o=>by simp only [q3d,dnl,cond_false])
    have hsp : q57 c s.sec = some true:=by rw [qkn _ _ (by omega)];simp [hcs]
    have hext : loop (q3d xs (s.sec,(s.done.length : Int),(i : Int),s.flat putB)) ((s.done.length : Int),s.flat putB) = _:=hext
    simp only [hb,cond_true,hsp,Option.bind_some,hext]
    rcases Uf putB s xs[i] xs[i + 1] c with ⟨_,_,_,h4⟩ | ⟨h3,h4⟩
    · rw [h4]
      simp only [Mg.flat,List.map_map]
      rfl
    · have hnil : c = []:=Classical.byContradiction fun hn=>h3 ⟨hn,hcs,h1 hpos⟩
      rw [h4]
      simp [Mg.flat,← hcs,hnil]
  · have hcnd : (cond (decide ((i : Int) > 0)) ((q57 c s.sec).bind fun r721=>some r721) (some false)) = some false:=by
      by_cases hpos : 0 < i
      · have hb : decide ((i : Int) > 0) = true:=decide_eq_true (by omega)
        have hne : c≠s.sec:=fun h=>hsame ⟨hpos,h⟩
        rw [hb,cond_true,qkn _ _ (by omega)]
        simp [hne]
      · have hb : decide ((i : Int) > 0) = false:=decide_eq_false (by omega)
        rw [hb,cond_false]
    have hap:=q7p c (putB xs[i] xs[i + 1]) (s.flat putB) (fun o=>(c,((s.flat putB).length : Int),o)) (q5c c xs (s.sec,(s.done.length : Int),(i : Int),s.flat putB)) (fun k hk o ho=>by
      simp only [q5c,dlt hk,cond_true,Qk hk,Qk hi0,Qk hi,hw,Option.bind_some,w64s hk (by omega)]
      rw [Kl (by simp;omega)]
      rfl) (fun o=>by simp only [q5c,dnl,cond_false])
    have h4 : addM putB s xs[i] xs[i + 1] c = ⟨s.flat putB,c,xs[i],xs[i + 1]⟩:=by
      rcases Uf putB s xs[i] xs[i + 1] c with ⟨g1,g2,_,_⟩ | ⟨_,h4⟩
      · refine absurd ?_ hsame
        refine ⟨Nat.pos_of_ne_zero fun h=>g1 ?_,g2⟩
        rw [g2,h0 h]
      · exact h4
    rw [h4]
    simp only [hcnd,Option.bind_some,cond_false,hap]
    simp [Mg.flat]
noncomputable def mrgB (kind : Int) (p q : List qf) : List qf:=(Qj putB Qh (Y2 (Qf (zsOf p ++ zsOf q)) (secB kind p q))).flat putB
section
variable {σ β : Type} (put : Int→Int→σ→β)
def Alike (s t : Mg σ β) : Prop:=s = t∨(s.flat put = t.flat put∧s.sec = []∧t.sec = [])
theorem Alike.flat {s t : Mg σ β} (h : Alike put s t) : s.flat put = t.flat put:=by
  rcases h with rfl | h
  · rfl
  · exact h.1
end
section
variable {σ β : Type} [DecidableEq σ] (put : Int→Int→σ→β)
def runM (sec : Int→List σ) : Mg σ β→List Int→Mg σ β
  | s,a::b::r=>runM sec (addM put s a b (sec a)) (b::r)
  | s,_=>s
theorem qhi (sec : Int→List σ) : ∀ (cuts : List Int) (s : Mg σ β),Qj put s (Y2 cuts sec) = runM put sec s cuts
  | [],s=>rfl
  | [a],s=>rfl
  | a::b::r,s=>by
    have:=qhi sec (b::r) (addM put s a b (sec a))
    simp only [runM,← this]
    rfl
theorem Alike.add {s t : Mg σ β} (h : Alike put s t) (a b : Int) (c : List σ) : Alike put (addM put s a b c) (addM put t a b c):=by
  rcases h with rfl | ⟨h1,h2,h3⟩
  · exact .inl rfl
  · refine .inl ?_
    rcases Uf put s a b c with ⟨g1,g2,_,_⟩ | ⟨_,g4⟩
    · exact absurd (g2.trans h2) g1
    · rcases Uf put t a b c with ⟨e1,e2,_,_⟩ | ⟨_,e4⟩
      · exact absurd (e2.trans h3) e1
      · rw [g4,e4,h1]
end
end Go.Sh
