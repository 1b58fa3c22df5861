/- Po1 Pt1 Pt2 Pt3 Pt4 Pt5 Pt6 Pt7 -/
import Derived.Test.YtjjmcdlnadkjbaaGreatK10
set_option maxHeartbeats 4000000
namespace Go.Sh
open Go Go.Am
def sg (a b : Int) : Int:=if a < b then -1 else 0
theorem Z5 {a b : Int} : decide (sg a b < 0) = decide (a < b):=by
  unfold sg;by_cases h : a < b <;> simp [h]
def qO (a b : Int) : Option Int:=some (sg a b)
theorem Zf (a b : Int) : qO a b = some (sg a b):=rfl
theorem Zc (a b : Int) : Yh a b = some (decide (a < b)):=by
  unfold Yh q6r
  have : (a != a) = false:=by simp
  simp []
theorem qxf : qbb = q4j:=rfl
theorem qvi : (fun p0=>q1n p0) = (fun p0=>q2l p0):=by
  funext p0
  simp only [q1n,q2l,qxf]
  all_goals repeat' first | with_reducible rfl | (refine funext fun (m : Sum _ _)=>?_;cases m <;> (first | with_reducible rfl | rfl)) | (congr 1) | funext _
  done
theorem qvj  : ∀ p0,q1n p0 = q2l p0:=fun p0=>(congrFun qvi p0)
theorem qvh : (fun p0=>U1 p0) = (fun p0=>Ui p0):=by
  funext p0
  simp only [U1,Ui,qvj]
  all_goals repeat' first | with_reducible rfl | (refine funext fun (m : Sum _ _)=>?_;cases m <;> (first | with_reducible rfl | rfl)) | (congr 1) | funext _
  done
theorem qkb  : ∀ p0,U1 p0 = Ui p0:=fun p0=>(congrFun qvh p0)
theorem qw2 : (fun p1=>q5p p1) = (fun p1=>J9 p1 qO):=by
  funext p1 a443
  simp only [q5p,J9,Zc,Zf,Option.bind_some,Z5]
  all_goals repeat' first | with_reducible rfl | (refine funext fun (m : Sum _ _)=>?_;cases m <;> (first | with_reducible rfl | rfl)) | (congr 1) | funext _
  done
theorem qw3  : ∀ p1,q5p p1 = J9 p1 qO:=fun p1=>(congrFun qw2 p1)
theorem qw0 : (fun p2 p1=>q5o p2 p1) = (fun p2 p1=>Um p2 p1 qO):=by
  funext p2 p1 a270
  simp only [q5o,Um,qw3]
  all_goals repeat' first | with_reducible rfl | (refine funext fun (m : Sum _ _)=>?_;cases m <;> (first | with_reducible rfl | rfl)) | (congr 1) | funext _
  done
theorem qw1  : ∀ p2 p1,q5o p2 p1 = Um p2 p1 qO:=fun p2 p1=>(congrFun (congrFun qw0 p2) p1)
theorem qvy : (fun p0 p1 p2=>q5n p0 p1 p2) = (fun p0 p1 p2=>q1f qO p0 p1 p2):=by
  funext p0 p1 p2
  simp only [q5n,q1f,qw1]
  all_goals repeat' first | with_reducible rfl | (refine funext fun (m : Sum _ _)=>?_;cases m <;> (first | with_reducible rfl | rfl)) | (congr 1) | funext _
  done
theorem qvz  : ∀ p0 p1 p2,q5n p0 p1 p2 = q1f qO p0 p1 p2:=fun p0 p1 p2=>(congrFun (congrFun (congrFun qvy p0) p1) p2)
theorem qxd : (fun p2 p3=>q6b p2 p3) = (fun p2 p3=>Jc p2 p3 qO):=by
  funext p2 p3 a193
  simp only [q6b,Jc,Zc,Zf,Option.bind_some,Z5]
  all_goals repeat' first | with_reducible rfl | (refine funext fun (m : Sum _ _)=>?_;cases m <;> (first | with_reducible rfl | rfl)) | (congr 1) | funext _
  done
theorem qxe  : ∀ p2 p3,q6b p2 p3 = Jc p2 p3 qO:=fun p2 p3=>(congrFun (congrFun qxd p2) p3)
theorem qxc : (fun p0 p1 p2 p3=>q3k p0 p1 p2 p3) = (fun p0 p1 p2 p3=>Jz qO p0 p1 p2 p3):=by
  funext p0 p1 p2 p3
  simp only [q3k,Jz,qxe]
  all_goals repeat' first | with_reducible rfl | (refine funext fun (m : Sum _ _)=>?_;cases m <;> (first | with_reducible rfl | rfl)) | (congr 1) | funext _
  done
theorem qkd  : ∀ p0 p1 p2 p3,q3k p0 p1 p2 p3 = Jz qO p0 p1 p2 p3:=fun p0 p1 p2 p3=>(congrFun (congrFun (congrFun (congrFun qxc p0) p1) p2) p3)
theorem qvu : (fun p2 p1=>q5l p2 p1) = (fun p2 p1=>Uk qO p2 p1):=by
  funext p2 p1 a123
  simp only [q5l,Uk,qkd]
  all_goals repeat' first | with_reducible rfl | (refine funext fun (m : Sum _ _)=>?_;cases m <;> (first | with_reducible rfl | rfl)) | (congr 1) | funext _
  done
theorem qvv  : ∀ p2 p1,q5l p2 p1 = Uk qO p2 p1:=fun p2 p1=>(congrFun (congrFun qvu p2) p1)
theorem qvw : (fun p1=>q5m p1) = (fun p1=>Ul p1 qO):=by
  funext p1 a191
  simp only [q5m,Ul,qkd]
  all_goals repeat' first | with_reducible rfl | (refine funext fun (m : Sum _ _)=>?_;cases m <;> (first | with_reducible rfl | rfl)) | (congr 1) | funext _
  done
theorem qvx  : ∀ p1,q5m p1 = Ul p1 qO:=fun p1=>(congrFun qvw p1)
theorem qvs : (fun p0 p1 p2=>q5k p0 p1 p2) = (fun p0 p1 p2=>q1e qO p0 p1 p2):=by
  funext p0 p1 p2
  simp only [q5k,q1e,qvv,qvx]
  all_goals repeat' first | with_reducible rfl | (refine funext fun (m : Sum _ _)=>?_;cases m <;> (first | with_reducible rfl | rfl)) | (congr 1) | funext _
  done
theorem qvt  : ∀ p0 p1 p2,q5k p0 p1 p2 = q1e qO p0 p1 p2:=fun p0 p1 p2=>(congrFun (congrFun (congrFun qvs p0) p1) p2)
theorem qw7 : (fun p0=>q10 p0) = (fun p0=>q1g p0):=by
  funext p0
  simp only [q10,q1g,qkb]
  all_goals repeat' first | with_reducible rfl | (refine funext fun (m : Sum _ _)=>?_;cases m <;> (first | with_reducible rfl | rfl)) | (congr 1) | funext _
  done
theorem qw8  : ∀ p0,q10 p0 = q1g p0:=fun p0=>(congrFun qw7 p0)
theorem qxg : (fun p0=>q11 p0) = (fun p0=>q1k p0):=by
  funext p0
  simp only [q11,q1k]
  all_goals repeat' first | with_reducible rfl | (refine funext fun (m : Sum _ _)=>?_;cases m <;> (first | with_reducible rfl | rfl)) | (congr 1) | funext _
  done
theorem qxh  : ∀ p0,q11 p0 = q1k p0:=fun p0=>(congrFun qxg p0)
theorem qvo : (fun p1 p2 r101=>q5i p1 p2 r101) = (fun p1 p2 r101=>Jq p1 p2 r101):=by
  funext p1 p2 r101 a153
  simp only [q5i,Jq,qxh]
  all_goals repeat' first | with_reducible rfl | (refine funext fun (m : Sum _ _)=>?_;cases m <;> (first | with_reducible rfl | rfl)) | (congr 1) | funext _
  done
theorem qvp  : ∀ p1 p2 r101,q5i p1 p2 r101 = Jq p1 p2 r101:=fun p1 p2 r101=>(congrFun (congrFun (congrFun qvo p1) p2) r101)
theorem qvm : (fun p0 p1 p2=>q5h p0 p1 p2) = (fun p0 p1 p2=>Uj qO p0 p1 p2):=by
  funext p0 p1 p2
  simp only [q5h,Uj,qw8,qvp]
  all_goals repeat' first | with_reducible rfl | (refine funext fun (m : Sum _ _)=>?_;cases m <;> (first | with_reducible rfl | rfl)) | (congr 1) | funext _
  done
theorem qvn  : ∀ p0 p1 p2,q5h p0 p1 p2 = Uj qO p0 p1 p2:=fun p0 p1 p2=>(congrFun (congrFun (congrFun qvm p0) p1) p2)
theorem qw9 : (fun p0 p1 p2 p3=>q21 p0 p1 p2 p3) = (fun p0 p1 p2 p3=>Js qO p0 p1 p2 p3):=by
  funext p0 p1 p2 p3
  simp only [q21,Js,Zc,Zf,Option.bind_some,Z5]
  all_goals repeat' first | with_reducible rfl | (refine funext fun (m : Sum _ _)=>?_;cases m <;> (first | with_reducible rfl | rfl)) | (congr 1) | funext _
  done
theorem qwa  : ∀ p0 p1 p2 p3,q21 p0 p1 p2 p3 = Js qO p0 p1 p2 p3:=fun p0 p1 p2 p3=>(congrFun (congrFun (congrFun (congrFun qw9 p0) p1) p2) p3)
theorem qw4 : (fun p0 p1 p2 p3 p4=>q3e p0 p1 p2 p3 p4) = (fun p0 p1 p2 p3 p4=>Jr qO p0 p1 p2 p3 p4):=by
  funext p0 p1 p2 p3 p4
  simp only [q3e,Jr,qwa]
  all_goals repeat' first | with_reducible rfl | (refine funext fun (m : Sum _ _)=>?_;cases m <;> (first | with_reducible rfl | rfl)) | (congr 1) | funext _
  done
theorem qkc  : ∀ p0 p1 p2 p3 p4,q3e p0 p1 p2 p3 p4 = Jr qO p0 p1 p2 p3 p4:=fun p0 p1 p2 p3 p4=>(congrFun (congrFun (congrFun (congrFun (congrFun qw4 p0) p1) p2) p3) p4)
theorem qw5 : (fun p0 p1 p2=>q20 p0 p1 p2) = (fun p0 p1 p2=>Ja qO p0 p1 p2):=by
  funext p0 p1 p2
  simp only [q20,Ja,qkc]
  all_goals repeat' first | with_reducible rfl | (refine funext fun (m : Sum _ _)=>?_;cases m <;> (first | with_reducible rfl | rfl)) | (congr 1) | funext _
  done
theorem qw6  : ∀ p0 p1 p2,q20 p0 p1 p2 = Ja qO p0 p1 p2:=fun p0 p1 p2=>(congrFun (congrFun (congrFun qw5 p0) p1) p2)
theorem qvq : (fun p0 p1 p2=>q5j p0 p1 p2) = (fun p0 p1 p2=>q1d p0 p1 p2 qO):=by
  funext p0 p1 p2
  simp only [q5j,q1d,qkc,qw6]
  all_goals repeat' first | with_reducible rfl | (refine funext fun (m : Sum _ _)=>?_;cases m <;> (first | with_reducible rfl | rfl)) | (congr 1) | funext _
  done
theorem qvr  : ∀ p0 p1 p2,q5j p0 p1 p2 = q1d p0 p1 p2 qO:=fun p0 p1 p2=>(congrFun (congrFun (congrFun qvq p0) p1) p2)
theorem qxb : q8y = q1j:=by
  funext a119
  simp only [q8y,q1j]
  all_goals repeat' first | with_reducible rfl | (refine funext fun (m : Sum _ _)=>?_;cases m <;> (first | with_reducible rfl | rfl)) | (congr 1) | funext _
  done
theorem qx9 : (fun p0 p1 p2=>q69 p0 p1 p2) = (fun p0 p1 p2=>Ur qO p0 p1 p2):=by
  funext p0 p1 p2
  simp only [q69,Ur,qxb]
  all_goals repeat' first | with_reducible rfl | (refine funext fun (m : Sum _ _)=>?_;cases m <;> (first | with_reducible rfl | rfl)) | (congr 1) | funext _
  done
theorem qxa  : ∀ p0 p1 p2,q69 p0 p1 p2 = Ur qO p0 p1 p2:=fun p0 p1 p2=>(congrFun (congrFun (congrFun qx9 p0) p1) p2)
theorem qwf : (fun p2 a432=>q5t p2 a432) = (fun p2 a432=>Jt p2 a432 qO):=by
  funext p2 a432 a667
  simp only [q5t,Jt,Zc,Zf,Option.bind_some,Z5]
  all_goals repeat' first | with_reducible rfl | (refine funext fun (m : Sum _ _)=>?_;cases m <;> (first | with_reducible rfl | rfl)) | (congr 1) | funext _
  done
theorem qwg  : ∀ p2 a432,q5t p2 a432 = Jt p2 a432 qO:=fun p2 a432=>(congrFun (congrFun qwf p2) a432)
theorem qwh : q8l = Ju qO:=by
  funext a822
  simp only [q8l,Ju,Zc,Zf,Option.bind_some,Z5]
  all_goals repeat' first | with_reducible rfl | (refine funext fun (m : Sum _ _)=>?_;cases m <;> (first | with_reducible rfl | rfl)) | (congr 1) | funext _
  done
theorem qwi : (fun p2 b670=>q5u p2 b670) = (fun p2 b670=>Jv p2 qO b670):=by
  funext p2 b670 a912
  simp only [q5u,Jv,Zc,Zf,Option.bind_some,Z5]
  all_goals repeat' first | with_reducible rfl | (refine funext fun (m : Sum _ _)=>?_;cases m <;> (first | with_reducible rfl | rfl)) | (congr 1) | funext _
  done
theorem qwj  : ∀ p2 b670,q5u p2 b670 = Jv p2 qO b670:=fun p2 b670=>(congrFun (congrFun qwi p2) b670)
theorem qwd : (fun p2 p1=>q3h p2 p1) = (fun p2 p1=>Yz p2 qO p1):=by
  funext p2 p1 a432
  have mm : @q3h.match_1.{1} = @Yz.match_1.{1} Int:=by funext motive m f g;cases m <;> rfl
  unfold q3h Yz;rw [mm]
  simp only [qwg,qwh,qwj]
  all_goals repeat' first | with_reducible rfl | (congr 1) | funext _
  done
theorem qwe  : ∀ p2 p1,q3h p2 p1 = Yz p2 qO p1:=fun p2 p1=>(congrFun (congrFun qwd p2) p1)
theorem qwb : (fun p0 p1 p2=>q3g p0 p1 p2) = (fun p0 p1 p2=>Jb qO p0 p1 p2):=by
  funext p0 p1 p2
  have mm : @q3g.match_1.{1} = @Jb.match_1.{1} Int:=by funext motive m f g;cases m <;> rfl
  unfold q3g Jb;rw [mm]
  simp only [qwe]
  all_goals repeat' first | with_reducible rfl | (congr 1) | funext _
  done
theorem qwc  : ∀ p0 p1 p2,q3g p0 p1 p2 = Jb qO p0 p1 p2:=fun p0 p1 p2=>(congrFun (congrFun (congrFun qwb p0) p1) p2)
theorem qwp : (fun a304 p1=>q5x a304 p1) = (fun a304 p1=>Jw a304 p1 qO):=by
  funext a304 p1 a360
  simp only [q5x,Jw,Zc,Zf,Option.bind_some,Z5]
  all_goals repeat' first | with_reducible rfl | (refine funext fun (m : Sum _ _)=>?_;cases m <;> (first | with_reducible rfl | rfl)) | (congr 1) | funext _
  done
theorem qwq  : ∀ a304 p1,q5x a304 p1 = Jw a304 p1 qO:=fun a304 p1=>(congrFun (congrFun qwp a304) p1)
theorem qwr : (fun b363 a304 p1=>q5y b363 a304 p1) = (fun b363 a304 p1=>Jx b363 a304 p1 qO):=by
  funext b363 a304 p1 a439
  simp only [q5y,Jx,Zc,Zf,Option.bind_some,Z5]
  all_goals repeat' first | with_reducible rfl | (refine funext fun (m : Sum _ _)=>?_;cases m <;> (first | with_reducible rfl | rfl)) | (congr 1) | funext _
  done
theorem qws  : ∀ b363 a304 p1,q5y b363 a304 p1 = Jx b363 a304 p1 qO:=fun b363 a304 p1=>(congrFun (congrFun (congrFun qwr b363) a304) p1)
theorem qwn : (fun p1=>q5w p1) = (fun p1=>Up p1 qO):=by
  funext p1 a304
  simp only [q5w,Up,qwq,qws]
  all_goals repeat' first | with_reducible rfl | (refine funext fun (m : Sum _ _)=>?_;cases m <;> (first | with_reducible rfl | rfl)) | (congr 1) | funext _
  done
theorem qwo  : ∀ p1,q5w p1 = Up p1 qO:=fun p1=>(congrFun qwn p1)
theorem qwl : (fun p0 p1 p2 p3=>q5v p0 p1 p2 p3) = (fun p0 p1 p2 p3=>Uo qO p0 p1 p2 p3):=by
  funext p0 p1 p2 p3
  simp only [q5v,Uo,qwo]
  all_goals repeat' first | with_reducible rfl | (refine funext fun (m : Sum _ _)=>?_;cases m <;> (first | with_reducible rfl | rfl)) | (congr 1) | funext _
  done
theorem qwm  : ∀ p0 p1 p2 p3,q5v p0 p1 p2 p3 = Uo qO p0 p1 p2 p3:=fun p0 p1 p2 p3=>(congrFun (congrFun (congrFun (congrFun qwl p0) p1) p2) p3)
theorem qwu : (fun p2 p0 p1 v101 p3 v103=>q60 p2 p0 p1 v101 p3 v103) = (fun p2 p0 p1 v101 p3 v103=>q1h p2 p0 p1 v101 p3 v103 qO):=by
  funext p2 p0 p1 v101 p3 v103 a159
  simp only [q60,q1h,Zc,Zf,Option.bind_some,Z5]
  all_goals repeat' first | with_reducible rfl | (refine funext fun (m : Sum _ _)=>?_;cases m <;> (first | with_reducible rfl | rfl)) | (congr 1) | funext _
  done
theorem qwv  : ∀ p2 p0 p1 v101 p3 v103,q60 p2 p0 p1 v101 p3 v103 = q1h p2 p0 p1 v101 p3 v103 qO:=fun p2 p0 p1 v101 p3 v103=>(congrFun (congrFun (congrFun (congrFun (congrFun (congrFun qwu p2) p0) p1) v101) p3) v103)
theorem qww : (fun b162 p0 p1 v101 p3 v103=>q61 b162 p0 p1 v101 p3 v103) = (fun b162 p0 p1 v101 p3 v103=>q1i b162 p0 p1 v101 p3 v103 qO):=by
  funext b162 p0 p1 v101 p3 v103 a239
  simp only [q61,q1i,Zc,Zf,Option.bind_some,Z5]
  all_goals repeat' first | with_reducible rfl | (refine funext fun (m : Sum _ _)=>?_;cases m <;> (first | with_reducible rfl | rfl)) | (congr 1) | funext _
  done
theorem qwx  : ∀ b162 p0 p1 v101 p3 v103,q61 b162 p0 p1 v101 p3 v103 = q1i b162 p0 p1 v101 p3 v103 qO:=fun b162 p0 p1 v101 p3 v103=>(congrFun (congrFun (congrFun (congrFun (congrFun (congrFun qww b162) p0) p1) v101) p3) v103)
theorem qx0 : (fun a488 p1=>q63 a488 p1) = (fun a488 p1=>Za a488 p1 qO):=by
  funext a488 p1 a542
  simp only [q63,Za,Zc,Zf,Option.bind_some,Z5]
  all_goals repeat' first | with_reducible rfl | (refine funext fun (m : Sum _ _)=>?_;cases m <;> (first | with_reducible rfl | rfl)) | (congr 1) | funext _
  done
theorem qx1  : ∀ a488 p1,q63 a488 p1 = Za a488 p1 qO:=fun a488 p1=>(congrFun (congrFun qx0 a488) p1)
theorem qx2 : (fun b545 a488 p1=>q64 b545 a488 p1) = (fun b545 a488 p1=>Zb b545 a488 p1 qO):=by
  funext b545 a488 p1 a622
  simp only [q64,Zb,Zc,Zf,Option.bind_some,Z5]
  all_goals repeat' first | with_reducible rfl | (refine funext fun (m : Sum _ _)=>?_;cases m <;> (first | with_reducible rfl | rfl)) | (congr 1) | funext _
  done
theorem qx3  : ∀ b545 a488 p1,q64 b545 a488 p1 = Zb b545 a488 p1 qO:=fun b545 a488 p1=>(congrFun (congrFun (congrFun qx2 b545) a488) p1)
theorem qwy : (fun p1=>q62 p1) = (fun p1=>Uq p1 qO):=by
  funext p1 a488
  simp only [q62,Uq,qx1,qx3]
  all_goals repeat' first | with_reducible rfl | (refine funext fun (m : Sum _ _)=>?_;cases m <;> (first | with_reducible rfl | rfl)) | (congr 1) | funext _
  done
theorem qwz  : ∀ p1,q62 p1 = Uq p1 qO:=fun p1=>(congrFun qwy p1)
theorem qwk : (fun p0 p1 p2 p3=>q5z p0 p1 p2 p3) = (fun p0 p1 p2 p3=>Un qO p0 p1 p2 p3):=by
  funext p0 p1 p2 p3
  simp only [q5z,Un,qwv,qwx,qwz]
  all_goals repeat' first | with_reducible rfl | (refine funext fun (m : Sum _ _)=>?_;cases m <;> (first | with_reducible rfl | rfl)) | (congr 1) | funext _
  done
theorem qwt  : ∀ p0 p1 p2 p3,q5z p0 p1 p2 p3 = Un qO p0 p1 p2 p3:=fun p0 p1 p2 p3=>(congrFun (congrFun (congrFun (congrFun qwk p0) p1) p2) p3)
theorem qx5 : (fun rec=>q3i rec) = (fun rec=>Yp qO rec):=by
  funext rec a305
  have mm : @q3i.match_1.{1} = @Yp.match_1.{1} Int:=by funext motive m f g;cases m <;> rfl
  unfold q3i Yp;rw [mm]
  simp only [qvz,qvt,qvn,qvr,qxa,qwc,qwm,qwt,Zc,Zf,Option.bind_some,Z5]
  all_goals repeat' first | with_reducible rfl | (congr 1) | funext _
  done
theorem qx6  : ∀ rec,q3i rec = Yp qO rec:=fun rec=>(congrFun qx5 rec)
theorem qx7 : (fun rec p0 p1 p2 p3=>q3j rec p0 p1 p2 p3) = (fun rec p0 p1 p2 p3=>Jy rec qO p0 p1 p2 p3):=by
  funext rec p0 p1 p2 p3
  simp only [q3j,Jy,qx6]
  all_goals repeat' first | with_reducible rfl | (refine funext fun (m : Sum _ _)=>?_;cases m <;> (first | with_reducible rfl | rfl)) | (congr 1) | funext _
  done
theorem qx8  : ∀ rec p0 p1 p2 p3,q3j rec p0 p1 p2 p3 = Jy rec qO p0 p1 p2 p3:=fun rec p0 p1 p2 p3=>(congrFun (congrFun (congrFun (congrFun (congrFun qx7 rec) p0) p1) p2) p3)
theorem qx4 : ∀ N,q68 N = Yl N qO:=by
  intro N
  induction N with
  | zero=>rfl
  | succ N ih=>
    funext a b c d
    show q3j (q68 N) a b c d = Jy (Yl N qO) qO a b c d
    rw [ih,qx8]
theorem qvk : (fun p0=>U9 p0) = (fun p0=>q1c qO p0):=by
  funext p0
  simp only [U9,q1c,qkb,qx4]
  all_goals repeat' first | with_reducible rfl | (refine funext fun (m : Sum _ _)=>?_;cases m <;> (first | with_reducible rfl | rfl)) | (congr 1) | funext _
  done
theorem qvl  : ∀ p0,U9 p0 = q1c qO p0:=fun p0=>(congrFun qvk p0)
end Go.Sh
namespace Go.Sh
open Go Go.Am
theorem Z4 {α β : Type} {f : α→Option (α ⊕ β)} (st : Nat→α) (n : Nat) (b : β) (hs : ∀ k,k < n→f (st k) = some (.inl (st (k + 1)))) (hd : f (st n) = some (.inr b)) : ∀ {k : Nat},k≤n→loop f (st k) = some b:=by
  have key : ∀ m k,n - k = m→k≤n→loop f (st k) = some b:=by
    intro m
    induction m with
    | zero => intro k hm hk; obtain rfl : k = n := by omega
              exact K1 hd
    | succ m ih=>intro k hm hk;rw [Kf (hs k (by omega))];exact ih (k + 1) (by omega) (by omega)
  intro k hk
  exact key _ k rfl hk
theorem w64s {k : Nat} {n : Nat} (h : k < n) (hn : n≤1000000) : w64 ((k : Int) + 1) = ((k + 1 : Nat) : Int):=by rw [qu (by omega)];omega
theorem dlt {k n : Nat} (h : k < n) : decide ((k : Int) < (n : Int)) = true:=decide_eq_true (by omega)
theorem dnl {n : Nat} : decide ((n : Int) < (n : Int)) = false:=decide_eq_false (by omega)
theorem J4 {α β γ : Type} (src : List α) (hl : src.length≤1000000) (h : α→List γ) (out : List γ) (fin : List γ→β) (f : Int × List γ→Option ((Int × List γ) ⊕ β))
    (hs : ∀ (k : Nat) (hk : k < src.length) (o : List γ),o = out ++ (src.take k).flatMap h→f ((k : Int),o) = some (.inl (((k + 1 : Nat) : Int),o ++ h src[k])))
    (hd : ∀ o,f ((src.length : Int),o) = some (.inr (fin o))) : loop f (0,out) = some (fin (out ++ src.flatMap h)):=by
  have e : ∀ k (hk : k < src.length),(src.take (k + 1)).flatMap h = (src.take k).flatMap h ++ h src[k]:=fun k hk=>by
    rw [List.take_succ_eq_append_getElem hk,List.flatMap_append,List.flatMap_cons,List.flatMap_nil,List.append_nil]
  have:=Z4 (f:=f) (fun k=>((k : Int),out ++ (src.take k).flatMap h)) src.length (fin (out ++ src.flatMap h)) (fun k hk=>by
    rw [hs k hk _ rfl,e k hk,List.append_assoc]) (by simp only [List.take_length];exact hd _) (Nat.zero_le _)
  simpa using this
theorem q7a {α β γ : Type} (src : List α) (h : α→γ) (out : List γ) (fin : List γ→β) (f : Int × List γ→Option ((Int × List γ) ⊕ β))
    (hs : ∀ (k : Nat) (hk : k < src.length) (o : List γ),o.length = out.length + k→f ((k : Int),o) = some (.inl (((k + 1 : Nat) : Int),o ++ [h src[k]])))
    (hd : ∀ o,f ((src.length : Int),o) = some (.inr (fin o))) : loop f (0,out) = some (fin (out ++ src.map h)):=by
  have e : ∀ k (hk : k < src.length),(src.take (k + 1)).map h = (src.take k).map h ++ [h src[k]]:=fun k hk=>by
    rw [List.take_succ_eq_append_getElem hk,List.map_append,List.map_cons,List.map_nil]
  have:=Z4 (f:=f) (fun k=>((k : Int),out ++ (src.take k).map h)) src.length (fin (out ++ src.map h)) (fun k hk=>by
    rw [hs k hk _ (by simp;omega),e k hk,List.append_assoc]) (by simp only [List.take_length];exact hd _) (Nat.zero_le _)
  simpa using this
theorem qa0 {γ : Type} (g : γ→γ) (a b : List γ) (hl : (a ++ b).length≤1000000) (f : Int × List γ→Option ((Int × List γ) ⊕ (List γ)))
    (hs : ∀ (k : Nat) (o : List γ) (hk : k < o.length),o.length = (a ++ b).length→f ((k : Int),o) = some (.inl (((k + 1 : Nat) : Int),o.set k (g o[k]))))
    (hd : ∀ o : List γ,f ((o.length : Int),o) = some (.inr o)) : loop f ((a.length : Int),a ++ b) = some (a ++ b.map g):=by
  have hl' : a.length + b.length≤1000000:=by simpa using hl
  have key:=Z4 (f:=f) (fun k=>(((a.length + k : Nat) : Int),a ++ ((b.take k).map g ++ b.drop k))) b.length (a ++ b.map g) (fun k hk=>by
    have hlen : (a ++ ((b.take k).map g ++ b.drop k)).length = (a ++ b).length:=by simp;omega
    have hk' : a.length + k < (a ++ ((b.take k).map g ++ b.drop k)).length:=by rw [hlen];simp;omega
    rw [hs (a.length + k) _ hk' hlen]
    have hm : ((b.take k).map g).length = k:=by simp;omega
    have e : (a ++ ((b.take k).map g ++ b.drop k))[a.length + k]'hk' = b[k]:=by
      rw [List.getElem_append_right (by omega)]
      rw [List.getElem_append_right (by rw [hm];omega)]
      simp [List.length_take,Nat.min_eq_left (Nat.le_of_lt hk)]
    rw [e]
    congr 4
    rw [List.set_append,if_neg (by omega),List.set_append,if_neg (by rw [hm];omega),hm]
    have z : a.length + k - a.length - k = 0:=by omega
    rw [z,List.take_succ_eq_append_getElem hk,List.drop_eq_getElem_cons hk,List.set_cons_zero,List.map_append,List.map_cons,List.map_nil,List.append_assoc]
    rfl) (by
    simp only [List.take_length,List.drop_length,List.append_nil]
    have:=hd (a ++ b.map g)
    simpa using this) (Nat.zero_le _)
  simpa using key
theorem q2g {α γ υ : Type} (l : List α) (c : α→Bool) (res : (k : Nat)→k < l.length→γ) (u : υ) (f : Int→Option (Int ⊕ (υ ⊕ γ)))
    (hs : ∀ (k : Nat) (h : k < l.length),f (k : Int) = some (if c l[k] = true then .inr (.inr (res k h)) else .inl ((k + 1 : Nat) : Int))) (hd : f (l.length : Int) = some (.inr (.inl u))) :
    ((∀ v∈l,c v = false)∧loop f 0 = some (.inl u))∨∃ k,∃ h : k < l.length,c l[k] = true∧(∀ j (hj : j < k),c (l[j]'(by omega)) = false)∧loop f 0 = some (.inr (res k h)):=by
  by_cases hh : ∀ v∈l,c v = false
  · refine .inl ⟨hh,?_⟩
    exact Z4 (f:=f) (fun k=>(k : Int)) l.length _ (fun k hk=>by rw [hs k hk,hh _ (List.getElem_mem hk)];rfl) hd (Nat.zero_le _)
  · refine .inr ?_
    have : ∃ k,∃ h : k < l.length,c l[k] = true:=by
      refine Classical.byContradiction fun hn=>hh fun v hv=>?_
      obtain ⟨k,hk,rfl⟩:=List.getElem_of_mem hv
      cases hc : c l[k]
      · rfl
      · exact absurd ⟨k,hk,hc⟩ hn
    have h2 : ∃ k,(∃ h : k < l.length,c l[k] = true)∧∀ j,j < k→¬ ∃ h : j < l.length,c l[j] = true:=by
      obtain ⟨k,hk⟩:=this
      induction k using Nat.strongRecOn with
      | _ k ih=>
        by_cases hj : ∃ j,j < k∧∃ h : j < l.length,c l[j] = true
        · obtain ⟨j,h1,h2⟩:=hj;exact ih j h1 h2
        · exact ⟨k,hk,fun j h1 h2=>hj ⟨j,h1,h2⟩⟩
    obtain ⟨k,⟨hk,hc⟩,hmin⟩:=h2
    have hmin' : ∀ j (hj : j < k),c (l[j]'(by omega)) = false:=fun j hj=>by
      cases h : c (l[j]'(by omega))
      · rfl
      · exact absurd ⟨by omega,h⟩ (hmin j hj)
    refine ⟨k,hk,hc,hmin',?_⟩
    exact Z4 (f:=f) (fun k=>(k : Int)) k _ (fun j hj=>by rw [hs j (by omega),hmin' j hj];rfl) (by rw [hs k hk,if_pos hc]) (Nat.zero_le _)
theorem qkp : ∀ {l a b : List Int},Y8 l a→Y8 l b→a = b:=by
  have key : ∀ (a b : List Int),a.Pairwise (· < ·)→b.Pairwise (· < ·)→(∀ x,x∈a↔x∈b)→a = b:=by
    intro a
    induction a with
    | nil=>intro b _ _ h;cases b with
      | nil=>rfl
      | cons y b=>exact absurd ((h y).2 (by simp)) (by simp)
    | cons x a ih=>
      intro b ha hb h
      cases b with
      | nil=>exact absurd ((h x).1 (by simp)) (by simp)
      | cons y b=>
        rw [List.pairwise_cons] at ha hb
        have hxy : x = y:=by
          rcases List.mem_cons.1 ((h x).1 (by simp)) with h1 | h1
          · exact h1
          · rcases List.mem_cons.1 ((h y).2 (by simp)) with h2 | h2
            · exact h2.symm
            · have:=hb.1 _ h1;have:=ha.1 _ h2;omega
        subst hxy
        rw [ih b ha.2 hb.2 fun z=>?_]
        constructor
        · intro hz
          rcases List.mem_cons.1 ((h z).1 (by simp [hz])) with h1 | h1
          · have:=ha.1 _ hz;omega
          · exact h1
        · intro hz
          rcases List.mem_cons.1 ((h z).2 (by simp [hz])) with h1 | h1
          · have:=hb.1 _ hz;omega
          · exact h1
  intro l a b ha hb
  exact key a b ha.1 hb.1 fun x=>(ha.2 x).trans (hb.2 x).symm
def ltI (a b : Int) : Bool:=decide (a < b)
theorem swoI : Sort.SWO ltI where
  irrefl:=by intro x;simp [ltI]
  trans:=by intro x y z;simp only [ltI,decide_eq_true_eq];omega
  ntrans:=by intro x y z;simp only [ltI,decide_eq_false_iff_not];omega
theorem cmpI : K8 qO ltI (fun _=>True):=by
  intro x y _ _
  refine ⟨sg x y,rfl,?_⟩
  rw [Z5];rfl
theorem qko (l : List Int) (hl : l.length≤1000000) : ∃ ys,U9 l = some ys∧ys.Perm l∧ys.Pairwise (·≤·):=by
  obtain ⟨ys,h1,h2,h3⟩:=qkn cmpI swoI l hl (fun _ _=>trivial)
  refine ⟨ys,by rw [qvl];exact h1,h2,h3.imp ?_⟩
  intro a b h
  simp only [ltI,decide_eq_false_iff_not] at h
  omega
end Go.Sh
namespace Go.Sh
open Go Go.Am
structure CInv (p : List Int) (k k2 i : Nat) (a : List Int) : Prop where
  len : a.length = p.length
  hi : i≤k + k2 - 1
  same : ∀ j (h : j < p.length),k + k2 - 1≤j→a[j]? = some p[j]
  so : Y8 (p.take (k + k2)) (a.take i)
theorem qnl {p : List Int} (hp : p.Pairwise (·≤·)) (hl : p.length≤1000000) {k k2 i : Nat} {a : List Int} (hk : 0 < k) (h2 : 0 < k2) (hn : k + k2 < p.length) (h : CInv p k k2 i a) :
    ∃ (i' : Nat) (a' : List Int),Uz ((i : Int),(k,p.length - k),(k2 : Int),a) = some (.inl ((i' : Int),(k,p.length - k),((k2 + 1 : Nat) : Int),a'))∧CInv p k (k2 + 1) i' a':=by
  obtain ⟨h1,h3,h4,h5,h6⟩:=h
  have hb : decide ((k2 : Int) < ((p.length - k : Nat) : Int)) = true:=dlt (by omega)
  have r1 : idxW a (k,p.length - k) (k2 : Int) = some (p[k + k2]):=by
    unfold idxW;rw [if_pos ⟨by omega,by omega⟩]
    simp only [Int.toNat_natCast]
    exact h4 (k + k2) hn (by omega)
  have r2 : idxW a (k,p.length - k) (w64 ((k2 : Int) - 1)) = some (p[k + k2 - 1]):=by
    rw [qu (by omega)]
    have e : (k2 : Int) - 1 = ((k2 - 1 : Nat) : Int):=by omega
    rw [e];unfold idxW;rw [if_pos ⟨by omega,by omega⟩]
    simp only [Int.toNat_natCast]
    have:=h4 (k + k2 - 1) (by omega) (by omega)
    rw [show k + (k2 - 1) = k + k2 - 1 by omega];exact this
  have hle : p[k + k2 - 1]≤p[k + k2]:=List.pairwise_iff_getElem.1 hp _ _ (by omega) hn (by omega)
  have hmem : p[k + k2 - 1]∈p.take (k + k2):=by
    rw [List.mem_take_iff_getElem];exact ⟨k + k2 - 1,by omega,rfl⟩
  have htk : p.take (k + (k2 + 1)) = p.take (k + k2) ++ [p[k + k2]]:=by rw [← Nat.add_assoc,List.take_succ_eq_append_getElem hn]
  have hw : w64 ((k2 : Int) + 1) = ((k2 + 1 : Nat) : Int):=w64s (n:=p.length) (by omega) hl
  by_cases he : p[k + k2] = p[k + k2 - 1]
  · refine ⟨i,a,?_,h1,by omega,fun j hj hge=>h4 j hj (by omega),?_⟩
    · have hne : (p[k + k2] != p[k + k2 - 1]) = false:=by rw [he];simp
      simp only [Uz,hb,cond_true,r1,r2,Option.bind_some,hne,cond_false,hw]
    · rw [htk]
      refine ⟨h5,fun x=>?_⟩
      rw [h6 x]
      constructor
      · intro hx;exact List.mem_append.2 (.inl hx)
      · intro hx
        rcases List.mem_append.1 hx with h | h
        · exact h
        · simp only [List.mem_singleton] at h;rw [h,he];exact hmem
  · have hne : (p[k + k2] != p[k + k2 - 1]) = true:=by simpa using he
    have hia : i < a.length:=by omega
    have r3 : idx a (i : Int) = some a[i]:=Ql hia
    have hw' : w64 ((i : Int) + 1) = ((i + 1 : Nat) : Int):=w64s (n:=p.length) (by omega) hl
    refine ⟨i + 1,a.set i p[k + k2],?_,by simpa using h1,by omega,fun j hj hge=>?_,?_⟩
    · simp only [Uz,hb,cond_true,r1,r2,Option.bind_some,hne,r3,hw,hw',Int.toNat_natCast]
    · rw [List.getElem?_set_ne (by omega)];exact h4 j hj (by omega)
    · have e : (a.set i p[k + k2]).take (i + 1) = a.take i ++ [p[k + k2]]:=by
        rw [List.take_succ_eq_append_getElem (by simpa using hia)]
        simp [List.take_set_of_le]
      rw [e,htk]
      refine ⟨?_,fun x=>?_⟩
      · rw [List.pairwise_append]
        refine ⟨h5,by simp,fun x hx y hy=>?_⟩
        simp only [List.mem_singleton] at hy;subst hy
        have hx':=(h6 x).1 hx
        rw [List.mem_take_iff_getElem] at hx'
        obtain ⟨j,hj,rfl⟩:=hx'
        have : p[j]≤p[k + k2 - 1]:=by
          by_cases hjj : j = k + k2 - 1
          · subst hjj;exact Int.le_refl _
          · exact List.pairwise_iff_getElem.1 hp _ _ (by omega) (by omega) (by omega)
        omega
      · rw [List.mem_append,List.mem_append,h6 x]
theorem qnk {p : List Int} (hp : p.Pairwise (·≤·)) (hl : p.length≤1000000) {k : Nat} (hk : 0 < k) (hkn : k < p.length) (h0 : Y8 (p.take (k + 1)) (p.take k)) :
    ∃ i : Nat,∃ a : List Int,loop Uz ((k : Int),(k,p.length - k),1,p) = some ((i : Int),a)∧a.length = p.length∧i≤p.length∧Y8 p (a.take i):=by
  have h:=Zd (f:=Uz) (mk:=fun k2 (c : Nat × List Int)=>((c.1 : Int),(k,p.length - k),((k2 : Nat) : Int),c.2)) (p.length - k) (fun k2 c=>0 < k2∧CInv p k k2 c.1 c.2)
    (fun b=>∃ i : Nat,∃ a : List Int,b = ((i : Int),a)∧a.length = p.length∧i≤p.length∧Y8 p (a.take i))
    (fun k2 c hk2 hI=>by
      obtain ⟨i',a',e1,e2⟩:=qnl hp hl hk hI.1 (by omega) hI.2
      exact .inl ⟨(i',a'),e1,by omega,e2⟩)
    (fun c hI=>by
      obtain ⟨hpos,h1,h3,h4,h5⟩:=hI
      refine ⟨((c.1 : Int),c.2),?_,c.1,c.2,rfl,h1,by omega,?_⟩
      · simp only [Uz,dnl,cond_false]
      · rwa [List.take_of_length_le (by omega)] at h5)
    (k0:=1) (c0:=(k,p)) (by omega) ⟨by omega,rfl,by simp,fun j hj _=>by simp [hj],h0⟩
  obtain ⟨b,hb,i,a,rfl,h2⟩:=h
  exact ⟨i,a,hb,h2⟩
theorem qg4 {p : List Int} (hp : p.Pairwise (·≤·)) (hl : p.length≤1000000) :
    ∃ w a,q1y p = some ((0,w),a)∧a.length = p.length∧w≤p.length∧Y8 p (a.take w):=by
  unfold q1y
  by_cases hs : p.length < 2
  · rw [decide_eq_true (by omega : (p.length : Int) < 2),cond_true]
    refine ⟨p.length,p,rfl,rfl,Nat.le_refl _,?_⟩
    rw [List.take_length]
    refine ⟨?_,fun x=>Iff.rfl⟩
    match p,hs with
    | [],_=>simp
    | [x],_=>simp
  rw [decide_eq_false (by omega : ¬ (p.length : Int) < 2),cond_false]
  have hsort : ∀ k,k≤p.length→(∀ j (hj : j < k),0 < j→∀ h : j < p.length,p[j]≠p[j - 1])→Y8 (p.take k) (p.take k):=by
    intro k hk hne
    refine ⟨?_,fun x=>Iff.rfl⟩
    rw [List.pairwise_iff_getElem]
    intro i j hi hj hij
    simp only [List.length_take] at hi hj
    simp only [List.getElem_take]
    have h1 : p[j - 1]≤p[j]:=List.pairwise_iff_getElem.1 hp _ _ (by omega) (by omega) (by omega)
    have h2:=hne j (by omega) (by omega) (by omega)
    have h3 : p[i]≤p[j - 1]:=by
      by_cases e : i = j - 1
      · subst e;exact Int.le_refl _
      · exact List.pairwise_iff_getElem.1 hp _ _ (by omega) (by omega) (by omega)
    omega
  have hstep : ∀ k,0 < k→∀ h : k < p.length,p[k]≠p[k - 1]→Zi p (k : Int) = some (.inl ((k + 1 : Nat) : Int)):=by
    intro k h0 h hne
    have r2 : idx p (w64 ((k : Int) - 1)) = some (p[k - 1]):=by rw [qu (by omega)];exact Ut (by omega) (by omega)
    have hb : (p[k] == p[k - 1]) = false:=by simpa using hne
    simp only [Zi,dlt h,cond_true,Ql h,r2,Option.bind_some,hb,cond_false,w64s h hl]
  by_cases hh : ∀ j,0 < j→∀ h : j < p.length,p[j]≠p[j - 1]
  · have h1 : loop (Zi p) 1 = some (.inl ()):=by
      exact Z4 (f:=Zi p) (fun k=>((k + 1 : Nat) : Int)) (p.length - 1) _ (fun k hk=>by
        exact hstep (k + 1) (by omega) (by omega) (hh (k + 1) (by omega) (by omega))) (by
        show Zi p (((p.length - 1) + 1 : Nat) : Int) = _
        rw [show p.length - 1 + 1 = p.length by omega]
        simp only [Zi,dnl,cond_false]) (Nat.zero_le _)
    rw [h1]
    refine ⟨p.length,p,rfl,rfl,Nat.le_refl _,?_⟩
    have:=hsort p.length (Nat.le_refl _) fun j _ h0 h=>hh j h0 h
    rw [List.take_length] at this ⊢;exact this
  · have h2 : ∃ k,(0 < k∧∃ h : k < p.length,p[k] = p[k - 1])∧∀ j,j < k→¬ (0 < j∧∃ h : j < p.length,p[j] = p[j - 1]):=by
      have : ∃ k,0 < k∧∃ h : k < p.length,p[k] = p[k - 1]:=by
        refine Classical.byContradiction fun hn=>hh fun j h0 h he=>hn ⟨j,h0,h,he⟩
      obtain ⟨k,hk⟩:=this
      induction k using Nat.strongRecOn with
      | _ k ih=>
        by_cases hj : ∃ j,j < k∧(0 < j∧∃ h : j < p.length,p[j] = p[j - 1])
        · obtain ⟨j,h1,h2⟩:=hj;exact ih j h1 h2
        · exact ⟨k,hk,fun j h1 h2=>hj ⟨j,h1,h2⟩⟩
    obtain ⟨k,⟨h0,hk,he⟩,hmin⟩:=h2
    have hso : Y8 (p.take k) (p.take k):=hsort k (by omega) fun j hj h0 h he=>hmin j hj ⟨h0,h,he⟩
    have hso' : Y8 (p.take (k + 1)) (p.take k):=by
      refine ⟨hso.1,fun x=>?_⟩
      rw [List.take_succ_eq_append_getElem hk,List.mem_append]
      refine ⟨.inl,fun h=>h.elim id fun h=>?_⟩
      simp only [List.mem_singleton] at h
      rw [h,he,List.mem_take_iff_getElem]
      exact ⟨k - 1,by omega,rfl⟩
    obtain ⟨i,a,e1,e2,e3,e4⟩:=qnk hp hl h0 hk hso'
    have s1 : sub2 p.length (k : Int) (p.length : Int) = some (k,p.length - k):=by unfold sub2;rw [if_pos ⟨by omega,by omega,by omega⟩];simp
    have s2 : sub2 a.length (i : Int) (a.length : Int) = some (i,a.length - i):=by unfold sub2;rw [if_pos ⟨by omega,by omega,by omega⟩];simp
    have s3 : sub2 a.length 0 (i : Int) = some (0,i):=by unfold sub2;rw [if_pos ⟨by omega,by omega,by omega⟩];simp
    have r2 : idx p (w64 ((k : Int) - 1)) = some (p[k - 1]):=by rw [qu (by omega)];exact Ut (by omega) (by omega)
    have h1 : loop (Zi p) 1 = some (.inr ((0,i),clrw a (i,a.length - i) 0)):=by
      exact Z4 (f:=Zi p) (fun k=>((k + 1 : Nat) : Int)) (k - 1) _ (fun j hj=>by
        exact hstep (j + 1) (by omega) (by omega) fun he=>hmin (j + 1) (by omega) ⟨by omega,by omega,he⟩) (by
        show Zi p (((k - 1) + 1 : Nat) : Int) = _
        rw [show k - 1 + 1 = k by omega]
        have hb : (p[k] == p[k - 1]) = true:=by simpa using he
        simp only [Zi,dlt hk,cond_true,Ql hk,r2,Option.bind_some,hb,s1,e1,s2,s3]) (Nat.zero_le _)
    rw [h1]
    refine ⟨i,clrw a (i,a.length - i) 0,rfl,by rw [qft (by simp;omega)];exact e2,e3,?_⟩
    have : (clrw a (i,a.length - i) 0).take i = a.take i:=by
      unfold clrw splice
      rw [List.append_assoc,List.take_append_of_le_length (by simp;omega)]
      simp [List.take_take]
    rw [this];exact e4
end Go.Sh
namespace Go.Sh
open Go Go.Am
theorem q6z {α : Type} [DecidableEq α] (e : α→α→Bool) (he : ∀ v w,e v w = decide (v = w)) (p q : List α) (hl : p.length≤1000000) (f : Int→Option (Int ⊕ (Unit ⊕ Bool)))
    (hf : ∀ k,f k = cond (decide (k < (p.length : Int))) ((idx p k).bind fun v=>(idx q k).bind fun w=>cond (!(e v w)) (some (.inr (.inr false))) (some (.inl (w64 (k + 1))))) (some (.inr (.inl ())))) :
    cond ((p.length : Int) != (q.length : Int)) (some false) ((loop f 0).bind fun m=>(match m with | .inl _=>some true | .inr x=>some x)) = some (decide (p = q)):=by
  by_cases hn : p.length = q.length
  · have : ((p.length : Int) != (q.length : Int)) = false:=by rw [hn];simp
    rw [this,cond_false]
    let c : Nat→Bool:=fun k=>if h : k < p.length then !(e p[k] (q[k]'(by omega))) else false
    have hs : ∀ (k : Nat) (h : k < (List.range p.length).length),f (k : Int) = some (if c (List.range p.length)[k] = true then .inr (.inr false) else .inl ((k + 1 : Nat) : Int)):=by
      intro k h
      have h : k < p.length:=by simpa using h
      rw [hf]
      simp only [dlt h,cond_true,Ql h,Ql (xs:=q) (k:=k) (by omega),Option.bind_some,List.getElem_range,c,dif_pos h,w64s h hl]
      cases e p[k] (q[k]'(by omega)) <;> simp
    have hd : f ((List.range p.length).length : Int) = some (.inr (.inl ())):=by rw [hf];simp []
    rcases q2g (List.range p.length) c (fun _ _=>false) () f hs hd with ⟨h1,h2⟩ | ⟨k,hk,hc,_,h2⟩
    · rw [h2]
      have : p = q:=by
        refine List.ext_getElem hn fun k h3 h4=>?_
        have:=h1 k (by simpa using h3)
        simp only [c,dif_pos h3,he,Bool.not_eq_false',decide_eq_true_eq] at this
        exact this
      simp [this]
    · rw [h2]
      have hk' : k < p.length:=by simpa using hk
      have : p≠q:=by
        intro h
        simp only [List.getElem_range,c,he,h] at hc
        simp at hc
      simp [this]
  · have : ((p.length : Int) != (q.length : Int)) = true:=by simpa using (fun h : (p.length : Int) = q.length=>hn (by omega))
    rw [this,cond_true]
    have : p≠q:=fun h=>hn (by rw [h])
    simp [this]
theorem qgi (p q : List qk) (hl : p.length≤1000000) : q86 p q = some (decide (p = q)):=
  q6z (fun v w=>((v.Lo == w.Lo) && ((v.Hi == w.Hi) && true))) (fun v w=>by cases v;cases w;rw [Bool.eq_iff_iff];simp) p q hl (qb3 p q) (fun _=>rfl)
theorem qjs (p q : List qk) (hl : p.length≤1000000) : q4z p q = some (decide (p = q)):=
  q6z (fun v w=>((v.Lo == w.Lo) && ((v.Hi == w.Hi) && true))) (fun v w=>by cases v;cases w;rw [Bool.eq_iff_iff];simp) p q hl (qao p q) (fun _=>rfl)
theorem qgh (p q : List qi) (hl : p.length≤1000000) : q85 p q = some (decide (p = q)):=
  q6z (fun v w=>((v.X0 == w.X0) && ((v.Y0 == w.Y0) && ((v.X1 == w.X1) && ((v.Y1 == w.Y1) && true))))) (fun v w=>by cases v;cases w;rw [Bool.eq_iff_iff];simp) p q hl (qb1 p q) (fun _=>rfl)
theorem qjr (p q : List qi) (hl : p.length≤1000000) : q53 p q = some (decide (p = q)):=
  q6z (fun v w=>((v.X0 == w.X0) && ((v.Y0 == w.Y0) && ((v.X1 == w.X1) && ((v.Y1 == w.Y1) && true))))) (fun v w=>by cases v;cases w;rw [Bool.eq_iff_iff];simp) p q hl (qap p q) (fun _=>rfl)
theorem sameBox (p q : List qg) (hl : p.length≤1000000) : q37 p q = some (decide (p = q)):=
  q6z (fun v w=>((v.Lo.X == w.Lo.X) && ((v.Lo.Y == w.Lo.Y) && ((v.Lo.Z == w.Lo.Z) && ((v.Hi.X == w.Hi.X) && ((v.Hi.Y == w.Hi.Y) && ((v.Hi.Z == w.Hi.Z) && true))))))) (fun v w=>by rcases v with ⟨⟨_,_,_⟩,⟨_,_,_⟩⟩;rcases w with ⟨⟨_,_,_⟩,⟨_,_,_⟩⟩;rw [Bool.eq_iff_iff];simp [and_assoc]) p q hl (qaw p q) (fun _=>rfl)
structure Mg (σ β : Type) where
  done : List β
  sec : List σ
  lo : Int
  hi : Int
section
variable {σ β : Type} [DecidableEq σ] (put : Int→Int→σ→β)
def Mg.flat (s : Mg σ β) : List β:=s.done ++ s.sec.map (put s.lo s.hi)
def addM (s : Mg σ β) (a b : Int) (c : List σ) : Mg σ β:=if c≠[]∧c = s.sec∧s.hi = a then ⟨s.done,s.sec,s.lo,b⟩ else ⟨s.flat put,c,a,b⟩
def Qq : Mg σ β:=⟨[],[],0,0⟩
def Qs (s0 : Mg σ β) (steps : List (Int × Int × List σ)) : Mg σ β:=steps.foldl (fun s t=>addM put s t.1 t.2.1 t.2.2) s0
theorem q4e {s0 : Mg σ β} {steps : List (Int × Int × List σ)} {i : Nat} (h : i < steps.length) : Qs put s0 (steps.take (i + 1)) = addM put (Qs put s0 (steps.take i)) steps[i].1 steps[i].2.1 steps[i].2.2:=by
  unfold Qs
  rw [List.take_succ_eq_append_getElem h,List.foldl_append];rfl
theorem qf4 (s : Mg σ β) (a b : Int) (c : List σ) : (addM put s a b c).hi = b:=by unfold addM;split <;> rfl
theorem qlw (s : Mg σ β) (a b : Int) (c : List σ) : ((addM put s a b c).flat put).length≤(s.flat put).length + c.length:=by
  unfold addM;split
  · simp [Mg.flat]
  · simp [Mg.flat];omega
theorem qcg {s0 : Mg σ β} {M : Nat} : ∀ {steps : List (Int × Int × List σ)},(∀ t∈steps,t.2.2.length≤M)→((Qs put s0 steps).flat put).length≤(s0.flat put).length + steps.length * M:=by
  intro steps
  induction steps generalizing s0 with
  | nil=>intro _;simp [Qs]
  | cons t r ih=>
    intro h
    have h1:=ih (s0:=addM put s0 t.1 t.2.1 t.2.2) fun u hu=>h u (by simp [hu])
    have h2:=qlw put s0 t.1 t.2.1 t.2.2
    have h3:=h t (by simp)
    have h4 : Qs put s0 (t::r) = Qs put (addM put s0 t.1 t.2.1 t.2.2) r:=rfl
    rw [h4]
    simp only [List.length_cons,Nat.succ_mul]
    omega
end
section
variable {σ : Type}
def Y6 (cuts : List Int) (sec : Int→List σ) : List (Int × Int × List σ):=(cuts.zip cuts.tail).map fun c=>(c.1,c.2,sec c.1)
theorem q99 (cuts : List Int) (sec : Int→List σ) : (Y6 cuts sec).length = cuts.length - 1:=by simp [Y6]
theorem q98 {cuts : List Int} {sec : Int→List σ} {i : Nat} (h : i < (Y6 cuts sec).length) (h1 : i + 1 < cuts.length) : (Y6 cuts sec)[i] = (cuts[i],cuts[i + 1],sec cuts[i]):=by
  simp [Y6]
theorem qyd {cuts : List Int} {sec : Int→List σ} {M : Nat} (h : ∀ x,(sec x).length≤M) : ∀ t∈Y6 cuts sec,t.2.2.length≤M:=by
  intro t ht
  simp only [Y6,List.mem_map] at ht
  obtain ⟨c,_,rfl⟩:=ht
  exact h _
end
theorem Ue {σ β : Type} [DecidableEq σ] (put : Int→Int→σ→β) (s : Mg σ β) (a b : Int) (c : List σ) : (c≠[]∧c = s.sec∧s.hi = a∧addM put s a b c = ⟨s.done,s.sec,s.lo,b⟩)∨(¬ (c≠[]∧c = s.sec∧s.hi = a)∧addM put s a b c = ⟨s.flat put,c,a,b⟩):=by
  unfold addM
  split
  · rename_i h;exact .inl ⟨h.1,h.2.1,h.2.2,rfl⟩
  · rename_i h;exact .inr ⟨h,rfl⟩
def putR (a b : Int) (t : qk) : qi:={X0:=a,Y0:=t.Lo,X1:=b,Y1:=t.Hi}
theorem qmc (s : Mg qk qi) (a b : Int) (c : List qk) (hl : (s.flat putR).length + c.length≤1000000) :
    q7v (s.flat putR) s.sec (s.done.length : Int) s.hi a b c = some ((addM putR s a b c).sec,((addM putR s a b c).done.length : Int),(addM putR s a b c).hi,(addM putR s a b c).flat putR):=by
  have hsec : s.sec.length≤1000000:=by have : (s.flat putR).length = s.done.length + s.sec.length:=(by simp [Mg.flat]);omega
  unfold q7v
  rcases Ue putR s a b c with ⟨h1,h2,h3,h4⟩ | ⟨h1,h4⟩
  · have hb : decide ((c.length : Int) > 0) = true:=decide_eq_true (by have:=List.length_pos_iff.2 h1;omega)
    have he : (s.hi == a) = true:=by simpa using h3
    rw [h2] at hb
    rw [h4,h2]
    simp only [hb,cond_true,he,Option.bind_some,qgi _ _ hsec,decide_true]
    have:=qa0 (fun v : qi=>({X0:=v.X0,Y0:=v.Y0,X1:=b,Y1:=v.Y1} : qi)) s.done (s.sec.map (putR s.lo s.hi)) (by have : (s.done ++ s.sec.map (putR s.lo s.hi)).length = (s.flat putR).length:=rfl;omega) (q5a b) (fun k o hk ho=>by
      have h5 : (s.done ++ s.sec.map (putR s.lo s.hi)).length = (s.flat putR).length:=rfl
      simp only [q5a,dlt hk,cond_true,Ql hk,Option.bind_some,w64s hk (by omega),Int.toNat_natCast]) (fun o=>by simp only [q5a,dnl,cond_false])
    rw [show s.flat putR = s.done ++ s.sec.map (putR s.lo s.hi) from rfl,this]
    simp only [Option.bind_some,Mg.flat,List.map_map]
    rfl
  · rw [h4]
    have hc : ((cond (decide ((c.length : Int) > 0)) (some (s.hi == a)) (some false)).bind fun c101=>(cond c101 ((q86 s.sec c).bind fun r121=>some r121) (some false))) = some false:=by
      by_cases h5 : c = []
      · subst h5;simp
      · have hb : decide ((c.length : Int) > 0) = true:=decide_eq_true (by have:=List.length_pos_iff.2 h5;omega)
        simp only [hb,cond_true,Option.bind_some,qgi _ _ hsec]
        by_cases h6 : s.hi = a
        · have h7 : s.sec≠c:=fun h=>h1 ⟨h5,h.symm,h6⟩
          simp [h6,h7]
        · have : (s.hi == a) = false:=by simpa using h6
          simp [this]
    have hap:=q7a c (putR a b) (s.flat putR) (fun o=>(c,((s.flat putR).length : Int),b,o)) (q5b c a b (s.flat putR)) (fun k hk o ho=>by
      simp only [q5b,dlt hk,cond_true,Ql hk,Option.bind_some,w64s hk (by omega)]
      rw [Kq (by simp;omega)]
      rfl) (fun o=>by simp only [q5b,dnl,cond_false])
    rw [← Option.bind_assoc,hc]
    simp only [Option.bind_some,cond_false,hap]
    simp [Mg.flat]
end Go.Sh
namespace Go.Sh
open Go Go.Am
def vR (r : qi) : Prop:=r.X0 < r.X1∧r.Y0 < r.Y1∧-1000000≤r.X0∧r.X0≤1000000∧-1000000≤r.X1∧r.X1≤1000000∧-1000000≤r.Y0∧r.Y0≤1000000∧-1000000≤r.Y1∧r.Y1≤1000000
instance (r : qi) : Decidable (vR r):=by unfold vR;infer_instance
theorem qof (x : Int) : q1s x = some (decide (-1000000≤x∧x≤1000000)):=by
  unfold q1s
  by_cases h : x ≥ -1000000 <;> by_cases h' : x≤1000000 <;> simp [h,h'] <;> omega
theorem qz0 (r : qi) : q7x r = some (decide (vR r)):=by
  unfold q7x
  simp only [qof,qnm,Option.bind_some,vR]
  by_cases h1 : r.X0 < r.X1 <;> by_cases h2 : r.Y0 < r.Y1 <;> by_cases h3 : -1000000≤r.X0∧r.X0≤1000000 <;> by_cases h4 : -1000000≤r.X1∧r.X1≤1000000 <;> by_cases h5 : -1000000≤r.Y0∧r.Y0≤1000000 <;> by_cases h6 : -1000000≤r.Y1∧r.Y1≤1000000 <;> simp [h1,h2,h3,h4,h5,h6] <;> omega
def covR (x : Int) (r : qi) : Bool:=decide (r.X0≤x) && decide (x < r.X1)
def ysp (r : qi) : qk:={Lo:=r.Y0,Hi:=r.Y1}
def covS (l : List qi) (x : Int) : List qk:=l.flatMap fun r=>if covR x r = true then [ysp r] else []
def hasR (l : List qi) (x y : Int) : Prop:=∃ r∈l,r.X0≤x∧x < r.X1∧r.Y0≤y∧y < r.Y1
theorem qab {l : List qi} {x : Int} {t : qk} : t∈covS l x↔∃ r∈l,covR x r = true∧t = ysp r:=by
  unfold covS
  rw [List.mem_flatMap]
  constructor
  · rintro ⟨r,hr,h⟩
    split at h
    · rename_i hc;simp only [List.mem_singleton] at h;exact ⟨r,hr,hc,h⟩
    · cases h
  · rintro ⟨r,hr,hc,rfl⟩;exact ⟨r,hr,by simp [hc]⟩
theorem U0 {l : List qi} {x y : Int} : has (covS l x) y↔hasR l x y:=by
  unfold has hasR
  constructor
  · rintro ⟨t,ht,h1,h2⟩
    obtain ⟨r,hr,hc,rfl⟩:=qab.1 ht
    simp only [covR,Bool.and_eq_true,decide_eq_true_eq] at hc
    exact ⟨r,hr,hc.1,hc.2,h1,h2⟩
  · rintro ⟨r,hr,h1,h2,h3,h4⟩
    exact ⟨ysp r,qab.2 ⟨r,hr,by simp [covR,h1,h2],rfl⟩,h3,h4⟩
theorem q18 (l : List qi) (x : Int) : (covS l x).length≤l.length:=by
  unfold covS
  induction l with
  | nil=>simp
  | cons r l ih=>
    simp only [List.flatMap_cons,List.length_append,List.length_cons]
    have : (if covR x r = true then [ysp r] else []).length≤1:=by split <;> simp
    omega
theorem qny {l : List qi} (h : ∀ r∈l,vR r) (x : Int) : ∀ t∈covS l x,vld t:=by
  intro t ht
  obtain ⟨r,hr,_,rfl⟩:=qab.1 ht
  obtain ⟨_,h2,_,_,_,_,h3,_,_,h4⟩:=h r hr
  exact ⟨h2,h3,h4⟩
def xsOf (l : List qi) : List Int:=l.flatMap fun r=>[r.X0,r.X1]
def ysOf (l : List qi) : List Int:=l.flatMap fun r=>[r.Y0,r.Y1]
theorem q15 (l : List qi) : (xsOf l).length = 2 * l.length:=by
  unfold xsOf;induction l with
  | nil=>rfl
  | cons r l ih=>simp only [List.flatMap_cons,List.length_append,List.length_cons,List.length_nil];omega
theorem q9i (l : List qi) : (ysOf l).length = 2 * l.length:=by
  unfold ysOf;induction l with
  | nil=>rfl
  | cons r l ih=>simp only [List.flatMap_cons,List.length_append,List.length_cons,List.length_nil];omega
theorem qgf {l : List qi} {x y : Int} (h : y∈ends (covS l x)) : y∈ysOf l:=by
  obtain ⟨t,ht,h⟩:=q7c.1 h
  obtain ⟨r,hr,_,rfl⟩:=qab.1 ht
  unfold ysOf
  rw [List.mem_flatMap]
  exact ⟨r,hr,by rcases h with h | h <;> simp [h,ysp]⟩
noncomputable def Qi (l : List Int) : List Int:=(Zz l).getD []
theorem Jo {l : List Int} (hl : l.length≤1000000) : Zz l = some (Qi l)∧Y8 l (Qi l)∧(Qi l).length≤l.length:=by
  obtain ⟨t,h1,h2,h3⟩:=qkq l hl
  unfold Qi;rw [h1];exact ⟨rfl,h2,h3⟩
noncomputable def secJ (kind : Int) (p q : List qi) (x : Int) : List qk:=q2p kind (covS p x) (covS q x)
theorem qe8 (kind : Int) {p q : List qi} (h : p.length + q.length≤100000) (x : Int) : (secJ kind p q x).length≤2 * (p.length + q.length):=by
  have h1:=q18 p x
  have h2:=q18 q x
  have:=(q77 kind (covS p x) (covS q x) (by omega) (by omega)).2.len
  unfold secJ;omega
noncomputable def mrg (kind : Int) (p q : List qi) : Mg qk qi:=Qs putR Qq (Y6 (Qi (xsOf p ++ xsOf q)) (secJ kind p q))
noncomputable def mrgR (kind : Int) (p q : List qi) : List qi:=(mrg kind p q).flat putR
theorem q9x {p q : List qi} (h : p.length + q.length≤400) : Zz (xsOf p ++ xsOf q) = some (Qi (xsOf p ++ xsOf q))∧Y8 (xsOf p ++ xsOf q) (Qi (xsOf p ++ xsOf q))∧(Qi (xsOf p ++ xsOf q)).length≤2 * (p.length + q.length):=by
  have h1:=q15 p
  have h2:=q15 q
  obtain ⟨a,b,c⟩:=Jo (l:=xsOf p ++ xsOf q) (by simp;omega)
  exact ⟨a,b,by simp at c;omega⟩
theorem qc8 {p q : List qi} (h : p.length + q.length≤400) : Zz (ysOf p ++ ysOf q) = some (Qi (ysOf p ++ ysOf q))∧Y8 (ysOf p ++ ysOf q) (Qi (ysOf p ++ ysOf q))∧(Qi (ysOf p ++ ysOf q)).length≤2 * (p.length + q.length):=by
  have h1:=q9i p
  have h2:=q9i q
  obtain ⟨a,b,c⟩:=Jo (l:=ysOf p ++ ysOf q) (by simp;omega)
  exact ⟨a,b,by simp at c;omega⟩
theorem qii (kind : Int) {p q : List qi} (h : p.length + q.length≤400) (i : Nat) :
    ((Qs putR Qq ((Y6 (Qi (xsOf p ++ xsOf q)) (secJ kind p q)).take i)).flat putR).length≤800 * 800:=by
  have h1:=qcg putR (s0:=Qq) (M:=800) (steps:=(Y6 (Qi (xsOf p ++ xsOf q)) (secJ kind p q)).take i) (fun t ht=>by
    have:=qyd (M:=2 * (p.length + q.length)) (fun x=>qe8 kind (by omega) x) t (List.mem_of_mem_take ht)
    omega)
  have h2 : ((Y6 (Qi (xsOf p ++ xsOf q)) (secJ kind p q)).take i).length≤800:=by
    have:=(q9x h).2.2
    rw [List.length_take,q99];omega
  have h3 : (Qq.flat putR : List qi).length = 0:=rfl
  have h4 : ((Y6 (Qi (xsOf p ++ xsOf q)) (secJ kind p q)).take i).length * 800≤800 * 800:=Nat.mul_le_mul_right _ h2
  omega
theorem qpv (l : List qi) (hl : l.length≤400) :
    (((idx [l] 0).bind fun v95=>(loop (q1t v95) (0,[])).bind fun x0=>some x0).bind fun b94=>(U9 b94).bind fun e127=>(Qm e127.length b94.length).bind fun u129=>(q1y e127).bind fun e132=>(Qm e132.2.length e127.length).bind fun u134=>(q27 e132.2.length e132.1).bind fun u137=>some ((e132.2.drop e132.1.1).take e132.1.2)) = some (Qi (xsOf l)):=by
  have e0 : idx [l] 0 = some l:=rfl
  have e1 : loop (q1t l) (0,[]) = some (xsOf l):=by
    have:=J4 l (by omega) (fun r=>[r.X0,r.X1]) [] (fun o=>o) (q1t l) (fun k hk o ho=>by
      have h8 : o.length = 2 * k:=by rw [ho,List.nil_append];have:=q15 (l.take k);rw [List.length_take,Nat.min_eq_left (by omega)] at this;exact this
      simp only [q1t,dlt hk,cond_true,Ql hk,Option.bind_some,w64s hk (by omega)]
      rw [Kq (by simp;omega)]
      rfl) (fun o=>by simp only [q1t,dnl,cond_false])
    rw [List.nil_append] at this
    exact this
  have hx:=q15 l
  obtain ⟨ys,s1,s2,s3⟩:=qko (xsOf l) (by omega)
  have hys : ys.length = (xsOf l).length:=s2.length_eq
  obtain ⟨w,a,c1,c2,c3,c4⟩:=qg4 s3 (by omega)
  obtain ⟨_,d2,_⟩:=Jo (l:=xsOf l) (by omega)
  have huniq : a.take w = Qi (xsOf l):=by
    refine qkp (l:=xsOf l) ⟨c4.1,fun x=>?_⟩ d2
    rw [c4.2 x];exact s2.mem_iff
  simp only [e0,Option.bind_some,e1,s1,Qm,hys,if_true,c1,c2,q27]
  rw [if_pos (by omega)]
  simp only [Option.bind_some,List.drop_zero,huniq]
theorem qpu (l : List qi) (hl : l.length≤400) (x : Int) : loop (q38 l x) (0,[]) = some (covS l x):=by
  have:=J4 l (by omega) (fun r=>if covR x r = true then [ysp r] else []) [] (fun o=>o) (q38 l x) (fun k hk o ho=>by
    have h8 : o.length≤k:=by rw [ho,List.nil_append];have:=q18 (l.take k) x;rw [List.length_take,Nat.min_eq_left (by omega)] at this;exact this
    simp only [q38,dlt hk,cond_true,Ql hk,Option.bind_some,w64s hk (by omega)]
    by_cases h1 : l[k].X0≤x
    · by_cases h2 : x < l[k].X1
      · simp only [h1,h2,decide_true,cond_true,Option.bind_some,covR,Bool.and_self,if_true]
        rw [Kq (by simp;omega)]
        rfl
      · simp only [h1,h2,decide_true,decide_false,cond_true,cond_false,Option.bind_some,covR,Bool.and_false,if_false,Bool.false_eq_true,List.append_nil]
    · simp only [h1,decide_false,cond_false,Option.bind_some,covR,Bool.false_and,if_false,Bool.false_eq_true,List.append_nil]) (fun o=>by simp only [q38,dnl,cond_false])
  rw [List.nil_append] at this
  exact this
theorem qpw (l : List qi) (hl : l.length≤400) (hv : ∀ r∈l,vR r) : q7w l = some (if 400 < (mrgR 2 l []).length then ([],4) else (mrgR 2 l [],0)):=by
  unfold q7w
  rw [qpv l hl]
  simp only [Option.bind_some]
  have hcut : Qi (xsOf l ++ xsOf []) = Qi (xsOf l):=by simp [xsOf]
  obtain ⟨_,hso,hlen⟩:=q9x (p:=l) (q:=[]) (by simpa using hl)
  have hml:=fun i=>qii 2 (p:=l) (q:=[]) (by simpa using hl) i
  rw [hcut] at hso hlen
  have hlen : (Qi (xsOf l)).length≤2 * l.length:=by simpa using hlen
  have hmain : loop (q1u (Qi (xsOf l)) l) (1,[],0,0,[]) = some ((mrg 2 l []).sec,((mrg 2 l []).done.length : Int),(mrg 2 l []).hi,mrgR 2 l []):=by
    unfold mrgR mrg
    rw [hcut] at hml ⊢
    generalize hst : Y6 (Qi (xsOf l)) (secJ 2 l []) = steps at hml ⊢
    have hsl : steps.length = (Qi (xsOf l)).length - 1:=by rw [← hst];exact q99 _ _
    have hfin : Qs putR Qq (steps.take steps.length) = Qs putR Qq steps:=by rw [List.take_length]
    have key:=Z4 (f:=q1u (Qi (xsOf l)) l) (fun k=>(((k + 1 : Nat) : Int),(Qs putR Qq (steps.take k)).sec,((Qs putR Qq (steps.take k)).done.length : Int),(Qs putR Qq (steps.take k)).hi,(Qs putR Qq (steps.take k)).flat putR))
      steps.length ((Qs putR Qq steps).sec,((Qs putR Qq steps).done.length : Int),(Qs putR Qq steps).hi,(Qs putR Qq steps).flat putR) (fun k hk=>by
        have hk1 : k + 1 < (Qi (xsOf l)).length:=by omega
        have hg : steps[k] = ((Qi (xsOf l))[k],(Qi (xsOf l))[k + 1],secJ 2 l [] (Qi (xsOf l))[k]):=by
          subst hst;exact q98 hk hk1
        have i1 : idx (Qi (xsOf l)) (w64 (((k + 1 : Nat) : Int) - 1)) = some (Qi (xsOf l))[k]:=by rw [qu (by omega)];exact Ut (by omega) (by omega)
        have hcl:=q18 l (Qi (xsOf l))[k]
        have hmk : q6l (covS l (Qi (xsOf l))[k]) = some (secJ 2 l [] (Qi (xsOf l))[k],0):=by
          rw [qpx]
          unfold qd3
          rw [if_neg (by omega),if_pos (qny hv _)]
          rfl
        have hbl:=qe8 2 (p:=l) (q:=[]) (by simp;omega) (Qi (xsOf l))[k]
        have hml':=hml k
        have hb:=qmc (Qs putR Qq (steps.take k)) (Qi (xsOf l))[k] (Qi (xsOf l))[k + 1] (secJ 2 l [] (Qi (xsOf l))[k]) (by simp at hbl;omega)
        rw [q4e putR hk,hg]
        simp only [q1u,dlt hk1,cond_true,i1,Ql hk1,Option.bind_some,show idx [l] 0 = some l from rfl,qpu l hl,hmk,hb,Bool.not_true,cond_false]
        rw [w64s hk1 (by omega)]) (by
        rw [hfin]
        by_cases h0 : (Qi (xsOf l)).length = 0
        · have : decide (((steps.length + 1 : Nat) : Int) < ((Qi (xsOf l)).length : Int)) = false:=decide_eq_false (by omega)
          simp only [q1u,this,cond_false]
        · have : decide (((steps.length + 1 : Nat) : Int) < ((Qi (xsOf l)).length : Int)) = false:=decide_eq_false (by omega)
          simp only [q1u,this,cond_false]) (Nat.zero_le _)
    exact key
  rw [hmain]
  simp only [Option.bind_some]
  by_cases h4 : 400 < (mrgR 2 l []).length
  · rw [decide_eq_true (by omega : ((mrgR 2 l []).length : Int) > 400),if_pos h4];rfl
  · rw [decide_eq_false (by omega : ¬ ((mrgR 2 l []).length : Int) > 400),if_neg h4];rfl
end Go.Sh
namespace Go.Sh
open Go Go.Am
theorem qs1 {p q : List qi} (h : p.length + q.length≤400) : q7k p q = some (Qi (xsOf p ++ xsOf q)):=by
  have e1 : loop (q2y p) (0,[]) = some (xsOf p):=by
    have:=J4 p (by omega) (fun r=>[r.X0,r.X1]) [] (fun o=>o) (q2y p) (fun k hk o ho=>by
      have h8 : o.length = 2 * k:=by rw [ho,List.nil_append];have:=q15 (p.take k);rw [List.length_take,Nat.min_eq_left (by omega)] at this;exact this
      simp only [q2y,dlt hk,cond_true,Ql hk,Option.bind_some,w64s hk (by omega)]
      rw [Kq (by simp;omega)]
      rfl) (fun o=>by simp only [q2y,dnl,cond_false])
    rw [List.nil_append] at this
    exact this
  have e2 : loop (q2z q) (0,xsOf p) = some (xsOf p ++ xsOf q):=by
    have hp:=q15 p
    exact J4 q (by omega) (fun r=>[r.X0,r.X1]) (xsOf p) (fun o=>o) (q2z q) (fun k hk o ho=>by
      have h8 : o.length = 2 * p.length + 2 * k:=by
        rw [ho,List.length_append,hp];have:=q15 (q.take k);rw [List.length_take,Nat.min_eq_left (by omega)] at this
        unfold xsOf at this;omega
      simp only [q2z,dlt hk,cond_true,Ql hk,Option.bind_some,w64s hk (by omega)]
      rw [Kq (by simp;omega)]
      rfl) (fun o=>by simp only [q2z,dnl,cond_false])
  unfold q7k
  simp only [e1,e2,Option.bind_some,(q9x h).1]
theorem qs3 {p q : List qi} (h : p.length + q.length≤400) : q7l p q = some (Qi (ysOf p ++ ysOf q)):=by
  have e1 : loop (q30 p) (0,[]) = some (ysOf p):=by
    have:=J4 p (by omega) (fun r=>[r.Y0,r.Y1]) [] (fun o=>o) (q30 p) (fun k hk o ho=>by
      have h8 : o.length = 2 * k:=by rw [ho,List.nil_append];have:=q9i (p.take k);rw [List.length_take,Nat.min_eq_left (by omega)] at this;exact this
      simp only [q30,dlt hk,cond_true,Ql hk,Option.bind_some,w64s hk (by omega)]
      rw [Kq (by simp;omega)]
      rfl) (fun o=>by simp only [q30,dnl,cond_false])
    rw [List.nil_append] at this
    exact this
  have e2 : loop (q31 q) (0,ysOf p) = some (ysOf p ++ ysOf q):=by
    have hp:=q9i p
    exact J4 q (by omega) (fun r=>[r.Y0,r.Y1]) (ysOf p) (fun o=>o) (q31 q) (fun k hk o ho=>by
      have h8 : o.length = 2 * p.length + 2 * k:=by
        rw [ho,List.length_append,hp];have:=q9i (q.take k);rw [List.length_take,Nat.min_eq_left (by omega)] at this
        unfold ysOf at this;omega
      simp only [q31,dlt hk,cond_true,Ql hk,Option.bind_some,w64s hk (by omega)]
      rw [Kq (by simp;omega)]
      rfl) (fun o=>by simp only [q31,dnl,cond_false])
  unfold q7l
  simp only [e1,e2,Option.bind_some,(qc8 h).1]
open Classical in
theorem qja (l : List qi) (x y : Int) (hl : l.length≤1000000) : q50 l x y = some (decide (hasR l x y)):=by
  let c : qi→Bool:=fun r=>decide (r.X0≤x) && (decide (x < r.X1) && (decide (r.Y0≤y) && decide (y < r.Y1)))
  have hs : ∀ (k : Nat) (h : k < l.length),q1o l x y (k : Int) = some (if c l[k] = true then .inr (.inr true) else .inl ((k + 1 : Nat) : Int)):=by
    intro k h
    simp only [q1o,dlt h,cond_true,Ql h,Option.bind_some,w64s h hl,c]
    by_cases h1 : l[k].X0≤x <;> by_cases h2 : x < l[k].X1 <;> by_cases h3 : l[k].Y0≤y <;> by_cases h4 : y < l[k].Y1 <;> simp [h1,h2,h3,h4]
  have hd : q1o l x y (l.length : Int) = some (.inr (.inl ())):=by simp only [q1o,dnl,cond_false]
  unfold q50
  rcases q2g l c (fun _ _=>true) () (q1o l x y) hs hd with ⟨h1,h2⟩ | ⟨k,hk,hc,_,h2⟩
  · rw [h2]
    have : ¬ hasR l x y:=by
      rintro ⟨r,hr,a1,a2,a3,a4⟩
      have:=h1 r hr
      simp [c,a1,a2,a3,a4] at this
    simp [this]
  · rw [h2]
    have : hasR l x y:=by
      simp only [c,Bool.and_eq_true,decide_eq_true_eq] at hc
      exact ⟨l[k],List.getElem_mem hk,hc.1,hc.2.1,hc.2.2.1,hc.2.2.2⟩
    simp [this]
theorem qcu {kind : Int} {a b : Prop} (h : Kl kind a b) : a∨b:=by
  rcases h with ⟨_,h,_⟩ | ⟨_,h⟩ | ⟨_,_,h,_⟩
  · exact .inl h
  · exact h
  · exact .inl h
theorem qho {kind : Int} {a b a' b' : Prop} (h1 : a↔a') (h2 : b↔b') : Kl kind a b↔Kl kind a' b':=by
  unfold Kl;rw [h1,h2]
open Classical in
theorem qmm (kind : Int) {p q : List qi} (h : p.length + q.length≤400) (x : Int) :
    q2s (Qi (ysOf p ++ ysOf q)) ((Qi (ysOf p ++ ysOf q)).map fun y=>decide (Kl kind (hasR p x y) (hasR q x y))) = some (secJ kind p q x):=by
  obtain ⟨_,hso,hlen⟩:=qc8 h
  generalize Qi (ysOf p ++ ysOf q) = ys at hso hlen ⊢
  obtain ⟨c,h1,h2⟩:=qfn ys (ys.map fun y=>decide (Kl kind (hasR p x y) (hasR q x y))) hso.1 (by omega) (by simp)
  rw [h1]
  have cp:=q18 p x
  have cq:=q18 q x
  have hj:=(q77 kind (covS p x) (covS q x) (by omega) (by omega)).2
  have mp : ∀ z∈ends (covS p x),z∈ys:=fun z hz=>(hso.2 z).2 (List.mem_append.2 (.inl (qgf hz)))
  have mq : ∀ z∈ends (covS q x),z∈ys:=fun z hz=>(hso.2 z).2 (List.mem_append.2 (.inr (qgf hz)))
  congr 1
  refine q6q h2.can hj.can fun z=>?_
  unfold secJ
  rw [h2.pts z,hj.pts z]
  constructor
  · rintro ⟨i,hi,hi',_,hin,a1,a2⟩
    simp only [List.getElem_map,decide_eq_true_eq] at hin
    refine (qho ?_ ?_).2 hin
    · rw [q1x hso.1 mp hi a1 a2,U0]
    · rw [q1x hso.1 mq hi a1 a2,U0]
  · intro hh
    have : ∃ i,∃ (h : i + 1 < ys.length),ys[i]≤z∧z < ys[i + 1]:=by
      rcases qcu hh with h | h
      · exact qa8 hso.1 mp h
      · exact qa8 hso.1 mq h
    obtain ⟨i,hi,a1,a2⟩:=this
    refine ⟨i,hi,by simp;omega,by omega,?_,a1,a2⟩
    simp only [List.getElem_map,decide_eq_true_eq]
    refine (qho ?_ ?_).1 hh
    · rw [q1x hso.1 mp hi a1 a2,U0]
    · rw [q1x hso.1 mq hi a1 a2,U0]
open Classical in
theorem qpg (kind : Int) {p q : List qi} (h : p.length + q.length≤400) (ys xs : List Int) (hy : ys.length≤1000000) (i : Nat) (hi : i < xs.length) (a : List qk × Int × Int × List qi) (ha : a.2.2.1 = i) :
    loop (q2w ys xs a p q kind) (0,[]) = some (ys.map fun y=>decide (Kl kind (hasR p xs[i] y) (hasR q xs[i] y))):=by
  have:=q7a ys (fun y=>decide (Kl kind (hasR p xs[i] y) (hasR q xs[i] y))) [] (fun o=>o) (q2w ys xs a p q kind) (fun k hk o ho=>by
    simp only [q2w,dlt hk,cond_true,ha,Ql hk,Ql hi,Option.bind_some,qja p _ _ (by omega),qja q _ _ (by omega),qhp,w64s hk hy]
    rw [Kq (by simp at ho ⊢;omega)]
    rfl) (fun o=>by simp only [q2w,dnl,cond_false])
  rw [List.nil_append] at this
  exact this
theorem qph (kind : Int) {p q : List qi} (h : p.length + q.length≤400) {xs : List Int} (hx : xs.length≤1000000) {i : Nat} (hi : i + 1 < xs.length) (s : Mg qk qi) (hl : (s.flat putR).length + (secJ kind p q xs[i]).length≤1000000)
    (h0 : i = 0→s.sec = []) (h1 : 0 < i→s.hi = xs[i]) :
    q1p xs (Qi (ysOf p ++ ysOf q)) p q kind (s.sec,(s.done.length : Int),(i : Int),s.flat putR) =
      some (.inl ((addM putR s xs[i] xs[i + 1] (secJ kind p q xs[i])).sec,((addM putR s xs[i] xs[i + 1] (secJ kind p q xs[i])).done.length : Int),((i + 1 : Nat) : Int),(addM putR s xs[i] xs[i + 1] (secJ kind p q xs[i])).flat putR)):=by
  have hi0 : i < xs.length:=by omega
  have hw : w64 ((i : Int) + 1) = ((i + 1 : Nat) : Int):=w64s hi0 hx
  have hy:=(qc8 h).2.2
  have hfl : (s.flat putR).length = s.done.length + s.sec.length:=by simp [Mg.flat]
  have hins:=qpg kind h (Qi (ysOf p ++ ysOf q)) xs (by omega) i hi0 (s.sec,(s.done.length : Int),(i : Int),s.flat putR) rfl
  unfold q1p
  simp only [hw,dlt hi,cond_true,hins,Option.bind_some,qmm kind h]
  generalize hc : secJ kind p q xs[i] = c at hl ⊢
  by_cases hsame : 0 < i∧c = s.sec
  · obtain ⟨hpos,hcs⟩:=hsame
    have hb : decide ((i : Int) > 0) = true:=decide_eq_true (by omega)
    have hext:=qa0 (fun v : qi=>({X0:=v.X0,Y0:=v.Y0,X1:=xs[i + 1],Y1:=v.Y1} : qi)) s.done (s.sec.map (putR s.lo s.hi)) (by simp;omega) (q2x xs (s.sec,(s.done.length : Int),(i : Int),s.flat putR)) (fun k o hk ho=>by
      have h5 : (s.done ++ s.sec.map (putR s.lo s.hi)).length = (s.flat putR).length:=rfl
      simp only [q2x,dlt hk,cond_true,Ql hk,Ql hi,hw,Option.bind_some,w64s hk (by omega),Int.toNat_natCast]) (fun o=>by simp only [q2x,dnl,cond_false])
    have hsp : q4z c s.sec = some true:=by rw [qjs _ _ (by omega)];simp [hcs]
    have hext : loop (q2x xs (s.sec,(s.done.length : Int),(i : Int),s.flat putR)) ((s.done.length : Int),s.flat putR) = _:=hext
    simp only [hb,cond_true,hsp,Option.bind_some,hext]
    rcases Ue putR s xs[i] xs[i + 1] c with ⟨_,_,_,h4⟩ | ⟨h3,h4⟩
    · rw [h4]
      simp only [Mg.flat,List.map_map]
      rfl
    · have hnil : c = []:=Classical.byContradiction fun hn=>h3 ⟨hn,hcs,h1 hpos⟩
      rw [h4]
      simp [Mg.flat,← hcs,hnil]
  · have hcnd : (cond (decide ((i : Int) > 0)) ((q4z c s.sec).bind fun r721=>some r721) (some false)) = some false:=by
      by_cases hpos : 0 < i
      · have hb : decide ((i : Int) > 0) = true:=decide_eq_true (by omega)
        have hne : c≠s.sec:=fun h=>hsame ⟨hpos,h⟩
        rw [hb,cond_true,qjs _ _ (by omega)]
        simp [hne]
      · have hb : decide ((i : Int) > 0) = false:=decide_eq_false (by omega)
        rw [hb,cond_false]
    have hap:=q7a c (putR xs[i] xs[i + 1]) (s.flat putR) (fun o=>(c,((s.flat putR).length : Int),o)) (q51 c xs (s.sec,(s.done.length : Int),(i : Int),s.flat putR)) (fun k hk o ho=>by
      simp only [q51,dlt hk,cond_true,Ql hk,Ql hi0,Ql hi,hw,Option.bind_some,w64s hk (by omega)]
      rw [Kq (by simp;omega)]
      rfl) (fun o=>by simp only [q51,dnl,cond_false])
    have h4 : addM putR s xs[i] xs[i + 1] c = ⟨s.flat putR,c,xs[i],xs[i + 1]⟩:=by
      rcases Ue putR s xs[i] xs[i + 1] c with ⟨g1,g2,_,_⟩ | ⟨_,h4⟩
      · refine absurd ?_ hsame
        refine ⟨Nat.pos_of_ne_zero fun h=>g1 ?_,g2⟩
        rw [g2,h0 h]
      · exact h4
    rw [h4]
    simp only [hcnd,Option.bind_some,cond_false,hap]
    simp [Mg.flat]
theorem q52 (kind : Int) {p q : List qi} (h : p.length + q.length≤400) : Zg kind p q = some (mrgR kind p q):=by
  unfold Zg
  rw [qs1 h,qs3 h]
  simp only [Option.bind_some]
  obtain ⟨_,hso,hlen⟩:=q9x h
  have hml:=fun i=>qii kind h i
  unfold mrgR mrg
  generalize Qi (xsOf p ++ xsOf q) = xs at hso hlen hml ⊢
  generalize hst : Y6 xs (secJ kind p q) = steps at hml ⊢
  have hsl : steps.length = xs.length - 1:=by rw [← hst];exact q99 _ _
  have key:=Z4 (f:=q1p xs (Qi (ysOf p ++ ysOf q)) p q kind) (fun k=>((Qs putR Qq (steps.take k)).sec,((Qs putR Qq (steps.take k)).done.length : Int),(k : Int),(Qs putR Qq (steps.take k)).flat putR))
    steps.length ((Qs putR Qq steps).flat putR) (fun k hk=>by
      have hk1 : k + 1 < xs.length:=by omega
      have hg : steps[k] = (xs[k],xs[k + 1],secJ kind p q xs[k]):=by subst hst;exact q98 hk hk1
      have hbl:=qe8 kind (p:=p) (q:=q) (by omega) xs[k]
      have hml':=hml k
      have:=qph kind h (xs:=xs) (by omega) hk1 (Qs putR Qq (steps.take k)) (by omega) (fun h0=>by subst h0;rfl) (fun hpos=>by
        obtain ⟨m,rfl⟩ : ∃ m,k = m + 1:=⟨k - 1,by omega⟩
        rw [q4e putR (by omega),qf4]
        subst hst
        rw [q98 (by omega) (by omega)])
      rw [this,q4e putR hk,hg]) (by
      rw [List.take_length]
      have hb : decide (w64 ((steps.length : Int) + 1) < (xs.length : Int)) = false:=by
        rw [qu (by omega)];exact decide_eq_false (by omega)
      unfold q1p
      simp only [hb,cond_false]) (Nat.zero_le _)
  have key : loop (q1p xs (Qi (ysOf p ++ ysOf q)) p q kind) ([],0,0,[]) = some ((Qs putR Qq steps).flat putR):=key
  rw [key];rfl
end Go.Sh
namespace Go.Sh
open Go Go.Am
def putB (a b : Int) (r : qi) : qg:={Lo:={X:=r.X0,Y:=r.Y0,Z:=a},Hi:={X:=r.X1,Y:=r.Y1,Z:=b}}
def qgs (z : Int) : Prop:=-1000000≤z∧z≤1000000
instance (z : Int) : Decidable (qgs z):=by unfold qgs;infer_instance
end Go.Sh
namespace Go.Sh
open Go Go.Am
def covB (z : Int) (b : qg) : Bool:=decide (b.Lo.Z≤z) && decide (z < b.Hi.Z)
def Zh (b : qg) : qi:={X0:=b.Lo.X,Y0:=b.Lo.Y,X1:=b.Hi.X,Y1:=b.Hi.Y}
def atB (l : List qg) (z : Int) : List qi:=l.flatMap fun b=>if covB z b = true then [Zh b] else []
theorem Jm (l : List qg) (x : Int) : (atB l x).length≤l.length:=by
  unfold atB
  induction l with
  | nil=>simp
  | cons r l ih=>
    simp only [List.flatMap_cons,List.length_append,List.length_cons]
    have : (if covB x r = true then [Zh r] else []).length≤1:=by split <;> simp
    omega
theorem qau (l : List qg) (hl : l.length≤1000000) (z : Int) : J0 l z = some (atB l z):=by
  have:=J4 l hl (fun b=>if covB z b = true then [Zh b] else []) [] (fun o=>o) (q55 l z) (fun k hk o ho=>by
    have h8 : o.length≤k:=by rw [ho,List.nil_append];have:=Jm (l.take k) z;rw [List.length_take,Nat.min_eq_left (by omega)] at this;exact this
    simp only [q55,dlt hk,cond_true,Ql hk,Option.bind_some,w64s hk hl]
    by_cases h1 : l[k].Lo.Z≤z
    · by_cases h2 : z < l[k].Hi.Z
      · simp only [h1,h2,decide_true,cond_true,Option.bind_some,covB,Bool.and_self,if_true]
        rw [Kq (by simp;omega)]
        rfl
      · simp only [h1,h2,decide_true,decide_false,cond_true,cond_false,Option.bind_some,covB,Bool.and_false,if_false,Bool.false_eq_true,List.append_nil]
    · simp only [h1,decide_false,cond_false,Option.bind_some,covB,Bool.false_and,if_false,Bool.false_eq_true,List.append_nil]) (fun o=>by simp only [q55,dnl,cond_false])
  rw [List.nil_append] at this
  unfold J0
  rw [this];rfl
def zsOf (l : List qg) : List Int:=l.flatMap fun b=>[b.Lo.Z,b.Hi.Z]
theorem Zm (l : List qg) : (zsOf l).length = 2 * l.length:=by
  unfold zsOf;induction l with
  | nil=>rfl
  | cons r l ih=>simp only [List.flatMap_cons,List.length_append,List.length_cons,List.length_nil];omega
theorem qse {p q : List qg} (h : p.length + q.length≤100000) : q7s p q = some (Qi (zsOf p ++ zsOf q)):=by
  have e1 : loop (q33 p) (0,[]) = some (zsOf p):=by
    have:=J4 p (by omega) (fun r=>[r.Lo.Z,r.Hi.Z]) [] (fun o=>o) (q33 p) (fun k hk o ho=>by
      have h8 : o.length = 2 * k:=by rw [ho,List.nil_append];have:=Zm (p.take k);rw [List.length_take,Nat.min_eq_left (by omega)] at this;exact this
      simp only [q33,dlt hk,cond_true,Ql hk,Option.bind_some,w64s hk (by omega)]
      rw [Kq (by simp;omega)]
      rfl) (fun o=>by simp only [q33,dnl,cond_false])
    rw [List.nil_append] at this
    exact this
  have e2 : loop (q34 q) (0,zsOf p) = some (zsOf p ++ zsOf q):=by
    have hp:=Zm p
    exact J4 q (by omega) (fun r=>[r.Lo.Z,r.Hi.Z]) (zsOf p) (fun o=>o) (q34 q) (fun k hk o ho=>by
      have h8 : o.length = 2 * p.length + 2 * k:=by
        rw [ho,List.length_append,hp];have:=Zm (q.take k);rw [List.length_take,Nat.min_eq_left (by omega)] at this
        unfold zsOf at this;omega
      simp only [q34,dlt hk,cond_true,Ql hk,Option.bind_some,w64s hk (by omega)]
      rw [Kq (by simp;omega)]
      rfl) (fun o=>by simp only [q34,dnl,cond_false])
  have h1:=Zm p
  have h2:=Zm q
  unfold q7s
  simp only [e1,e2,Option.bind_some,(Jo (l:=zsOf p ++ zsOf q) (by simp;omega)).1]
structure qf3 (kind : Int) (p q : List qg) (z : Int) : Prop where
  n : (atB p z).length + (atB q z).length≤400
  m : (mrgR kind (atB p z) (atB q z)).length≤400
  mp : (mrgR 2 (atB p z) []).length≤400
  mq : (mrgR 2 (atB q z) []).length≤400
noncomputable def secB (kind : Int) (p q : List qg) (z : Int) : List qi:=mrgR kind (atB p z) (atB q z)
theorem qpf (kind : Int) {p q : List qg} (h : p.length + q.length≤100000) {xs : List Int} (hx : xs.length≤1000000) {i : Nat} (hi : i + 1 < xs.length) (hok : qf3 kind p q xs[i]) (s : Mg qi qg) (hl : (s.flat putB).length + 400≤1000000)
    (h0 : i = 0→s.sec = []) (h1 : 0 < i→s.hi = xs[i]) :
    Uw xs p q kind (s.sec,(s.done.length : Int),(i : Int),s.flat putB) =
      some (.inl ((addM putB s xs[i] xs[i + 1] (secB kind p q xs[i])).sec,((addM putB s xs[i] xs[i + 1] (secB kind p q xs[i])).done.length : Int),((i + 1 : Nat) : Int),(addM putB s xs[i] xs[i + 1] (secB kind p q xs[i])).flat putB)):=by
  have hi0 : i < xs.length:=by omega
  have hw : w64 ((i : Int) + 1) = ((i + 1 : Nat) : Int):=w64s hi0 hx
  have hfl : (s.flat putB).length = s.done.length + s.sec.length:=by simp [Mg.flat]
  obtain ⟨hn,hm,hmp,hmq⟩:=hok
  have ap : J0 p xs[i] = some (atB p xs[i]):=qau p (by omega) _
  have aq : J0 q xs[i] = some (atB q xs[i]):=qau q (by omega) _
  have jj : Zg kind (atB p xs[i]) (atB q xs[i]) = some (secB kind p q xs[i]):=q52 kind hn
  have jp : Zg 2 (atB p xs[i]) [] = some (mrgR 2 (atB p xs[i]) []):=q52 2 (by simp;omega)
  have jq : Zg 2 (atB q xs[i]) [] = some (mrgR 2 (atB q xs[i]) []):=q52 2 (by simp;omega)
  have hm : (secB kind p q xs[i]).length≤400:=hm
  have d1 : decide (((secB kind p q xs[i]).length : Int) > 400) = false:=decide_eq_false (by omega)
  have d2 : decide (((mrgR 2 (atB p xs[i]) []).length : Int) > 400) = false:=decide_eq_false (by omega)
  have d3 : decide (((mrgR 2 (atB q xs[i]) []).length : Int) > 400) = false:=decide_eq_false (by omega)
  unfold Uw
  simp only [hw,dlt hi,cond_true,Ql hi0,ap,aq,jj,jp,jq,d1,d2,d3,cond_false,Option.bind_some]
  generalize hc : secB kind p q xs[i] = c at hm ⊢
  by_cases hsame : 0 < i∧c = s.sec
  · obtain ⟨hpos,hcs⟩:=hsame
    have hb : decide ((i : Int) > 0) = true:=decide_eq_true (by omega)
    have hext:=qa0 (fun v : qg=>({Lo:=v.Lo,Hi:=({X:=v.Hi.X,Y:=v.Hi.Y,Z:=xs[i + 1]} : qj)} : qg)) s.done (s.sec.map (putB s.lo s.hi)) (by simp;omega) (q36 xs (s.sec,(s.done.length : Int),(i : Int),s.flat putB)) (fun k o hk ho=>by
      have h5 : (s.done ++ s.sec.map (putB s.lo s.hi)).length = (s.flat putB).length:=rfl
      simp only [q36,dlt hk,cond_true,Ql hk,Ql hi,hw,Option.bind_some,w64s hk (by omega),Int.toNat_natCast]) (fun o=>by simp only [q36,dnl,cond_false])
    have hsp : q53 c s.sec = some true:=by rw [qjr _ _ (by omega)];simp [hcs]
    have hext : loop (q36 xs (s.sec,(s.done.length : Int),(i : Int),s.flat putB)) ((s.done.length : Int),s.flat putB) = _:=hext
    simp only [hb,cond_true,hsp,Option.bind_some,hext]
    rcases Ue putB s xs[i] xs[i + 1] c with ⟨_,_,_,h4⟩ | ⟨h3,h4⟩
    · rw [h4]
      simp only [Mg.flat,List.map_map]
      rfl
    · have hnil : c = []:=Classical.byContradiction fun hn=>h3 ⟨hn,hcs,h1 hpos⟩
      rw [h4]
      simp [Mg.flat,← hcs,hnil]
  · have hcnd : (cond (decide ((i : Int) > 0)) ((q53 c s.sec).bind fun r721=>some r721) (some false)) = some false:=by
      by_cases hpos : 0 < i
      · have hb : decide ((i : Int) > 0) = true:=decide_eq_true (by omega)
        have hne : c≠s.sec:=fun h=>hsame ⟨hpos,h⟩
        rw [hb,cond_true,qjr _ _ (by omega)]
        simp [hne]
      · have hb : decide ((i : Int) > 0) = false:=decide_eq_false (by omega)
        rw [hb,cond_false]
    have hap:=q7a c (putB xs[i] xs[i + 1]) (s.flat putB) (fun o=>(c,((s.flat putB).length : Int),o)) (q57 c xs (s.sec,(s.done.length : Int),(i : Int),s.flat putB)) (fun k hk o ho=>by
      simp only [q57,dlt hk,cond_true,Ql hk,Ql hi0,Ql hi,hw,Option.bind_some,w64s hk (by omega)]
      rw [Kq (by simp;omega)]
      rfl) (fun o=>by simp only [q57,dnl,cond_false])
    have h4 : addM putB s xs[i] xs[i + 1] c = ⟨s.flat putB,c,xs[i],xs[i + 1]⟩:=by
      rcases Ue putB s xs[i] xs[i + 1] c with ⟨g1,g2,_,_⟩ | ⟨_,h4⟩
      · refine absurd ?_ hsame
        refine ⟨Nat.pos_of_ne_zero fun h=>g1 ?_,g2⟩
        rw [g2,h0 h]
      · exact h4
    rw [h4]
    simp only [hcnd,Option.bind_some,cond_false,hap]
    simp [Mg.flat]
noncomputable def mrgB (kind : Int) (p q : List qg) : List qg:=(Qs putB Qq (Y6 (Qi (zsOf p ++ zsOf q)) (secB kind p q))).flat putB
section
variable {σ β : Type} (put : Int→Int→σ→β)
def Alike (s t : Mg σ β) : Prop:=s = t∨(s.flat put = t.flat put∧s.sec = []∧t.sec = [])
theorem Alike.flat {s t : Mg σ β} (h : Alike put s t) : s.flat put = t.flat put:=by
  rcases h with rfl | h
  · rfl
  · exact h.1
end
section
variable {σ β : Type} [DecidableEq σ] (put : Int→Int→σ→β)
def runM (sec : Int→List σ) : Mg σ β→List Int→Mg σ β
  | s,a::b::r=>runM sec (addM put s a b (sec a)) (b::r)
  | s,_=>s
theorem qgw (sec : Int→List σ) : ∀ (cuts : List Int) (s : Mg σ β),Qs put s (Y6 cuts sec) = runM put sec s cuts
  | [],s=>rfl
  | [a],s=>rfl
  | a::b::r,s=>by
    have:=qgw sec (b::r) (addM put s a b (sec a))
    simp only [runM,← this]
    rfl
theorem Alike.add {s t : Mg σ β} (h : Alike put s t) (a b : Int) (c : List σ) : Alike put (addM put s a b c) (addM put t a b c):=by
  rcases h with rfl | ⟨h1,h2,h3⟩
  · exact .inl rfl
  · refine .inl ?_
    rcases Ue put s a b c with ⟨g1,g2,_,_⟩ | ⟨_,g4⟩
    · exact absurd (g2.trans h2) g1
    · rcases Ue put t a b c with ⟨e1,e2,_,_⟩ | ⟨_,e4⟩
      · exact absurd (e2.trans h3) e1
      · rw [g4,e4,h1]
end
end Go.Sh
